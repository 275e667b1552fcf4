/- Texts laid together: Made7, Door2, Door3, Door4, Door5, TakeW, ReadW, TurnedW, WriteW, TellsW, RowsW, RowscW. -/
import Derived.Test.YtpekelggcmgnnaaDoorCodR
import Derived.Deep.CutRange
import Derived.Test.YtpekelggcmgnnaaDoorDoor
import Derived.Test.YtpekelggcmgnnaaDoorCod4
import Derived.Test.YtpekelggcmgnnaaDoorRef01
import Derived.Test.YtpekelggcmgnnaaDoorOne
import Derived.Test.YtpekelggcmgnnaaDoorCardRowsZ1
/- quantumlaw07.Made: the walk. -/
namespace Go.Proofs.YtpekelggcmgnnaaDoor
open Go.RowKit

theorem flat_take {α : Type} (f : α → List Value) (sz : Nat) (hf : ∀ x, (f x).length = sz) : ∀ (l : List α) (k : Nat), (l.flatMap f).take (k * sz) = (l.take k).flatMap f
  | [], _ => by simp
  | _ :: _, 0 => by simp
  | x :: l, k + 1 => by
    rw [List.flatMap_cons, List.take_succ_cons, List.flatMap_cons, List.take_append, List.take_of_length_le (by rw [hf, Nat.succ_mul]; omega), hf, ← flat_take f sz hf l k]
    congr 2
    rw [Nat.succ_mul]; omega
def smL (x : Sm) : List Value := x.cells.toList
theorem smL_len (x : Sm) : (smL x).length = 11 := rfl
theorem si_sm : SI Tryd.prog 46 11 := ⟨by kernel_rfl, by kernel_rfl⟩
theorem sm_cells11 (x : Sm) : x.cells.size = 11 := rfl
theorem sm_one (x : Sm) : ∀ v ∈ x.cells.toList, v.oneCell' = true := by intro v hv; simp [Sm.cells] at hv; rcases hv with rfl | rfl | rfl | rfl | rfl | rfl | rfl | rfl | rfl | rfl | rfl <;> rfl
theorem ei_sm : EI Tryd.prog 39 46 (.agg (Sm.cells ⟨0, 0, 0, 0, 0, 0, 0, 0, 0, 0, 0⟩)) 11 48 := ⟨by kernel_rfl, by kernel_rfl, rfl, by omega⟩
/-- What a call hands over: a row of events of the call's own. -/
structure RowsPost (w : World) (es : List Ev) (r : Ending) (w' : World) : Prop where
  ret : ∃ v, r = .returned v ∧ w'.ownsRow w.heap.size 37 11 v es.length (es.flatMap evL)
  below : Below w.heap.size w w'
/-- A number of the base is turned, behind a literal laid beside it. -/
theorem base_step {w W : World} {B g gy ge : Nat} {c0 c1 : Value} {tb : TypeId} {Oy Oe : Obj} (hB : Below B w W) (hBW : B ≤ W.heap.size) (hg : B ≤ g) (hbg : W.heap[g]? = some (.cells #[c0, c1] tb (0, 0))) (hby : W.heap[gy]? = some Oy) (hbe : W.heap[ge]? = some Oe) (hn1 : gy ≠ g) (hn2 : ge ≠ g) (o : Nat) (v : Value) (O : Obj) :
    (((W.setCell ⟨g, o, none⟩ v).alloc O).drew).heap[g]? = some (.cells (#[c0, c1].setIfInBounds o v) tb (0, 0)) ∧ (((W.setCell ⟨g, o, none⟩ v).alloc O).drew).heap[gy]? = some Oy ∧ (((W.setCell ⟨g, o, none⟩ v).alloc O).drew).heap[ge]? = some Oe ∧ Below B w (((W.setCell ⟨g, o, none⟩ v).alloc O).drew) ∧ W.heap.size + 1 ≤ (((W.setCell ⟨g, o, none⟩ v).alloc O).drew).heap.size ∧ W.grownBy (((W.setCell ⟨g, o, none⟩ v).alloc O).drew) (some g) := by
  have hs : (W.setCell ⟨g, o, none⟩ v).heap.size = W.heap.size := by simp [World.setCell]
  have h1 : ∀ k, k < W.heap.size → (((W.setCell ⟨g, o, none⟩ v).alloc O).drew).heap[k]? = (W.setCell ⟨g, o, none⟩ v).heap[k]? := fun k hk => Below.heap_alloc _ _ _ (by rw [hs]; exact hk)
  refine ⟨(h1 g (blk_lt hbg)).trans ?_, (h1 gy (blk_lt hby)).trans ((Below.heap_setCell _ _ _ _ hn1).trans hby), (h1 ge (blk_lt hbe)).trans ((Below.heap_setCell _ _ _ _ hn2).trans hbe), ?_, ?_, ?_⟩
  · simp [World.setCell, Array.getElem?_modify, hbg]
  · exact ((hB.setCell hg _).alloc (by rw [hs]; exact hBW) _).drew
  · show _ ≤ ((W.setCell ⟨g, o, none⟩ v).alloc O).heap.size
    rw [World.size_alloc, hs]; omega
  · refine ⟨rfl, rfl, rfl, ?_, fun k hk hn => ?_⟩
    · show W.heap.size ≤ ((W.setCell ⟨g, o, none⟩ v).alloc O).heap.size
      rw [World.size_alloc, hs]; omega
    · exact (h1 k hk).trans (Below.heap_setCell _ _ _ _ (fun e => hn (by rw [e])))
/-- Number and time of an event are turned. -/
theorem moved_step {w W : World} {B g ge : Nat} {e : Ev} {te : TypeId} {Og : Obj} (hB : Below B w W) (hge : B ≤ ge) (hbg : W.heap[g]? = some Og) (hbe : W.heap[ge]? = some (.cells e.cells te (0, 0))) (hn : g ≠ ge) (s t : Int) (W' : World)
    (hW : W' = ((W.setCell ⟨ge, 0, none⟩ (.int .i64 s)).setCell ⟨ge, 1, none⟩ (.int .i64 t)).drew ∨ W' = ((W.setCell ⟨ge, 1, none⟩ (.int .i64 t)).setCell ⟨ge, 0, none⟩ (.int .i64 s)).drew) :
    W'.heap[g]? = some Og ∧ W'.heap[ge]? = some (.cells (e.moved s t).cells te (0, 0)) ∧ Below B w W' ∧ W.grownBy W' (some ge) := by
  have key : ∀ (i j : Nat) (u v : Value), ((e.cells.setIfInBounds i u).setIfInBounds j v) = (e.moved s t).cells →
      (((W.setCell ⟨ge, i, none⟩ u).setCell ⟨ge, j, none⟩ v).drew).heap[g]? = some Og ∧ (((W.setCell ⟨ge, i, none⟩ u).setCell ⟨ge, j, none⟩ v).drew).heap[ge]? = some (.cells (e.moved s t).cells te (0, 0)) ∧ Below B w (((W.setCell ⟨ge, i, none⟩ u).setCell ⟨ge, j, none⟩ v).drew) ∧ W.grownBy (((W.setCell ⟨ge, i, none⟩ u).setCell ⟨ge, j, none⟩ v).drew) (some ge) := by
    intro i j u v h
    have hsame : (((W.setCell ⟨ge, i, none⟩ u).setCell ⟨ge, j, none⟩ v).drew).heap[ge]? = some (.cells (e.moved s t).cells te (0, 0)) := by
      rw [← h]; simp [World.setCell, World.drew, Array.getElem?_modify, hbe]
    refine ⟨?_, hsame, ((hB.setCell hge _).setCell hge _).drew, ⟨rfl, rfl, rfl, by simp [World.setCell, World.drew], fun k hk hnk => ?_⟩⟩
    · exact (Below.heap_setCell _ _ _ _ hn).trans ((Below.heap_setCell _ _ _ _ hn).trans hbg)
    · exact (Below.heap_setCell _ _ _ _ (fun e => hnk (by rw [e]))).trans (Below.heap_setCell _ _ _ _ (fun e => hnk (by rw [e])))
  rcases hW with rfl | rfl
  · exact key 0 1 _ _ rfl
  · exact key 1 0 _ _ rfl
theorem Rd.blockAt (w : World) (cs : List Value) (t : TypeId) (sz b : Nat) (hb : w.heap.size = b) (hs : cs.length = sz) : Rd (w.alloc (.cells cs.toArray t)).drew (b + 1) sz (some ⟨b, 0, none⟩) 1 cs := by subst hb; exact Rd.block w cs t sz hs
theorem step_ev {cpu : Nat} {x y : Sm} {a : Bs} {z : Ev} {S1 R1 S2 R2 : Nat} (hyx : ({ x with cpu := cpu } : Sm) = y) (h1 : stepS x.kind = S1) (h2 : x.seq % S1 = R1) (h3 : stepT x.kind = S2) (h4 : x.time % S2 = R2) (hz : y.ev.moved (a.seq + (1 + (R1 : Int))) (a.time + (R2 : Int)) = z) (r : List Sm) :
    madeGo cpu a (x :: r) = z :: madeGo cpu ⟨a.seq + (1 + (R1 : Int)), a.time + (R2 : Int)⟩ r := by
  subst hyx h1 h2 h3 h4 hz
  rw [madeGo]
  have hs : a.step x = ⟨a.seq + (1 + ((x.seq % stepS x.kind : Nat) : Int)), a.time + ((x.time % stepT x.kind : Nat) : Int)⟩ := by
    unfold Bs.step
    simp
  rw [hs]
theorem own_undrew {X : World} {base : Nat} {e : TypeId} {size : Nat} {v : Value} {n : Nat} {xs : List Value} (h : X.drew.ownsRow base e size v n xs) : X.ownsRow base e size v n xs := h
theorem size_set2 (W : World) (p q : Addr) (u v : Value) : ((W.setCell p u).setCell q v).heap.size = W.heap.size := by simp [World.setCell]
def Made7Rel (w : World) (g : Nat) (cpu : Nat) (b : Bs) (l : List Sm) (m : Nat) (v i : Value) (wr : World) : Prop :=
  ∃ (k : Nat) (pre : List Ev) (a : Bs), k ≤ m ∧ i = .int .i64 (k : Int) ∧ madeGo cpu b.start l = pre ++ madeGo cpu a (l.drop k) ∧ pre.length = k ∧
    wr.ownsRow w.heap.size 37 11 v k (pre.flatMap evL) ∧ (∀ h, v.ownBlock = some h → h ≠ g) ∧
    wr.heap[g]? = some (.cells a.cells 23 (0, 0)) ∧
    0 ≤ a.seq ∧ a.seq ≤ 1099511627776 + 4294967296 * (k : Int) ∧ 0 ≤ a.time ∧ a.time ≤ 1099511627776 + 4294967296 * (k : Int) ∧ Below w.heap.size w wr

/-- What lies behind the event's literal. -/
theorem tail_facts {w X : World} {B g : Nat} {Og : Obj} (hg : X.drew.heap[g]? = some Og) (hB : Below B w X.drew) (hBX : B ≤ X.heap.size) (O : Obj) :
    B ≤ ((X.alloc O).drew).heap.size ∧ g < ((X.alloc O).drew).heap.size ∧ ((X.alloc O).drew).heap[g]? = some Og ∧ Below B w ((X.alloc O).drew) := by
  have hs : ((X.alloc O).drew).heap.size = X.heap.size + 1 := by show (X.alloc O).heap.size = _; rw [World.size_alloc]
  have hl : g < X.heap.size := blk_lt (show X.heap[g]? = some Og from hg)
  have hB' : Below B w X := ⟨hB.os, hB.tape, hB.output, hB.size, hB.block⟩
  exact ⟨by omega, by omega, (Below.heap_alloc X O g hl).trans hg, (hB'.alloc hBX O).drew⟩
theorem made7_next {w Wx w5 : World} {g cpu M k : Nat} {b a a' : Bs} {l : List Sm} {x : Sm} {pre : List Ev} {z : Ev} {A1 A2 : Option Addr} {c1 c2 : Nat}
    (hlt : k < M) (hsp : madeGo cpu b.start l = pre ++ madeGo cpu a (l.drop k)) (hdr : l.drop k = x :: l.drop (k + 1)) (hst : madeGo cpu a (x :: l.drop (k + 1)) = z :: madeGo cpu a' (l.drop (k + 1))) (hpl : pre.length = k)
    (hne : ∀ h, (Value.slice A1 k c1).ownBlock = some h → h ≠ g) (hbase : ∀ h, (Value.slice A1 k c1).ownBlock = some h → w.heap.size ≤ h)
    (hf : w.heap.size ≤ Wx.heap.size ∧ g < Wx.heap.size ∧ Wx.heap[g]? = some (.cells a'.cells 23 (0, 0)) ∧ Below w.heap.size w Wx)
    (hown5 : w5.ownsRow w.heap.size 37 11 (.slice A2 (k + 1) c2) (k + 1) (pre.flatMap evL ++ evL z)) (hgr5 : Wx.grownBy w5 (Value.slice A1 k c1).ownBlock)
    (hbl5 : (Value.slice A2 (k + 1) c2).ownBlock = (Value.slice A1 k c1).ownBlock ∨ (Value.slice A2 (k + 1) c2).ownBlock = some Wx.heap.size)
    (ha1 : 0 ≤ a'.seq) (ha2 : a'.seq ≤ 1099511627776 + 4294967296 * ((k : Int) + 1)) (ha3 : 0 ≤ a'.time) (ha4 : a'.time ≤ 1099511627776 + 4294967296 * ((k : Int) + 1)) :
    Made7Rel w g cpu b l M (.slice A2 (k + 1) c2) (.int .i64 ((k : Int) + 1)) w5 := by
  obtain ⟨f1, f2, f3, f4⟩ := hf
  refine ⟨k + 1, pre ++ [z], a', by omega, by go_num, ?_, by simp [hpl], ?_, ?_, ?_, ha1, by omega, ha3, by omega, ?_⟩
  · rw [hsp, hdr, hst, List.append_assoc]; rfl
  · rw [List.flatMap_append]; simpa using hown5
  · intro h hh
    rcases hbl5 with h1 | h1
    · exact hne h (h1.symm.trans hh)
    · have h3 := h1.symm.trans hh
      injection h3 with h3
      omega
  · exact (hgr5.block g f2 (fun e => hne g e.symm rfl)).trans f3
  · exact f4.grown hgr5 f1 hbase
set_option maxRecDepth 100000 in
set_option maxHeartbeats 4000000 in
theorem made7_any (cpu : Nat) (hcpu : cpu < 256) (b : Bs) (hb : b.Ok) (A : Option Addr) (n c : Nat) (l : List Sm) (hl : ∀ x ∈ l, x.Ok) (w : World) (hr : Rd w w.heap.size 11 A n (l.flatMap smL)) (hc : n ≤ c) (hn : n ≤ 9223372036854775807) :
    Calls Tryd.prog 15 #[.int .u8 (cpu : Int), .agg b.cells, .slice A n c] w (RowsPost w (madeL cpu b l)) := by
  have hlen : l.length = n := by have := hr.len; rw [flat_len smL 11 smL_len] at this; omega
  obtain ⟨_, hs1, hs2, ht1, ht2⟩ := based_right b
  obtain ⟨s, hs⟩ : ∃ s, b.based.seq = s := ⟨_, rfl⟩
  obtain ⟨t, ht⟩ : ∃ t, b.based.time = t := ⟨_, rfl⟩
  have hbc : b.based.cells = #[.int .i64 s, .int .i64 t] := by rw [← hs, ← ht]; rfl
  have HST := hide (show b.start = ⟨s - 1, t⟩ by rw [← hs, ← ht]; rfl)
  have HBA := hide (fun W => (based_any b hb W).mono (R' := fun r w' => r = .returned (.agg #[.int .i64 s, .int .i64 t]) ∧ Below W.heap.size W w') fun r w' h => ⟨by rw [h.ret, hbc], h.below⟩)
  rw [hs] at hs1 hs2
  rw [ht] at ht1 ht2
  have HX := hide (range_of_block (World.alloc_heap_new w (.cells b.cells 23)))
  have HB2 := hide (bs_cells2 b)
  have hb1 : Below w.heap.size w (w.alloc (.cells b.cells 23)) := (Below.refl _ _).alloc (Nat.le_refl _) _
  have HLN := hide hlen
  obtain ⟨M, hM⟩ : ∃ M, min n 200 = M := ⟨_, rfl⟩
  have hM1 : M ≤ n := by omega
  have hM2 : M ≤ 200 := by omega
  have hm1 : min (n : Int) 200 = (M : Int) := by omega
  have hm2 : (if (n : Int) ≤ 200 then (n : Int) else 200) = (M : Int) := by split <;> omega
  have hm3 : (if (n : Int) < 200 then (n : Int) else 200) = (M : Int) := by split <;> omega
  have hm4 : (if (200 : Int) < (n : Int) then (200 : Int) else (n : Int)) = (M : Int) := by split <;> omega
  have HM := hide hM
  clear hM
  have hnl : 0 ≤ (n : Int) := by omega
  clear hs ht hbc hlen
  generalize b.cells = ds at *
  go_enter Tryd.func15, Tryd.ntmps15
  go_wp2_with (first
    | (with_reducible refine load_wp HX.out rfl rfl rfl si_bs HB2.out ?_)
    | (go_at_call 16; refine (HBA.out _).mono ?_; rintro r w1 ⟨rfl, hb2⟩))
  clear hm1 hm2 hm3 hm4
  have hb3 : Below w.heap.size w w1 := hb1.trans (hb2.mono (by simp))
  have hg : w.heap.size < w1.heap.size := by have := hb2.size; simp at this; omega
  have HRT := hr.upto (k := M) (by omega)
  rw [flat_take smL 11 smL_len] at HRT
  have HRT := hide HRT
  go_loopw [8, 24] (Made7Rel w w1.heap.size cpu b (l.take M) M) (fun _ i _ => M - (intOf i).toNat)
  case atStart =>
    refine ⟨0, [], ⟨s - 1, t⟩, by omega, rfl, by rw [HST.out]; rfl, rfl, World.ownsRow_nil _ _ _ _, (fun h hh => by cases hh), World.alloc_heap_new w1 _, ?_, ?_, ?_, ?_, hb3.alloc (by omega) _⟩
    all_goals simp; omega
  case round =>
    obtain ⟨k, pre, a, hk, rfl, hsp, hpl, hown, hne, hbx, ha1, ha2, ha3, ha4, hB⟩ := hrel
    have hkl : (l.take M).length = M := by rw [List.length_take, HLN.out]; omega
    have hz := hB.size
    obtain ⟨A1, c1, rfl⟩ := own_form hown
    by_cases hlt : k < M
    · have h0M : 0 < M := by omega
      obtain ⟨gA, oA, hA, hgb, _, hcells⟩ := (HRT.out.below hB).struct smL_len (by omega) h0M
      subst hA
      have hE0 := hcells k (by omega)
      have hx := hl _ (List.mem_of_mem_take (List.getElem_mem (by omega : k < (l.take M).length)))
      have HDR := hide (List.drop_eq_getElem_cons (by omega : k < (l.take M).length))
      obtain ⟨x, hxe⟩ : ∃ x, (l.take M)[k] = x := ⟨_, rfl⟩
      rw [hxe] at hE0 hx HDR
      have hE := hide (show wr.rangeAt gA (oA + k * 11) x.cells.toList from hE0)
      obtain ⟨y, hyx⟩ : ∃ y : Sm, ({ x with cpu := cpu } : Sm) = y := ⟨_, rfl⟩
      have hy : y.Ok := by rw [← hyx]; exact ⟨hx.kind, hcpu, hx.seq, hx.time, hx.task, hx.group, hx.to, hx.weight, hx.ticks, hx.got, hx.mask⟩
      have HXC := hide (sm_cells11 x)
      have HYC := hide (sm_cells11 y)
      have HX1 := hide (sm_one x)
      have hS : x.cells.setIfInBounds 1 (.int .u8 (cpu : Int)) = y.cells := by rw [← hyx]; rfl
      have HSM := hide (fun W => (small_any y hy W).mono (R' := fun r w' => r = .returned (.agg y.ev.cells) ∧ Below W.heap.size W w') fun r w' h => ⟨h.ret, h.below⟩)
      have HEC := hide (ev_cells11 y.ev)
      have HE1 := hide (ev_one y.ev)
      have p1 : x.cells[1]? = some (.int .u8 (x.cpu : Int)) := rfl
      have q0 : y.cells[0]? = some (.int .u8 (x.kind : Int)) := by rw [← hyx]; rfl
      have q2 : y.cells[2]? = some (.int .u32 (x.seq : Int)) := by rw [← hyx]; rfl
      have q3 : y.cells[3]? = some (.int .u32 (x.time : Int)) := by rw [← hyx]; rfl
      have HYX := hide hyx
      have HXO := hide hx
      clear hyx hx
      generalize hxs : x.cells = xs at *
      generalize hys : y.cells = ys at *
      generalize hes : y.ev.cells = es at *
      have HES := hide hes
      clear hcells hxe hE0 hxs hys hes
      go_wp2_with (first
        | (with_reducible refine load_wp hE.out rfl rfl rfl si_sm HXC.out ?_)
        | (refine store_new rfl rfl rfl rfl si_sm rfl HXC.out HX1.out ?_)
        | (with_reducible refine load_wp (range_of_block (World.alloc_heap_new wr (.cells ys 46))) rfl rfl rfl si_sm HYC.out ?_)
        | (go_at_call 37; refine (HSM.out _).mono ?_; rintro r w3 ⟨rfl, hb4⟩)
        | (refine store_new rfl rfl rfl rfl si_ev rfl HEC.out HE1.out ?_))
      have z4 : wr.heap.size + 1 ≤ w3.heap.size := by have := hb4.size; simpa using this
      have hgr : w1.heap.size < wr.heap.size := blk_lt hbx
      have hb5 : Below (wr.heap.size + 1) (wr.alloc (.cells ys 46)) (w3.alloc (.cells es 37)) := (hb4.mono (by simp)).alloc z4 _
      have hbg : (w3.alloc (.cells es 37)).heap[w1.heap.size]? = some (.cells a.cells 23 (0, 0)) := (hb5.block _ (by omega)).trans ((Below.heap_alloc _ _ _ hgr).trans hbx)
      have hby : (w3.alloc (.cells es 37)).heap[wr.heap.size]? = some (.cells ys 46 (0, 0)) := (hb5.block _ (by omega)).trans (World.alloc_heap_new wr _)
      have hbe : (w3.alloc (.cells es 37)).heap[w3.heap.size]? = some (.cells es 37 (0, 0)) := World.alloc_heap_new w3 _
      have hz2 : w3.heap.size < (w3.alloc (.cells es 37)).heap.size := by simp
      have hB2 : Below w.heap.size w (w3.alloc (.cells es 37)) := (hB.alloc hz _).trans (hb5.mono (by omega))
      obtain ⟨W2, hW2⟩ : ∃ W2, w3.alloc (.cells es 37) = W2 := ⟨_, rfl⟩
      rw [hW2] at hbg hby hbe hz2 hb5 hB2 ⊢
      have HW2 := hide hW2
      have g0 : W2.cell? ⟨w1.heap.size, 0, none⟩ = some (.int .i64 a.seq) := by simp [World.cell?, hbg, Bs.cells]
      have g1 : W2.cell? ⟨w1.heap.size, 1, none⟩ = some (.int .i64 a.time) := by simp [World.cell?, hbg, Bs.cells]
      have gf : ∀ o, W2.frozen? ⟨w1.heap.size, o, none⟩ = false := fun o => by simp [World.frozen?, hbg]
      have y0 : W2.cell? ⟨wr.heap.size, 0, none⟩ = some (.int .u8 (x.kind : Int)) := by simp [World.cell?, hby, q0]
      have y2 : W2.cell? ⟨wr.heap.size, 2, none⟩ = some (.int .u32 (x.seq : Int)) := by simp [World.cell?, hby, q2]
      have y3 : W2.cell? ⟨wr.heap.size, 3, none⟩ = some (.int .u32 (x.time : Int)) := by simp [World.cell?, hby, q3]
      have hk1 := HXO.out.kind
      have hk2 := HXO.out.seq
      have hk3 := HXO.out.time
      have z5 : w1.heap.size < w3.heap.size := by omega
      have z6 : wr.heap.size < W2.heap.size := by omega
      have z7 : w1.heap.size < W2.heap.size := by omega
      have g0' : ∀ o, (W2.alloc o).cell? ⟨w1.heap.size, 0, none⟩ = some (.int .i64 a.seq) := fun o => (World.cell?_alloc_lt W2 o ⟨w1.heap.size, 0, none⟩ z7).trans g0
      have gf' : ∀ o i, (W2.alloc o).frozen? ⟨w1.heap.size, i, none⟩ = false := fun o i => (World.frozen?_alloc_old W2 o ⟨w1.heap.size, i, none⟩ (Nat.ne_of_lt z7)).trans (gf i)
      have y0' : ∀ o, (W2.alloc o).cell? ⟨wr.heap.size, 0, none⟩ = some (.int .u8 (x.kind : Int)) := fun o => (World.cell?_alloc_lt W2 o ⟨wr.heap.size, 0, none⟩ z6).trans y0
      have y2' : ∀ o, (W2.alloc o).cell? ⟨wr.heap.size, 2, none⟩ = some (.int .u32 (x.seq : Int)) := fun o => (World.cell?_alloc_lt W2 o ⟨wr.heap.size, 2, none⟩ z6).trans y2
      obtain ⟨J, hJ⟩ : ∃ J, x.kind / 16 % 4 = J := ⟨_, rfl⟩
      obtain ⟨S1, hS1⟩ : ∃ J, stepS x.kind = J := ⟨_, rfl⟩
      obtain ⟨R1, hR1⟩ : ∃ J, x.seq % S1 = J := ⟨_, rfl⟩
      have hJ4 : J < 4 := by omega
      have hSJ : (#[.int .i64 1, .int .i64 3, .int .i64 200, .int .i64 4294967296] : Array Value)[J]? = some (.int .i64 (S1 : Int)) ∧ 0 < S1 := by
        unfold stepS at hS1
        rw [hJ] at hS1
        have h4 : J = 0 ∨ J = 1 ∨ J = 2 ∨ J = 3 := by omega
        rcases h4 with rfl | rfl | rfl | rfl <;> (subst hS1; exact ⟨rfl, by decide⟩)
      have hlit : (W2.alloc (.cells #[.int .i64 1, .int .i64 3, .int .i64 200, .int .i64 4294967296] 3)).cell? ⟨W2.heap.size, J, none⟩ = some (.int .i64 (S1 : Int)) := by rw [World.cell?_alloc_new]; exact hSJ.1
      have hS0 : (0 : Int) < (S1 : Int) := by have := hSJ.2; omega
      have hS0' : ((S1 : Int) == 0) = false := by rw [beq_eq_false_iff_ne]; omega
      have hS0'' : (S1 : Int) ≠ 0 := by omega
      have htm : ((x.kind : Int) / 16).tmod 4 = (J : Int) := by rw [Int.tmod_eq_emod_of_nonneg (by omega), ← hJ]; simp
      have htr : ((x.seq : Int)).tmod (S1 : Int) = (R1 : Int) := by rw [Int.tmod_eq_emod_of_nonneg (by omega), ← hR1]; simp
      have hRb : R1 ≤ x.seq := by rw [← hR1]; exact Nat.mod_le _ _
      have HR1 := hide hR1
      have HS1 := hide hS1
      have hJi : 0 ≤ (J : Int) := by omega
      have hJi4 : (J : Int) < 4 := by omega
      have hR0 : 0 ≤ (R1 : Int) := by omega
      have hRm : (R1 : Int) ≤ 4294967296 := by omega
      have ha2' : a.seq ≤ 1958505087000000 := by omega
      have HQ := hide (And.intro q0 q3)
      clear hW2 hb5 q0 q2 q3 p1 hS hr hR1 hS1 hJ hSJ
      have hbs := base_step hB2 hB2.size (by omega : w.heap.size ≤ w1.heap.size) hbg hby hbe (by omega) (by omega) 0 (.int .i64 (a.seq + (1 + (R1 : Int)))) (.cells #[.int .i64 1, .int .i64 3, .int .i64 200, .int .i64 4294967296] 3)
      have HBS := hide hbs
      clear hbs hbg hby hbe
      go_frame
      go_cut [] from 32 to 47 (fun wx => Hid ((((W2.setCell ⟨w1.heap.size, 0, none⟩ (.int .i64 (a.seq + (1 + (R1 : Int))))).alloc (.cells #[.int .i64 1, .int .i64 3, .int .i64 200, .int .i64 4294967296] 3)).drew) = wx))
      case first =>
        go_region
        all_goals (go_wp2_with fail; go_meet; exact hide rfl)
      clear g0' gf' y0' y2' hlit g0 g1 gf y0 y2 y3 hS0 hS0' hS0'' htm htr hJi hJi4 hJ4
      have hW3 := hcut.out
      obtain ⟨b31, b32, b33, b34, b35, b36⟩ := HBS.out
      rw [hW3] at b31 b32 b33 b34 b35 b36
      clear hcut
      obtain ⟨W3, hWW⟩ : ∃ W3, wc = W3 := ⟨_, rfl⟩
      rw [hWW] at b31 b32 b33 b34 b35 b36 ⊢
      clear hWW
      go_wp2
      clear hW3 HBS
      have b31' : W3.heap[w1.heap.size]? = some (.cells #[.int .i64 (a.seq + (1 + (R1 : Int))), .int .i64 a.time] 23 (0, 0)) := b31
      clear b31
      have z8 : wr.heap.size < W3.heap.size := by omega
      have z9 : w1.heap.size < W3.heap.size := by omega
      have g0 : W3.cell? ⟨w1.heap.size, 0, none⟩ = some (.int .i64 (a.seq + (1 + (R1 : Int)))) := by simp [World.cell?, b31']
      have g1 : W3.cell? ⟨w1.heap.size, 1, none⟩ = some (.int .i64 a.time) := by simp [World.cell?, b31']
      have gf : ∀ o, W3.frozen? ⟨w1.heap.size, o, none⟩ = false := fun o => by simp [World.frozen?, b31']
      have y0 : W3.cell? ⟨wr.heap.size, 0, none⟩ = some (.int .u8 (x.kind : Int)) := by simp [World.cell?, b32, HQ.out.1]
      have y3 : W3.cell? ⟨wr.heap.size, 3, none⟩ = some (.int .u32 (x.time : Int)) := by simp [World.cell?, b32, HQ.out.2]
      have g1' : ∀ o, (W3.alloc o).cell? ⟨w1.heap.size, 1, none⟩ = some (.int .i64 a.time) := fun o => (World.cell?_alloc_lt W3 o ⟨w1.heap.size, 1, none⟩ z9).trans g1
      have gf' : ∀ o i, (W3.alloc o).frozen? ⟨w1.heap.size, i, none⟩ = false := fun o i => (World.frozen?_alloc_old W3 o ⟨w1.heap.size, i, none⟩ (Nat.ne_of_lt z9)).trans (gf i)
      have y0' : ∀ o, (W3.alloc o).cell? ⟨wr.heap.size, 0, none⟩ = some (.int .u8 (x.kind : Int)) := fun o => (World.cell?_alloc_lt W3 o ⟨wr.heap.size, 0, none⟩ z8).trans y0
      have y3' : ∀ o, (W3.alloc o).cell? ⟨wr.heap.size, 3, none⟩ = some (.int .u32 (x.time : Int)) := fun o => (World.cell?_alloc_lt W3 o ⟨wr.heap.size, 3, none⟩ z8).trans y3
      obtain ⟨J2, hJ⟩ : ∃ J, x.kind / 64 = J := ⟨_, rfl⟩
      obtain ⟨S2, hS2⟩ : ∃ J, stepT x.kind = J := ⟨_, rfl⟩
      obtain ⟨R2, hR2⟩ : ∃ J, x.time % S2 = J := ⟨_, rfl⟩
      have hJ4 : J2 < 4 := by omega
      have hSJ : (#[.int .i64 1, .int .i64 300, .int .i64 100000, .int .i64 4294967296] : Array Value)[J2]? = some (.int .i64 (S2 : Int)) ∧ 0 < S2 := by
        unfold stepT at hS2
        rw [hJ] at hS2
        have h4 : J2 = 0 ∨ J2 = 1 ∨ J2 = 2 ∨ J2 = 3 := by omega
        rcases h4 with rfl | rfl | rfl | rfl <;> (subst hS2; exact ⟨rfl, by decide⟩)
      have hlit : (W3.alloc (.cells #[.int .i64 1, .int .i64 300, .int .i64 100000, .int .i64 4294967296] 3)).cell? ⟨W3.heap.size, J2, none⟩ = some (.int .i64 (S2 : Int)) := by rw [World.cell?_alloc_new]; exact hSJ.1
      have hS0 : (0 : Int) < (S2 : Int) := by have := hSJ.2; omega
      have hS0' : ((S2 : Int) == 0) = false := by rw [beq_eq_false_iff_ne]; omega
      have hS0'' : (S2 : Int) ≠ 0 := by omega
      have htm : (x.kind : Int) / 64 = (J2 : Int) := by rw [← hJ]; simp
      have htr : ((x.time : Int)).tmod (S2 : Int) = (R2 : Int) := by rw [Int.tmod_eq_emod_of_nonneg (by omega), ← hR2]; simp
      have hRb2 : R2 ≤ x.time := by rw [← hR2]; exact Nat.mod_le _ _
      have HR2 := hide hR2
      have HS2 := hide hS2
      have hJi : 0 ≤ (J2 : Int) := by omega
      have hJi4 : (J2 : Int) < 4 := by omega
      have hR20 : 0 ≤ (R2 : Int) := by omega
      have hR2m : (R2 : Int) ≤ 4294967296 := by omega
      have ha4' : a.time ≤ 1958505087000000 := by omega
      have hbs := base_step b34 b34.size (by omega : w.heap.size ≤ w1.heap.size) b31' b32 b33 (by omega) (by omega) 1 (.int .i64 (a.time + (R2 : Int))) (.cells #[.int .i64 1, .int .i64 300, .int .i64 100000, .int .i64 4294967296] 3)
      have HBS := hide hbs
      clear hJ4 hR2 hS2 hJ hSJ hbs b31' b32 b33
      go_cut [] from 48 to 61 (fun wx => Hid ((((W3.setCell ⟨w1.heap.size, 1, none⟩ (.int .i64 (a.time + (R2 : Int)))).alloc (.cells #[.int .i64 1, .int .i64 300, .int .i64 100000, .int .i64 4294967296] 3)).drew) = wx))
      case first =>
        go_region
        all_goals (go_wp2_with fail; go_meet; exact hide rfl)
      clear gf' y0' y3' hlit g1 g0 gf y0 y3 hS0 hS0' hS0'' htm htr hJi hJi4 g1'
      have hW4 := hcut.out
      obtain ⟨b41, b42, b43, b44, b45, b46⟩ := HBS.out
      rw [hW4] at b41 b42 b43 b44 b45 b46
      clear hcut
      obtain ⟨W4, hWW⟩ : ∃ W4, wc = W4 := ⟨_, rfl⟩
      rw [hWW] at b41 b42 b43 b44 b45 b46 ⊢
      clear hWW
      go_wp2
      clear hW4 HBS
      have b41' : W4.heap[w1.heap.size]? = some (.cells #[.int .i64 (a.seq + (1 + (R1 : Int))), .int .i64 (a.time + (R2 : Int))] 23 (0, 0)) := b41
      clear b41
      have g0 : W4.cell? ⟨w1.heap.size, 0, none⟩ = some (.int .i64 (a.seq + (1 + (R1 : Int)))) := by simp [World.cell?, b41']
      have g1 : W4.cell? ⟨w1.heap.size, 1, none⟩ = some (.int .i64 (a.time + (R2 : Int))) := by simp [World.cell?, b41']
      have z10 : w3.heap.size ≠ w1.heap.size := by omega
      have e0 : W4.cell? ⟨w3.heap.size, 0, none⟩ = some (.int .i64 y.ev.seq) := by simp [World.cell?, b43, ← HES.out, Ev.cells]
      have e1 : W4.cell? ⟨w3.heap.size, 1, none⟩ = some (.int .i64 y.ev.time) := by simp [World.cell?, b43, ← HES.out, Ev.cells]
      have ef : ∀ o, W4.frozen? ⟨w3.heap.size, o, none⟩ = false := fun o => by simp [World.frozen?, b43]
      have HZ1 := hide (ev_cells11 (y.ev.moved (a.seq + (1 + (R1 : Int))) (a.time + (R2 : Int))))
      have HZ2 := hide (ev_one (y.ev.moved (a.seq + (1 + (R1 : Int))) (a.time + (R2 : Int))))
      have hmv := moved_step b44 (by omega : w.heap.size ≤ w3.heap.size) b41' (by rw [HES.out]; exact b43) (by omega) (a.seq + (1 + (R1 : Int))) (a.time + (R2 : Int)) _ (Or.inl rfl)
      obtain ⟨z, hz'⟩ : ∃ z, y.ev.moved (a.seq + (1 + (R1 : Int))) (a.time + (R2 : Int)) = z := ⟨_, rfl⟩
      rw [hz'] at HZ1 HZ2 hmv
      have hcz : z.cells = #[.int .i64 z.seq, .int .i64 z.time, .int .u8 (z.cpu : Int), .int .u8 (z.kind : Int), .int .i64 z.task, .int .i64 z.group, .int .i64 z.to, .int .i64 z.weight, .int .i64 z.ticks, .int .u64 (z.mask : Int), .int .i64 z.got] := rfl
      rw [hcz] at HZ1 HZ2 hmv
      have HMV := hide hmv
      have HZE := hide hz'
      clear hmv hz' hcz
      have HEV1 := hide (ev_one z)
      have HZC := hide (range_of_block HMV.out.2.1)
      have hch : Chg [w1.heap.size] wr W4 := (((((Chg.refl _ wr).alloc (.cells ys 46)).then_below hb4).alloc (.cells es 37)).then_grown (HW2.out ▸ b36) (fun g hg => by cases hg; simp)).then_grown b46 (fun g hg => by cases hg; simp)
      have hch2 := hch.then_grown HMV.out.2.2.2 (fun g hg => by cases hg; exact .inr (by omega))
      have HOX := hide (own_undrew ((hch2.keep (Nat.zero_le _)).ownsRow hown (fun g hg => by have := hne g hg; simpa using this)))
      have HSX := hide (size_set2 W4 ⟨w3.heap.size, 0, none⟩ ⟨w3.heap.size, 1, none⟩ (.int .i64 (a.seq + (1 + (R1 : Int)))) (.int .i64 (a.time + (R2 : Int))))
      have HTF := hide (tail_facts (Og := .cells (Bs.cells ⟨a.seq + (1 + (R1 : Int)), a.time + (R2 : Int)⟩) 23 (0, 0)) HMV.out.1 HMV.out.2.2.1 (by rw [HSX.out]; omega))
      have hc1 : (k + 1) * 80 ≤ 140737488355328 := by omega
      have hc2 : k + 1 ≤ 9223372036854775807 := by omega
      have z11 : w.heap.size ≤ W4.heap.size := by omega
      have z12 : k + 1 ≤ 1000 := by omega
      go_region
      all_goals
        clear e0 e1 ef g0 g1
        go_wp2_with (first
          | (with_reducible refine load_wp HZC.out rfl rfl rfl si_ev HZ1.out ?_)
          | (at_builtin; refine append_wp rfl rfl ei_ev ((HOX.out.alloc _).drew) rfl (Rd.blockAt _ (evL z) _ 11 W4.heap.size HSX.out rfl) rfl HEV1.out hc1 hc2 (HTF.out _).1 ?_; intro A2 c2 w5 hown5 hgr5 hbl5))
        refine ⟨made7_next hlt hsp HDR.out (step_ev HYX.out HS1.out HR1.out HS2.out HR2.out HZE.out _) hpl hne (fun h hh => (hown.lt h hh).1) (HTF.out _) hown5 hgr5 hbl5 ?_ ?_ ?_ ?_, by simp [intOf]; omega⟩
        · show 0 ≤ a.seq + (1 + (R1 : Int)); omega
        · show a.seq + (1 + (R1 : Int)) ≤ _; omega
        · show 0 ≤ a.time + (R2 : Int); omega
        · show a.time + (R2 : Int) ≤ _; omega
    · obtain rfl : k = M := by omega
      have h1 : List.drop k (List.take k l) = [] := by rw [List.drop_eq_nil_of_le]; omega
      rw [h1] at hsp
      have h2 : List.take 200 l = List.take k l := by
        have h3 := HM.out
        have h4 := HLN.out
        rcases Nat.lt_or_ge n 200 with h5 | h5
        · rw [List.take_of_length_le (by omega), List.take_of_length_le (by omega)]
        · rw [show k = 200 by omega]
      have h3 : madeL cpu b l = pre := by
        unfold madeL
        rw [h2, hsp]
        simp [madeGo]
      have H3 := hide h3
      clear h1 h2 h3 hsp
      go_wp2
      go_ret
      refine ⟨⟨_, rfl, ?_⟩, hB⟩
      rw [H3.out, hpl]
      exact hown
end Go.Proofs.YtpekelggcmgnnaaDoor

/- What an argument's reading gives: structs of numbers, slices of such structs. -/
namespace Go.Proofs.YtpekelggcmgnnaaDoor
open Go.RowKit Go.ChangeShapes Go.WideShapes

/-- A struct whose fields are numbers of such kinds, a cell each. -/
def intFields (P : Program) (t : TypeId) (ks : List Go.IntKind) : Bool := match P.underlying t with
  | some (.struct fs) => decide (fs.size = ks.length) && decide (P.cellsOf t = ks.length) && (List.range ks.length).all fun i => match fs[i]?, ks[i]? with
    | some f, some k => decide (f.offset = i) && decide (P.cellsOf f.type = 1) && (match P.underlying f.type with | some (TypeDesc.int k') => decide (k' = k) | _ => false)
    | _, _ => false
  | _ => false
section
variable {H : Type} {enc : TypeId × Value → H} {P : Program} {W : World} {b0 : Nat} {sp : Nat → Bool} {held : Bool}
theorem struct_ints {t : TypeId} {ks : List Go.IntKind} (hf : intFields P t ks = true) {fuel : Nat} {cs : List Value} {x : DataW H × List MemPlace} (h : DataW.trod enc P W b0 sp held fuel t cs = some x) :
    cs.length = ks.length ∧ ∀ (i : Nat) (k : Go.IntKind), ks[i]? = some k → ∃ z : Int, cs[i]? = some (Value.int k z) ∧ (Lit.int k z).wf = true := by
  unfold intFields at hf
  split at hf
  · rename_i fs hu
    simp only [Bool.and_eq_true, decide_eq_true_eq, List.all_eq_true, List.mem_range] at hf
    obtain ⟨⟨h1, h2⟩, h3⟩ := hf
    obtain ⟨xs, n, _, _, hl, hx, he⟩ := DataW.trod_struct hu h
    refine ⟨by omega, fun i k hk => ?_⟩
    have hi : i < ks.length := (List.getElem?_eq_some_iff.1 hk).1
    have h4 := h3 i hi
    rw [hk] at h4
    split at h4
    · rename_i f k' hfi hk'
      cases hk'
      simp only [Bool.and_eq_true, decide_eq_true_eq] at h4
      obtain ⟨⟨ho, hc⟩, hty⟩ := h4
      split at hty
      · rename_i k'' hu'
        simp only [decide_eq_true_eq] at hty
        subst hty
        have h5 := he i f hfi
        rw [ho, hc] at h5
        have hxi : i < xs.length := by omega
        rw [List.getElem?_eq_getElem hxi] at h5
        obtain ⟨z, hz, _, hw⟩ := DataW.trod_int hu' h5
        refine ⟨z, ?_, hw⟩
        have := congrArg (·[0]?) hz
        simpa [List.getElem?_take, List.getElem?_drop] using this
      · cases hty
    · cases h4
  · cases hf
theorem intFields_cells {t : TypeId} {ks : List Go.IntKind} (hf : intFields P t ks = true) : P.cellsOf t = ks.length := by
  unfold intFields at hf
  split at hf
  · simp only [Bool.and_eq_true, decide_eq_true_eq] at hf
    exact hf.1.2
  · cases hf
/-- A slice of such structs. -/
theorem slice_structs {t e : TypeId} {ks : List Go.IntKind} (ht : P.underlying t = some (.slice e)) (hf : intFields P e ks = true) (hk : 0 < ks.length) {fuel : Nat} {cs : List Value} {x : DataW H × List MemPlace}
    (h : DataW.trod enc P W 0 sp held fuel t cs = some x) :
    ∃ (A : Option Addr) (n c : Nat) (css : List (List Value)), cs = [.slice A n c] ∧ n ≤ c ∧ c ≤ maxLen ∧ css.length = n ∧
      (∀ l ∈ css, l.length = ks.length ∧ ∀ (i : Nat) (k : Go.IntKind), ks[i]? = some k → ∃ z : Int, l[i]? = some (Value.int k z) ∧ (Lit.int k z).wf = true) ∧ Rd W W.heap.size ks.length A n (css.flatMap id) := by
  have hsz := intFields_cells hf
  rcases DataW.trod_slice ht h with ⟨hc, _⟩ | ⟨a, len, cap, elems, rest, m, _, hc, _, _, hl, hm, hlen, hel, _⟩
  · exact ⟨none, 0, 0, [], hc, Nat.le_refl _, by unfold maxLen; omega, rfl, by simp, Rd.nil⟩
  · have hall : ∀ i, i < len → ∃ l : List Value, W.cells? 0 (a.add (i * ks.length)) ks.length = some l ∧ ∃ y, DataW.trod enc P W 0 sp held m e l = some y := by
      intro i hi
      have h1 := hel i hi
      rw [hsz, List.getElem?_eq_getElem (by omega : i < elems.length)] at h1
      obtain ⟨l, h2, h3⟩ := Option.bind_eq_some_iff.1 h1
      exact ⟨l, h2, _, h3⟩
    have key : ∀ k, k ≤ len → ∃ css : List (List Value), css.length = k ∧ (∀ i (hi : i < css.length), W.cells? 0 (a.add (i * ks.length)) ks.length = some css[i] ∧ ∃ y, DataW.trod enc P W 0 sp held m e css[i] = some y) := by
      intro k
      induction k with
      | zero => intro _; exact ⟨[], rfl, fun i hi => by simp at hi⟩
      | succ k ih =>
        intro hk
        obtain ⟨css, h1, h2⟩ := ih (by omega)
        obtain ⟨l, h3, h4⟩ := hall k (by omega)
        refine ⟨css ++ [l], by simp [h1], fun i hi => ?_⟩
        by_cases hik : i < css.length
        · rw [List.getElem_append_left hik]; exact h2 i hik
        · obtain rfl : i = css.length := by simp at hi; omega
          rw [List.getElem_append_right (Nat.le_refl _)]
          simp only [Nat.sub_self, List.getElem_cons_zero, h1]
          exact ⟨h3, h4⟩
    obtain ⟨css, h1, h2⟩ := key len (Nat.le_refl _)
    have hin : ∀ l ∈ css, l.length = ks.length ∧ ∀ (i : Nat) (k : Go.IntKind), ks[i]? = some k → ∃ z : Int, l[i]? = some (Value.int k z) ∧ (Lit.int k z).wf = true := by
      intro l hl'
      obtain ⟨i, hi, rfl⟩ := List.getElem_of_mem hl'
      obtain ⟨_, y, hy⟩ := h2 i hi
      exact struct_ints hf hy
    have hat : ∀ i (hi : i < css.length) j, j < ks.length → W.cell? (a.add (i * ks.length + j)) = css[i][j]? := by
      intro i hi j hj
      have := (World.cells?_some (h2 i hi).1).2.2 j hj
      rwa [add_twice] at this
    have hflat : ∀ (css : List (List Value)), (∀ l ∈ css, l.length = ks.length) → (css.flatMap id).length = css.length * ks.length := by
      intro css
      induction css with
      | nil => simp
      | cons l r ih => intro h; rw [List.flatMap_cons, List.length_append, ih (fun y hy => h y (by simp [hy])), List.length_cons, Nat.succ_mul]; have := h l (by simp); simp only [id]; omega
    have hget : ∀ (css : List (List Value)), (∀ l ∈ css, l.length = ks.length) → ∀ p u, (css.flatMap id)[p]? = some u → ∃ i j, ∃ hi : i < css.length, j < ks.length ∧ p = i * ks.length + j ∧ css[i][j]? = some u := by
      intro css
      induction css with
      | nil => intro _ p u h; simp at h
      | cons l r ih =>
        intro h p u hu
        have hll := h l (by simp)
        rw [List.flatMap_cons] at hu
        by_cases hp : p < ks.length
        · rw [List.getElem?_append_left (by simp only [id]; omega)] at hu
          exact ⟨0, p, by simp, hp, by omega, hu⟩
        · rw [List.getElem?_append_right (by simp only [id]; omega)] at hu
          simp only [id] at hu
          rw [hll] at hu
          obtain ⟨i, j, hi, hj, hpj, hu'⟩ := ih (fun y hy => h y (by simp [hy])) _ u hu
          exact ⟨i + 1, j, by simp; omega, hj, by rw [Nat.succ_mul]; omega, by simpa using hu'⟩
    have hll : ∀ l ∈ css, l.length = ks.length := fun l hl' => (hin l hl').1
    refine ⟨some a, len, cap, css, hc, hl, hm, h1, hin, ⟨by rw [hflat css hll, h1], fun hn => ⟨a, rfl, ?_, ?_⟩⟩⟩
    · have h0 : 0 < css.length := by omega
      have h3 := hat 0 h0 0 hk
      have h4 := hll _ (List.getElem_mem h0)
      rw [List.getElem?_eq_getElem (by omega)] at h3
      have := World.block_lt_of_cell? W _ h3
      simpa [Addr.add] using this
    · intro p u hu
      obtain ⟨i, j, hi, hj, rfl, hu'⟩ := hget css hll p u hu
      rw [hat i hi j hj, hu']
end
theorem u16_wf {a : Int} (h : (Lit.int .u16 a).wf = true) : 0 ≤ a ∧ a ≤ 65535 := by
  simpa [Lit.wf, IntKind.min, IntKind.max, IntKind.signed, IntKind.bits] using h
theorem u32_wf {a : Int} (h : (Lit.int .u32 a).wf = true) : 0 ≤ a ∧ a ≤ 4294967295 := by
  simpa [Lit.wf, IntKind.min, IntKind.max, IntKind.signed, IntKind.bits] using h
theorem u64_wf {a : Int} (h : (Lit.int .u64 a).wf = true) : 0 ≤ a ∧ a ≤ 18446744073709551615 := by
  simpa [Lit.wf, IntKind.min, IntKind.max, IntKind.signed, IntKind.bits] using h
def smKinds : List Go.IntKind := [.u8, .u8, .u32, .u32, .u32, .u32, .u32, .u32, .u32, .u32, .u64]
theorem sm_fields : intFields Tryd.prog 46 smKinds = true := by kernel_rfl
theorem und_smalls : Tryd.prog.underlying 39 = some (.slice 46) := by kernel_rfl
theorem list_eq {α : Type} {l m : List α} (h1 : l.length = m.length) (h : ∀ i, i < m.length → l[i]? = m[i]?) : l = m := by
  refine List.ext_getElem? fun i => ?_
  by_cases hi : i < m.length
  · exact h i hi
  · rw [List.getElem?_eq_none (by omega), List.getElem?_eq_none (by omega)]
theorem exists_sm {cs : List Value} (hl : cs.length = smKinds.length) (h : ∀ (i : Nat) (k : Go.IntKind), smKinds[i]? = some k → ∃ z : Int, cs[i]? = some (Value.int k z) ∧ (Lit.int k z).wf = true) : ∃ x : Sm, smL x = cs ∧ x.Ok := by
  obtain ⟨z0, h0, w0⟩ := h 0 .u8 rfl
  have w0 := u8_wf w0
  obtain ⟨z1, h1, w1⟩ := h 1 .u8 rfl
  have w1 := u8_wf w1
  obtain ⟨z2, h2, w2⟩ := h 2 .u32 rfl
  have w2 := u32_wf w2
  obtain ⟨z3, h3, w3⟩ := h 3 .u32 rfl
  have w3 := u32_wf w3
  obtain ⟨z4, h4, w4⟩ := h 4 .u32 rfl
  have w4 := u32_wf w4
  obtain ⟨z5, h5, w5⟩ := h 5 .u32 rfl
  have w5 := u32_wf w5
  obtain ⟨z6, h6, w6⟩ := h 6 .u32 rfl
  have w6 := u32_wf w6
  obtain ⟨z7, h7, w7⟩ := h 7 .u32 rfl
  have w7 := u32_wf w7
  obtain ⟨z8, h8, w8⟩ := h 8 .u32 rfl
  have w8 := u32_wf w8
  obtain ⟨z9, h9, w9⟩ := h 9 .u32 rfl
  have w9 := u32_wf w9
  obtain ⟨z10, h10, w10⟩ := h 10 .u64 rfl
  have w10 := u64_wf w10
  refine ⟨⟨z0.toNat, z1.toNat, z2.toNat, z3.toNat, z4.toNat, z5.toNat, z6.toNat, z7.toNat, z8.toNat, z9.toNat, z10.toNat⟩, ?_, ⟨by show z0.toNat < _; omega, by show z1.toNat < _; omega, by show z2.toNat < _; omega, by show z3.toNat < _; omega, by show z4.toNat < _; omega, by show z5.toNat < _; omega, by show z6.toNat < _; omega, by show z7.toNat < _; omega, by show z8.toNat < _; omega, by show z9.toNat < _; omega, by show z10.toNat < _; omega⟩⟩
  refine list_eq (by rw [hl]; rfl) fun i hi => ?_
  have hi' : i < 11 := by rw [hl] at hi; exact hi
  have hc : i = 0 ∨ i = 1 ∨ i = 2 ∨ i = 3 ∨ i = 4 ∨ i = 5 ∨ i = 6 ∨ i = 7 ∨ i = 8 ∨ i = 9 ∨ i = 10 := by omega
  rcases hc with rfl | rfl | rfl | rfl | rfl | rfl | rfl | rfl | rfl | rfl | rfl
  · rw [h0]; show some (Value.int .u8 ((z0.toNat : Nat) : Int)) = _; rw [Int.toNat_of_nonneg w0.1]
  · rw [h1]; show some (Value.int .u8 ((z1.toNat : Nat) : Int)) = _; rw [Int.toNat_of_nonneg w1.1]
  · rw [h2]; show some (Value.int .u32 ((z2.toNat : Nat) : Int)) = _; rw [Int.toNat_of_nonneg w2.1]
  · rw [h3]; show some (Value.int .u32 ((z3.toNat : Nat) : Int)) = _; rw [Int.toNat_of_nonneg w3.1]
  · rw [h4]; show some (Value.int .u32 ((z4.toNat : Nat) : Int)) = _; rw [Int.toNat_of_nonneg w4.1]
  · rw [h5]; show some (Value.int .u32 ((z5.toNat : Nat) : Int)) = _; rw [Int.toNat_of_nonneg w5.1]
  · rw [h6]; show some (Value.int .u32 ((z6.toNat : Nat) : Int)) = _; rw [Int.toNat_of_nonneg w6.1]
  · rw [h7]; show some (Value.int .u32 ((z7.toNat : Nat) : Int)) = _; rw [Int.toNat_of_nonneg w7.1]
  · rw [h8]; show some (Value.int .u32 ((z8.toNat : Nat) : Int)) = _; rw [Int.toNat_of_nonneg w8.1]
  · rw [h9]; show some (Value.int .u32 ((z9.toNat : Nat) : Int)) = _; rw [Int.toNat_of_nonneg w9.1]
  · rw [h10]; show some (Value.int .u64 ((z10.toNat : Nat) : Int)) = _; rw [Int.toNat_of_nonneg w10.1]
theorem exists_sms : ∀ (css : List (List Value)), (∀ l ∈ css, l.length = smKinds.length ∧ ∀ (i : Nat) (k : Go.IntKind), smKinds[i]? = some k → ∃ z : Int, l[i]? = some (Value.int k z) ∧ (Lit.int k z).wf = true) → ∃ l : List Sm, l.flatMap smL = css.flatMap id ∧ ∀ x ∈ l, x.Ok
  | [], _ => ⟨[], rfl, by simp⟩
  | c :: r, h => by
    obtain ⟨l, h1, h2⟩ := exists_sms r (fun y hy => h y (by simp [hy]))
    obtain ⟨x, h3, h4⟩ := exists_sm (h c (by simp)).1 (h c (by simp)).2
    refine ⟨x :: l, by rw [List.flatMap_cons, List.flatMap_cons, h1, h3]; rfl, fun y hy => ?_⟩
    rcases List.mem_cons.1 hy with rfl | hy
    · exact h4
    · exact h2 y hy
section
variable {H : Type} {enc : TypeId × Value → H} {W : World} {b0 : Nat} {v : Value} {d : DataW H} {p : List MemPlace}
theorem und_u16 : Tryd.prog.underlying 40 = some (.int .u16) := by kernel_rfl
set_option maxRecDepth 100000 in
theorem arg_u16 (hval : Value.okWide Tryd.prog W .any b0 40 v) (h : DataW.Trod enc Tryd.prog W 0 (fun _ => true) true 40 v d p) : ∃ m : Nat, v = .int .u16 (m : Int) ∧ m < 65536 := by
  obtain ⟨m, rfl, _, _, wf⟩ := open_int und_u16 hval h
  have := u16_wf wf
  exact ⟨m.toNat, by rw [Int.toNat_of_nonneg this.1], by omega⟩
set_option maxRecDepth 100000 in
theorem arg_smalls (hval : Value.okWide Tryd.prog W .any b0 39 v) (h : DataW.Trod enc Tryd.prog W 0 (fun _ => true) true 39 v d p) :
    ∃ (A : Option Addr) (n c : Nat) (l : List Sm), v = .slice A n c ∧ n ≤ c ∧ c ≤ maxLen ∧ (∀ x ∈ l, x.Ok) ∧ Rd W W.heap.size 11 A n (l.flatMap smL) := by
  obtain ⟨a0, len, cap, rfl⟩ := okWide_slice und_smalls hval
  obtain ⟨fuel, hf⟩ := h
  obtain ⟨A, n, c, css, hcs, h1, h2, _, h3, h4⟩ := slice_structs und_smalls sm_fields (by decide) hf
  simp only [Value.cells, List.cons.injEq, and_true, Value.slice.injEq] at hcs
  obtain ⟨rfl, rfl, rfl⟩ := hcs
  obtain ⟨l, h5, h6⟩ := exists_sms css h3
  exact ⟨_, _, _, l, rfl, h1, h2, h6, by rw [h5]; exact h4⟩
end
end Go.Proofs.YtpekelggcmgnnaaDoor

/- What the reading of an argument gives: a struct of numbers by value. -/
namespace Go.Proofs.YtpekelggcmgnnaaDoor
open Go.RowKit Go.ChangeShapes Go.WideShapes Go.ChangeAt
section
variable {H : Type} {enc : TypeId × Value → H} {P : Program} {w : World} {base : Nat} {spare : Nat → Bool} {held : Bool}
theorem trodAll_five {t0 t1 t2 t3 t4 : TypeId} {args : Array Value} {ds : List (DataW H)} {ps : List MemPlace} (h : DataW.TrodAll enc P w base spare held [t0, t1, t2, t3, t4] args.toList ds ps) :
    ∃ v0 v1 v2 v3 v4 d0 d1 d2 d3 d4 p0 p1 p2 p3 p4, args = #[v0, v1, v2, v3, v4] ∧ ds = [d0, d1, d2, d3, d4] ∧ ps = p0 ++ p1 ++ p2 ++ p3 ++ p4 ∧ DataW.Trod enc P w base spare held t0 v0 d0 p0 ∧ DataW.Trod enc P w base spare held t1 v1 d1 p1 ∧ DataW.Trod enc P w base spare held t2 v2 d2 p2 ∧ DataW.Trod enc P w base spare held t3 v3 d3 p3 ∧ DataW.Trod enc P w base spare held t4 v4 d4 p4 := by
  obtain ⟨v0, vs0, d0, ds0, p0, q0, ha, rfl, rfl, h0, hr0⟩ := trodAll_cons h
  obtain ⟨v1, vs1, d1, ds1, p1, q1, rfl, rfl, rfl, h1, hr1⟩ := trodAll_cons hr0
  obtain ⟨v2, vs2, d2, ds2, p2, q2, rfl, rfl, rfl, h2, hr2⟩ := trodAll_cons hr1
  obtain ⟨v3, vs3, d3, ds3, p3, q3, rfl, rfl, rfl, h3, hr3⟩ := trodAll_cons hr2
  obtain ⟨v4, vs4, d4, ds4, p4, q4, rfl, rfl, rfl, h4, hr4⟩ := trodAll_cons hr3
  obtain ⟨rfl, rfl, rfl⟩ := trodAll_nil hr4
  exact ⟨v0, v1, v2, v3, v4, d0, d1, d2, d3, d4, p0, p1, p2, p3, p4, by cases args; simp_all, rfl, by simp, h0, h1, h2, h3, h4⟩
end
section
variable {H : Type} {enc : TypeId × Value → H} {W : World} {b0 : Nat} {v : Value} {d : DataW H} {p : List MemPlace}
theorem und_of_fields {P : Program} {t : TypeId} {ks : List Go.IntKind} (hf : intFields P t ks = true) : ∃ fs, P.underlying t = some (.struct fs) := by
  unfold intFields at hf
  split at hf
  · rename_i fs hu; exact ⟨fs, hu⟩
  · cases hf
set_option maxRecDepth 100000 in
theorem arg_small (hval : Value.okWide Tryd.prog W .any b0 46 v) (h : DataW.Trod enc Tryd.prog W 0 (fun _ => true) true 46 v d p) : ∃ x : Sm, v = .agg x.cells ∧ x.Ok := by
  obtain ⟨fs, hu⟩ := und_of_fields sm_fields
  obtain ⟨cs, rfl, hs⟩ := okWide_struct hu hval
  obtain ⟨fuel, hf⟩ := h
  obtain ⟨h1, h2⟩ := struct_ints sm_fields hf
  obtain ⟨x, hx, ho⟩ := exists_sm h1 h2
  refine ⟨x, ?_, ho⟩
  have : x.cells.toList = cs.toList := hx
  rw [show x.cells = cs from Array.toList_inj.1 this]
set_option maxRecDepth 100000 in
theorem bytes_size {A : Option Addr} {n c : Nat} (h : DataW.Trod enc Tryd.prog W 0 (fun _ => true) true 25 (.slice A n c) d p) : c = 0 ∨ ∃ elems spare, d = .slice elems spare ∧ elems.length + spare.length = c := by
  obtain ⟨fuel, hf⟩ := h
  rcases open_ints und_bytes und_u8 cells_u8 hf with ⟨hcs, hx⟩ | ⟨a, len', cap', zs, hcs, _, hl, hm, hz, hx, hcell, hwz⟩
  · simp only [Value.cells, List.cons.injEq, and_true, Value.slice.injEq] at hcs
    exact .inl hcs.2.2
  · simp only [Value.cells, List.cons.injEq, and_true, Value.slice.injEq] at hcs
    obtain ⟨rfl, rfl, rfl⟩ := hcs
    simp only [if_true] at hz
    injection hx with hx _
    refine .inr ⟨_, _, hx, ?_⟩
    simp [lits]
    omega
end
end Go.Proofs.YtpekelggcmgnnaaDoor

/- What the reading of an argument gives: events. -/
namespace Go.Proofs.YtpekelggcmgnnaaDoor
open Go.RowKit Go.ChangeShapes Go.WideShapes Go.ChangeAt
def evKinds : List Go.IntKind := [.i64, .i64, .u8, .u8, .i64, .i64, .i64, .i64, .i64, .u64, .i64]
theorem exists_ev {cs : List Value} (hl : cs.length = evKinds.length) (h : ∀ (i : Nat) (k : Go.IntKind), evKinds[i]? = some k → ∃ z : Int, cs[i]? = some (Value.int k z) ∧ (Lit.int k z).wf = true) : ∃ x : Ev, evL x = cs ∧ x.Ok := by
  obtain ⟨z0, h0, w0⟩ := h 0 .i64 rfl
  have w0 := i64_wf w0
  obtain ⟨z1, h1, w1⟩ := h 1 .i64 rfl
  have w1 := i64_wf w1
  obtain ⟨z2, h2, w2⟩ := h 2 .u8 rfl
  have w2 := u8_wf w2
  obtain ⟨z3, h3, w3⟩ := h 3 .u8 rfl
  have w3 := u8_wf w3
  obtain ⟨z4, h4, w4⟩ := h 4 .i64 rfl
  have w4 := i64_wf w4
  obtain ⟨z5, h5, w5⟩ := h 5 .i64 rfl
  have w5 := i64_wf w5
  obtain ⟨z6, h6, w6⟩ := h 6 .i64 rfl
  have w6 := i64_wf w6
  obtain ⟨z7, h7, w7⟩ := h 7 .i64 rfl
  have w7 := i64_wf w7
  obtain ⟨z8, h8, w8⟩ := h 8 .i64 rfl
  have w8 := i64_wf w8
  obtain ⟨z9, h9, w9⟩ := h 9 .u64 rfl
  have w9 := u64_wf w9
  obtain ⟨z10, h10, w10⟩ := h 10 .i64 rfl
  have w10 := i64_wf w10
  refine ⟨⟨z0, z1, z2.toNat, z3.toNat, z4, z5, z6, z7, z8, z9.toNat, z10⟩, ?_, ⟨w0, w1, (by show z2.toNat < _; omega), (by show z3.toNat < _; omega), w4, w5, w6, w7, w8, (by show z9.toNat < _; omega), w10⟩⟩
  refine list_eq (by rw [hl]; rfl) fun i hi => ?_
  have hi' : i < 11 := by rw [hl] at hi; exact hi
  have hc : i = 0 ∨ i = 1 ∨ i = 2 ∨ i = 3 ∨ i = 4 ∨ i = 5 ∨ i = 6 ∨ i = 7 ∨ i = 8 ∨ i = 9 ∨ i = 10 := by omega
  rcases hc with rfl | rfl | rfl | rfl | rfl | rfl | rfl | rfl | rfl | rfl | rfl
  · rw [h0]; rfl
  · rw [h1]; rfl
  · rw [h2]; show some (Value.int .u8 ((z2.toNat : Nat) : Int)) = _; rw [Int.toNat_of_nonneg w2.1]
  · rw [h3]; show some (Value.int .u8 ((z3.toNat : Nat) : Int)) = _; rw [Int.toNat_of_nonneg w3.1]
  · rw [h4]; rfl
  · rw [h5]; rfl
  · rw [h6]; rfl
  · rw [h7]; rfl
  · rw [h8]; rfl
  · rw [h9]; show some (Value.int .u64 ((z9.toNat : Nat) : Int)) = _; rw [Int.toNat_of_nonneg w9.1]
  · rw [h10]; rfl
theorem ev_fields : intFields Tryd.prog 37 evKinds = true := by kernel_rfl
theorem exists_evs : ∀ (css : List (List Value)), (∀ l ∈ css, l.length = evKinds.length ∧ ∀ (i : Nat) (k : Go.IntKind), evKinds[i]? = some k → ∃ z : Int, l[i]? = some (Value.int k z) ∧ (Lit.int k z).wf = true) → ∃ l : List Ev, l.flatMap evL = css.flatMap id ∧ ∀ x ∈ l, x.Ok
  | [], _ => ⟨[], rfl, by simp⟩
  | c :: r, h => by
    obtain ⟨l, h1, h2⟩ := exists_evs r (fun y hy => h y (by simp [hy]))
    obtain ⟨x, h3, h4⟩ := exists_ev (h c (by simp)).1 (h c (by simp)).2
    refine ⟨x :: l, by rw [List.flatMap_cons, List.flatMap_cons, h1, h3]; rfl, fun y hy => ?_⟩
    rcases List.mem_cons.1 hy with rfl | hy
    · exact h4
    · exact h2 y hy
section
variable {H : Type} {enc : TypeId × Value → H} {W : World} {b0 : Nat} {v : Value} {d : DataW H} {p : List MemPlace}
set_option maxRecDepth 100000 in
theorem arg_event (hval : Value.okWide Tryd.prog W .any b0 37 v) (h : DataW.Trod enc Tryd.prog W 0 (fun _ => true) true 37 v d p) : ∃ x : Ev, v = .agg x.cells ∧ x.Ok := by
  obtain ⟨fs, hu⟩ := und_of_fields ev_fields
  obtain ⟨cs, rfl, hs⟩ := okWide_struct hu hval
  obtain ⟨fuel, hf⟩ := h
  obtain ⟨h1, h2⟩ := struct_ints ev_fields hf
  obtain ⟨x, hx, ho⟩ := exists_ev h1 h2
  refine ⟨x, ?_, ho⟩
  have : x.cells.toList = cs.toList := hx
  rw [show x.cells = cs from Array.toList_inj.1 this]
end
end Go.Proofs.YtpekelggcmgnnaaDoor

/- What the reading of an argument gives: quantumlaw07.Rows. -/
namespace Go.Proofs.YtpekelggcmgnnaaDoor
open Go.RowKit Go.ChangeShapes Go.WideShapes Go.ChangeAt

/-- Field i of a struct lies at off and is of such a type. -/
def fieldAt (P : Program) (t : TypeId) (i off : Nat) (u : TypeId) : Bool := match P.underlying t with
  | some (.struct fs) => match fs[i]? with
    | some f => decide (f.offset = off) && decide (f.type = u)
    | none => false
  | _ => false
section
variable {H : Type} {enc : TypeId × Value → H} {P : Program} {W : World} {b0 : Nat} {sp : Nat → Bool} {held : Bool}
theorem struct_field {t u : TypeId} {i off : Nat} (hf : fieldAt P t i off u = true) {fuel : Nat} {cs : List Value} {x : DataW H × List MemPlace} (h : DataW.trod enc P W b0 sp held fuel t cs = some x) :
    cs.length = P.cellsOf t ∧ ∃ n y, DataW.trod enc P W b0 sp held n u ((cs.drop off).take (P.cellsOf u)) = some y := by
  unfold fieldAt at hf
  split at hf
  · rename_i fs hu
    split at hf
    · rename_i f hfi
      simp only [Bool.and_eq_true, decide_eq_true_eq] at hf
      obtain ⟨xs, n, _, _, hl, hx, he⟩ := DataW.trod_struct hu h
      refine ⟨hl, n, ?_⟩
      have h5 := he i f hfi
      have hi : i < fs.size := (Array.getElem?_eq_some_iff.1 hfi).1
      rw [List.getElem?_eq_getElem (by omega), hf.1, hf.2] at h5
      exact ⟨_, h5⟩
    · cases hf
  · cases hf
end
section
variable {H : Type} {enc : TypeId × Value → H} {W : World} {b0 : Nat} {v : Value} {d : DataW H} {p : List MemPlace}
def bsKinds : List Go.IntKind := [.i64, .i64]
theorem bs_fields : intFields Tryd.prog 23 bsKinds = true := by kernel_rfl
theorem und_events : Tryd.prog.underlying 24 = some (.slice 37) := by kernel_rfl
set_option maxRecDepth 100000 in
theorem trod_bytes {fuel : Nat} {cs : List Value} {x : DataW H × List MemPlace} (hf : DataW.trod enc Tryd.prog W 0 (fun _ => true) true fuel 25 cs = some x) :
    ∃ (A : Option Addr) (n c : Nat) (l : List Nat), cs = [.slice A n c] ∧ n ≤ c ∧ c ≤ maxLen ∧ (∀ b ∈ l, b < 256) ∧ Rd W W.heap.size 1 A n (l.map B8) := by
  rcases open_ints und_bytes und_u8 cells_u8 hf with ⟨hcs, hx⟩ | ⟨a, len', cap', zs, hcs, _, hl, hm, hz, hx, hcell, hwz⟩
  · exact ⟨none, 0, 0, [], hcs, Nat.le_refl _, by unfold maxLen; omega, by simp, Rd.nil⟩
  · simp only [if_true] at hz
    have hat : ∀ i z, zs[i]? = some z → W.cell? (a.add i) = some (.int .u8 z) ∧ 0 ≤ z ∧ z ≤ 255 := by
      intro i z hi
      obtain ⟨hlt, e⟩ := List.getElem?_eq_some_iff.1 hi
      refine ⟨by rw [hcell i hlt, List.getD_eq_getElem?_getD, hi]; rfl, u8_wf (hwz z (List.mem_of_getElem? hi))⟩
    refine ⟨some a, len', cap', (zs.take len').map Int.toNat, hcs, hl, hm, ?_, by simp; omega, fun hn => ⟨a, rfl, ?_, ?_⟩⟩
    · intro b hb
      obtain ⟨z, hz', rfl⟩ := List.mem_map.1 hb
      have := u8_wf (hwz z (List.mem_of_mem_take hz'))
      omega
    · have h0 : 0 < zs.length := by omega
      have := (hat 0 zs[0] (by simp [h0])).1
      have := World.block_lt_of_cell? W _ this
      simpa [Addr.add] using this
    · intro j u hu
      rw [List.map_map, List.getElem?_map] at hu
      cases hz' : (zs.take len')[j]? with
      | none => simp [hz'] at hu
      | some z =>
        rw [hz'] at hu
        simp only [Option.map_some, Option.some.injEq] at hu
        have hz'' : zs[j]? = some z := by
          rw [List.getElem?_take] at hz'
          split at hz'
          · exact hz'
          · cases hz'
        have h3 := hat j z hz''
        rw [h3.1, ← hu]
        simp [B8, Int.toNat_of_nonneg h3.2.1]
set_option maxRecDepth 100000 in
theorem trod_events {fuel : Nat} {cs : List Value} {x : DataW H × List MemPlace} (hf : DataW.trod enc Tryd.prog W 0 (fun _ => true) true fuel 24 cs = some x) :
    ∃ (A : Option Addr) (n c : Nat) (l : List Ev), cs = [.slice A n c] ∧ n ≤ c ∧ c ≤ maxLen ∧ (∀ x ∈ l, x.Ok) ∧ Rd W W.heap.size 11 A n (l.flatMap evL) := by
  obtain ⟨A, n, c, css, hcs, h1, h2, _, h3, h4⟩ := slice_structs und_events ev_fields (by decide) hf
  obtain ⟨l, h5, h6⟩ := exists_evs css h3
  exact ⟨A, n, c, l, hcs, h1, h2, h6, by rw [h5]; exact h4⟩
def rowsCells (b : Bs) (A : Option Addr) (n c cpu : Nat) (m : Int) (A2 : Option Addr) (n2 c2 : Nat) : Array Value := #[.int .i64 b.seq, .int .i64 b.time, .slice A n c, .int .u8 (cpu : Int), .int .i64 m, .slice A2 n2 c2]
theorem one_of_take {cs : List Value} {off : Nat} {u : Value} (h : (cs.drop off).take 1 = [u]) : cs[off]? = some u := by
  have := congrArg (·[0]?) h
  simpa [List.getElem?_take, List.getElem?_drop] using this
theorem rows_f0 : fieldAt Tryd.prog 27 0 0 23 = true := by kernel_rfl
theorem rows_f1 : fieldAt Tryd.prog 27 1 2 24 = true := by kernel_rfl
theorem rows_f2 : fieldAt Tryd.prog 27 2 3 5 = true := by kernel_rfl
theorem rows_f3 : fieldAt Tryd.prog 27 3 4 3 = true := by kernel_rfl
theorem rows_f4 : fieldAt Tryd.prog 27 4 5 25 = true := by kernel_rfl
theorem rows_cells : Tryd.prog.cellsOf 27 = 6 := by kernel_rfl
theorem cells_evs : Tryd.prog.cellsOf 24 = 1 := by kernel_rfl
theorem cells_bytes : Tryd.prog.cellsOf 25 = 1 := by kernel_rfl
theorem cells_int : Tryd.prog.cellsOf 3 = 1 := by kernel_rfl
def isStructT (P : Program) (t : TypeId) : Bool := match P.underlying t with | some (.struct _) => true | _ => false
theorem of_isStructT {P : Program} {t : TypeId} (h : isStructT P t = true) : ∃ fs, P.underlying t = some (.struct fs) := by
  unfold isStructT at h
  split at h
  · rename_i fs hu; exact ⟨fs, hu⟩
  · cases h
set_option maxRecDepth 100000 in
theorem arg_rows (hval : Value.okWide Tryd.prog W .any b0 27 v) (h : DataW.Trod enc Tryd.prog W 0 (fun _ => true) true 27 v d p) :
    ∃ (b : Bs) (A : Option Addr) (n c cpu : Nat) (m : Int) (A2 : Option Addr) (n2 c2 : Nat) (es : List Ev) (l : List Nat), v = .agg (rowsCells b A n c cpu m A2 n2 c2) ∧ b.Ok ∧ cpu < 256 ∧ I64 m ∧ n ≤ c ∧ (∀ x ∈ es, x.Ok) ∧ Rd W W.heap.size 11 A n (es.flatMap evL) ∧ n2 ≤ c2 ∧ (∀ b ∈ l, b < 256) ∧ Rd W W.heap.size 1 A2 n2 (l.map B8) := by
  obtain ⟨fs, hu⟩ := of_isStructT (show isStructT Tryd.prog 27 = true by kernel_rfl)
  obtain ⟨cs, rfl, hs⟩ := okWide_struct hu hval
  obtain ⟨fuel, hf⟩ := h
  have hf : DataW.trod enc Tryd.prog W 0 (fun _ => true) true fuel 27 cs.toList = some (d, p) := hf
  obtain ⟨hl, _, y0, g0⟩ := struct_field rows_f0 hf
  obtain ⟨_, _, y1, g1⟩ := struct_field rows_f1 hf
  obtain ⟨_, _, y2, g2⟩ := struct_field rows_f2 hf
  obtain ⟨_, _, y3, g3⟩ := struct_field rows_f3 hf
  obtain ⟨_, _, y4, g4⟩ := struct_field rows_f4 hf
  have hl6 : cs.toList.length = 6 := by rw [← rows_cells]; exact hl
  obtain ⟨_, h0⟩ := struct_ints bs_fields g0
  obtain ⟨s, hs0, ws⟩ := h0 0 .i64 rfl
  obtain ⟨t, ht0, wt⟩ := h0 1 .i64 rfl
  obtain ⟨A, n, c, es, e1, k1, _, k2, k3⟩ := trod_events g1
  obtain ⟨cpu, e2, _, w2⟩ := DataW.trod_int und_u8 g2
  obtain ⟨m, e3, _, w3⟩ := DataW.trod_int und_int g3
  obtain ⟨A2, n2, c2, l, e4, k4, _, k5, k6⟩ := trod_bytes g4
  rw [cells_evs] at e1
  rw [cells_u8] at e2
  rw [cells_int] at e3
  rw [cells_bytes] at e4
  have a1 := one_of_take e1
  have a2 := one_of_take e2
  have a3 := one_of_take e3
  have a4 := one_of_take e4
  rw [cells_base, List.drop_zero, List.getElem?_take] at hs0 ht0
  simp only [Nat.reduceLT, if_true] at hs0 ht0
  have u2 := u8_wf w2
  refine ⟨⟨s, t⟩, A, n, c, cpu.toNat, m, A2, n2, c2, es, l, ?_, ⟨i64_wf ws, i64_wf wt⟩, by omega, i64_wf w3, k1, k2, k3, k4, k5, k6⟩
  congr 1
  apply Array.toList_inj.1
  refine list_eq (by rw [hl6]; rfl) fun i hi => ?_
  have hi' : i < 6 := hi
  have hc : i = 0 ∨ i = 1 ∨ i = 2 ∨ i = 3 ∨ i = 4 ∨ i = 5 := by omega
  rcases hc with rfl | rfl | rfl | rfl | rfl | rfl
  · rw [hs0]; rfl
  · rw [ht0]; rfl
  · rw [a1]; rfl
  · rw [a2]; show some (Value.int .u8 cpu) = some (Value.int .u8 ((cpu.toNat : Nat) : Int)); rw [Int.toNat_of_nonneg u2.1]
  · rw [a3]; rfl
  · rw [a4]; rfl
end
end Go.Proofs.YtpekelggcmgnnaaDoor

/- quantumref07.Take is what codec.Take is. -/
set_option linter.all false
namespace Go.Proofs.YtpekelggcmgnnaaDoor
open Go.RowKit
set_option maxRecDepth 100000 in
set_option maxHeartbeats 4000000 in
theorem take07_any (b : Bs) (cpu : Nat) (hcpu : cpu < 256) (A : Option Addr) (n c : Nat) (l : List Nat) (w : World) (hr : Rd w w.heap.size 1 A n (l.map B8)) (hc : n ≤ c) (hl : ∀ b ∈ l, b < 256) (hn : n ≤ 140737488355328) (hln : l.length = n) :
    Calls Tryd.prog 47 #[.agg b.cells, .int .u8 (cpu : Int), .slice A n c] w (TakePost w (takeR b cpu l)) := by
  refine calls_enter (vs := [.agg b.cells, .int .u8 (cpu : Int), .slice A n c]) Tryd.func47 rfl rfl (by kernel_rfl) (σ0 := [(0, .agg b.cells), (1, .int .u8 (cpu : Int)), (2, .slice A n c)]) rfl ?_
  intro a HF
  have HM := Mem.start w
  refine wp_seq ?_
  refine from_start ?_
  refine from_op HF (i := 0) rfl rfl ?_
  refine e_box HF HM (cs := b.cells) rfl rfl rfl rfl (by decide) ?_
  clear HF HM; intro a w3 g3 HF HM
  refine from_op HF (i := 1) rfl rfl ?_
  refine e_alloc HF HM (cs := #[.int .i64 0, .int .i64 0, .int .u8 0, .int .u8 0, .int .i64 0, .int .i64 0, .int .i64 0, .int .i64 0, .int .i64 0, .int .u64 0, .int .i64 0]) rfl (by kernel_rfl) rfl (by decide) ?_
  clear HF HM; intro a w6 g6 HF HM
  refine from_pures HF 2 2 (j := 4) [(8, .int .i64 0), (7, .int .i64 0)] (by kernel_rfl) rfl ?_; clear HF; intro a HF
  refine from_done rfl ?_
  replace HF := HF.sub (σ' := [(8, .int .i64 0), (7, .int .i64 0), (6, .pointer (some ⟨g6, 0, none⟩)), (3, .pointer (some ⟨g3, 0, none⟩)), (1, .int .u8 (cpu : Int)), (2, .slice A n c)]) (by kernel_rfl)
  refine wp_seq ?_
  refine from_start ?_
  refine from_yl (S := fun wS => Mem w wS _) HF HM (i := 0) rfl rfl (d := 17) rfl (by decide) (v := .agg Ev.zero.cells) ((Yl.build (vs := []) rfl (by kernel_rfl) (by kernel_rfl))) ?_; clear HF; intro a HF
  refine from_op HF (i := 1) rfl rfl ?_
  refine e_alloc HF HM (cs := #[.int .i64 0, .int .i64 0, .int .u8 0, .int .u8 0, .int .i64 0, .int .i64 0, .int .i64 0, .int .i64 0, .int .i64 0, .int .u64 0, .int .i64 0]) rfl (by kernel_rfl) rfl (by decide) ?_
  clear HF HM; intro a w9 g9 HF HM
  refine from_op HF (i := 2) rfl rfl ?_
  refine e_storeAll HF HM (i := 0) (cs := #[.int .i64 0, .int .i64 0, .int .u8 0, .int .u8 0, .int .i64 0, .int .i64 0, .int .i64 0, .int .i64 0, .int .i64 0, .int .u64 0, .int .i64 0]) (ds := Ev.zero.cells) rfl rfl rfl rfl ⟨(by kernel_rfl), (by kernel_rfl)⟩ rfl rfl (ev_one Ev.zero) rfl ?_
  clear HM; intro w1_2 HM
  refine from_done rfl ?_
  replace HF := HF.sub (σ' := [(9, .pointer (some ⟨g9, 0, none⟩)), (8, .int .i64 0), (7, .int .i64 0), (6, .pointer (some ⟨g6, 0, none⟩)), (3, .pointer (some ⟨g3, 0, none⟩)), (1, .int .u8 (cpu : Int)), (2, .slice A n c)]) (by kernel_rfl)
  refine wp_seq ?_
  refine wp_seq ?_
  refine from_start ?_
  refine from_yl (S := fun wS => Mem w wS _) HF HM (i := 0) rfl rfl (d := 18) rfl (by decide) (v := .agg b.cells) (Yl.loadS rfl rfl ⟨(by kernel_rfl), (by kernel_rfl)⟩ rfl (fun _ h => range_of_block (h.blk (i := 2) rfl))) ?_; clear HF; intro a HF
  refine from_op HF (i := 1) rfl rfl ?_
  refine e_call HF (vs := [.agg b.cells]) rfl (by kernel_rfl) (by kernel_rfl) rfl (by decide) (right07_any b _) ?_
  rintro _ w19 ⟨rfl, hbw⟩
  refine ⟨_, rfl, ?_⟩
  replace HM := HM.call hbw
  clear HF; intro a HF
  refine from_pures HF 1 2 (j := 3) [(20, .bool (!b.right))] (by kernel_rfl) rfl ?_; clear HF; intro a HF
  refine from_done rfl ?_
  replace HF := HF.sub (σ' := [(20, .bool (!b.right)), (9, .pointer (some ⟨g9, 0, none⟩)), (8, .int .i64 0), (7, .int .i64 0), (6, .pointer (some ⟨g6, 0, none⟩)), (3, .pointer (some ⟨g3, 0, none⟩)), (1, .int .u8 (cpu : Int)), (2, .slice A n c)]) (by kernel_rfl)
  rcases Bool.eq_false_or_eq_true (!b.right) with hb20 | hb20
  · have HF := HF.as (t := 20) (u := .bool true) rfl (by rw [hb20])
    have hrf : b.right = false := by simpa using hb20
    refine cond_true HF rfl ?_
    refine wp_seq ?_
    refine from_start ?_
    refine from_yl (S := fun wS => Mem w wS _) HF HM (i := 0) rfl rfl (d := 21) rfl (by decide) (v := .agg Ev.zero.cells) (Yl.loadS rfl rfl ⟨(by kernel_rfl), (by kernel_rfl)⟩ rfl (fun _ h => range_of_block (h.blk (i := 0) rfl))) ?_; clear HF; intro a HF
    refine from_op HF (i := 1) rfl rfl ?_
    refine e_storeAll HF HM (i := 1) (cs := #[.int .i64 0, .int .i64 0, .int .u8 0, .int .u8 0, .int .i64 0, .int .i64 0, .int .i64 0, .int .i64 0, .int .i64 0, .int .u64 0, .int .i64 0]) (ds := Ev.zero.cells) rfl rfl rfl rfl ⟨(by kernel_rfl), (by kernel_rfl)⟩ rfl rfl (ev_one Ev.zero) rfl ?_
    clear HM; intro w3_1 HM
    refine from_pures HF 2 2 (j := 4) [(8, .int .i64 70), (7, .int .i64 0)] (by kernel_rfl) rfl ?_; clear HF; intro a HF
    refine from_done rfl ?_
    replace HF := HF.sub (σ' := [(8, .int .i64 70), (7, .int .i64 0), (20, .bool true), (9, .pointer (some ⟨g9, 0, none⟩)), (6, .pointer (some ⟨g6, 0, none⟩)), (3, .pointer (some ⟨g3, 0, none⟩)), (1, .int .u8 (cpu : Int)), (2, .slice A n c)]) (by kernel_rfl)
    refine wp_ret ?_
    exact ret3 rfl HF (.cellS (i := 1) HF HM rfl rfl ⟨(by kernel_rfl), (by kernel_rfl)⟩ rfl) (.tmp HF rfl) (.tmp HF rfl) (⟨by rw [show takeR b cpu _ = _ from by rw [takeR, if_pos hrf]]; rfl, HM.below⟩)
  · have HF := HF.as (t := 20) (u := .bool false) rfl (by rw [hb20])
    have hrt : b.right = true := by simpa using hb20
    have hbd := right_bnd hrt
    refine cond_false HF rfl ?_
    refine wp_skip ?_
    refine wp_seq ?_
    refine wp_seq ?_
    refine from_start ?_
    refine from_pures HF 1 0 (j := 1) [(22, .slice A n c)] (by kernel_rfl) rfl ?_; clear HF; intro a HF
    refine from_yl (S := fun wS => Mem w wS _) HF HM (i := 1) rfl rfl (d := 23) rfl (by decide) (v := .int .i64 ((n : Nat) : Int)) (Yl.len rfl rfl (by kernel_rfl)) ?_; clear HF; intro a HF
    refine from_pures HF 1 2 (j := 3) [(24, .bool ((((n : Nat) : Int) : Int) == (0 : Int)))] (by kernel_rfl) rfl ?_; clear HF; intro a HF
    refine from_done rfl ?_
    replace HF := HF.sub (σ' := [(24, .bool ((((n : Nat) : Int) : Int) == (0 : Int))), (20, .bool false), (9, .pointer (some ⟨g9, 0, none⟩)), (8, .int .i64 0), (7, .int .i64 0), (6, .pointer (some ⟨g6, 0, none⟩)), (3, .pointer (some ⟨g3, 0, none⟩)), (1, .int .u8 (cpu : Int)), (2, .slice A n c)]) (by kernel_rfl)
    rcases Bool.eq_false_or_eq_true ((((n : Nat) : Int) : Int) == (0 : Int)) with hb24 | hb24
    · have HF := HF.as (t := 24) (u := .bool true) rfl (by rw [hb24])
      have hn0 : l = [] := by simp at hb24; exact List.length_eq_zero_iff.1 (by omega)
      refine cond_true HF rfl ?_
      refine wp_seq ?_
      refine from_start ?_
      refine from_yl (S := fun wS => Mem w wS _) HF HM (i := 0) rfl rfl (d := 25) rfl (by decide) (v := .agg Ev.zero.cells) (Yl.loadS rfl rfl ⟨(by kernel_rfl), (by kernel_rfl)⟩ rfl (fun _ h => range_of_block (h.blk (i := 0) rfl))) ?_; clear HF; intro a HF
      refine from_op HF (i := 1) rfl rfl ?_
      refine e_storeAll HF HM (i := 1) (cs := #[.int .i64 0, .int .i64 0, .int .u8 0, .int .u8 0, .int .i64 0, .int .i64 0, .int .i64 0, .int .i64 0, .int .i64 0, .int .u64 0, .int .i64 0]) (ds := Ev.zero.cells) rfl rfl rfl rfl ⟨(by kernel_rfl), (by kernel_rfl)⟩ rfl rfl (ev_one Ev.zero) rfl ?_
      clear HM; intro w5_1 HM
      refine from_pures HF 2 2 (j := 4) [(8, .int .i64 10), (7, .int .i64 0)] (by kernel_rfl) rfl ?_; clear HF; intro a HF
      refine from_done rfl ?_
      replace HF := HF.sub (σ' := [(8, .int .i64 10), (7, .int .i64 0), (24, .bool true), (20, .bool false), (9, .pointer (some ⟨g9, 0, none⟩)), (6, .pointer (some ⟨g6, 0, none⟩)), (3, .pointer (some ⟨g3, 0, none⟩)), (1, .int .u8 (cpu : Int)), (2, .slice A n c)]) (by kernel_rfl)
      refine wp_ret ?_
      exact ret3 rfl HF (.cellS (i := 1) HF HM rfl rfl ⟨(by kernel_rfl), (by kernel_rfl)⟩ rfl) (.tmp HF rfl) (.tmp HF rfl) (⟨by rw [show takeR b cpu _ = _ from by rw [takeR, if_neg (by simp [hrt]), if_pos hn0]]; rfl, HM.below⟩)
    · have HF := HF.as (t := 24) (u := .bool false) rfl (by rw [hb24])
      have hn0 : 0 < n := by simp at hb24; omega
      obtain ⟨kd, r, rfl⟩ : ∃ kd r, l = kd :: r := by cases l with
        | nil => simp at hln; omega
        | cons a b => exact ⟨a, b, rfl⟩
      have hkd : kd < 256 := hl kd (by simp)
      simp only [List.length_cons] at hln
      have hul := usesL_len kd
      refine cond_false HF rfl ?_
      refine wp_skip ?_
      refine wp_seq ?_
      refine wp_seq ?_
      refine from_start ?_
      refine from_pures HF 1 0 (j := 1) [(26, .slice A n c)] (by kernel_rfl) rfl ?_; clear HF; intro a HF
      obtain ⟨gA, oA, rfl, _⟩ := hr.some_at (Nat.lt_of_le_of_lt (Nat.zero_le _) (show 0 < n from by omega)) (by decide)
      refine from_yl (S := fun wS => Mem w wS _) HF HM (i := 1) rfl rfl (d := 27) rfl (by decide) (v := .pointer (some ⟨gA, oA, none⟩)) (Yl.indexAddr (ad := ⟨gA, oA, none⟩) (y := 0) (sz := 1) rfl rfl rfl (by omega) (by kernel_rfl)) ?_; clear HF; intro a HF
      refine from_yl (S := fun wS => Mem w wS _) HF HM (i := 2) rfl rfl (d := 28) rfl (by decide) (v := .int .u8 (kd : Int)) (Yl.load1 rfl rfl (by kernel_rfl) (fun _ h => (h.old hr).oneAt1 (k := 0) (map_at (F := B8) (k := 0) (x := kd) (rfl)))) ?_; clear HF; intro a HF
      refine from_op HF (i := 3) rfl rfl ?_
      refine e_call HF (vs := [.int .u8 (kd : Int)]) rfl (by kernel_rfl) (by kernel_rfl) rfl (by decide) (name06_any kd hkd _) ?_
      rintro _ w29 ⟨⟨s, rfl, hs⟩, hbw⟩
      refine ⟨_, rfl, ?_⟩
      replace HM := HM.call hbw
      clear HF; intro a HF
      refine from_pures HF 1 4 (j := 5) [(30, .bool ((s).toList == ((ByteArray.mk #[])).toList))] (by kernel_rfl) rfl ?_; clear HF; intro a HF
      replace HF := HF.as (t := 30) (u := .bool (!decide (1 ≤ kd ∧ kd ≤ 10))) rfl (by rw [str_empty hs])
      refine from_done rfl ?_
      replace HF := HF.sub (σ' := [(30, .bool (!decide (1 ≤ kd ∧ kd ≤ 10))), (24, .bool false), (20, .bool false), (9, .pointer (some ⟨g9, 0, none⟩)), (8, .int .i64 0), (7, .int .i64 0), (6, .pointer (some ⟨g6, 0, none⟩)), (3, .pointer (some ⟨g3, 0, none⟩)), (1, .int .u8 (cpu : Int)), (2, .slice (some ⟨gA, oA, none⟩) n c)]) (by kernel_rfl)
      rcases Bool.eq_false_or_eq_true (!decide (1 ≤ kd ∧ kd ≤ 10)) with hb30 | hb30
      · have HF := HF.as (t := 30) (u := .bool true) rfl (by rw [hb30])
        have hku : (usesL kd).length = 0 := uses_kindless (by simp at hb30; omega)
        refine cond_true HF rfl ?_
        refine wp_seq ?_
        refine from_start ?_
        refine from_yl (S := fun wS => Mem w wS _) HF HM (i := 0) rfl rfl (d := 31) rfl (by decide) (v := .agg Ev.zero.cells) (Yl.loadS rfl rfl ⟨(by kernel_rfl), (by kernel_rfl)⟩ rfl (fun _ h => range_of_block (h.blk (i := 0) rfl))) ?_; clear HF; intro a HF
        refine from_op HF (i := 1) rfl rfl ?_
        refine e_storeAll HF HM (i := 1) (cs := #[.int .i64 0, .int .i64 0, .int .u8 0, .int .u8 0, .int .i64 0, .int .i64 0, .int .i64 0, .int .i64 0, .int .i64 0, .int .u64 0, .int .i64 0]) (ds := Ev.zero.cells) rfl rfl rfl rfl ⟨(by kernel_rfl), (by kernel_rfl)⟩ rfl rfl (ev_one Ev.zero) rfl ?_
        clear HM; intro w7_1 HM
        refine from_pures HF 2 2 (j := 4) [(8, .int .i64 60), (7, .int .i64 0)] (by kernel_rfl) rfl ?_; clear HF; intro a HF
        refine from_done rfl ?_
        replace HF := HF.sub (σ' := [(8, .int .i64 60), (7, .int .i64 0), (30, .bool true), (24, .bool false), (20, .bool false), (9, .pointer (some ⟨g9, 0, none⟩)), (6, .pointer (some ⟨g6, 0, none⟩)), (3, .pointer (some ⟨g3, 0, none⟩)), (1, .int .u8 (cpu : Int)), (2, .slice (some ⟨gA, oA, none⟩) n c)]) (by kernel_rfl)
        refine wp_ret ?_
        exact ret3 rfl HF (.cellS (i := 1) HF HM rfl rfl ⟨(by kernel_rfl), (by kernel_rfl)⟩ rfl) (.tmp HF rfl) (.tmp HF rfl) (⟨by rw [show takeR b cpu _ = _ from takeR_kindless hrt hku]; rfl, HM.below⟩)
      · have HF := HF.as (t := 30) (u := .bool false) rfl (by rw [hb30])
        have hku : (usesL kd).length ≠ 0 := uses_kind (by simp at hb30; omega)
        refine cond_false HF rfl ?_
        refine wp_skip ?_
        refine wp_seq ?_
        refine from_start ?_
        refine from_pures HF 1 0 (j := 1) [(10, .int .i64 1)] (by kernel_rfl) rfl ?_; clear HF; intro a HF
        refine from_done rfl ?_
        replace HF := HF.sub (σ' := [(10, .int .i64 1), (30, .bool false), (24, .bool false), (20, .bool false), (9, .pointer (some ⟨g9, 0, none⟩)), (8, .int .i64 0), (7, .int .i64 0), (6, .pointer (some ⟨g6, 0, none⟩)), (3, .pointer (some ⟨g3, 0, none⟩)), (1, .int .u8 (cpu : Int)), (2, .slice (some ⟨gA, oA, none⟩) n c)]) (by kernel_rfl)
        refine wp_seq ?_
        refine from_start ?_
        refine from_pures HF 1 0 (j := 1) [(11, .slice none 0 0)] (by kernel_rfl) rfl ?_; clear HF; intro a HF
        refine from_done rfl ?_
        replace HM := HM.nil 35 1
        refine wp_seq ?_
        refine wp_block ?_
        refine loop_nat (fun mS aS wS => ∃ (u : Nat) (xs : List Nat) (Ak : Option Addr) (ck : Nat), (1 + u ≤ n) ∧ (∀ x ∈ xs, x < 18446744073709551616) ∧ (xs.length ≤ (2 + (usesL kd).length)) ∧ (xs.length ≤ ck) ∧ (readN (2 + (usesL kd).length) r = joinR xs u (readN ((2 + (usesL kd).length) - xs.length) (r.drop u))) ∧ mS = (2 + (usesL kd).length) - xs.length ∧ Fr aS 101 [] [(11, .slice Ak xs.length ck), (10, .int .i64 ((1 + u : Nat) : Int)), (30, .bool false), (24, .bool false), (20, .bool false), (9, .pointer (some ⟨g9, 0, none⟩)), (8, .int .i64 0), (7, .int .i64 0), (6, .pointer (some ⟨g6, 0, none⟩)), (3, .pointer (some ⟨g3, 0, none⟩)), (1, .int .u8 (cpu : Int)), (2, .slice (some ⟨gA, oA, none⟩) n c)] ∧ Mem w wS [.row (.slice Ak xs.length ck) xs.length (xs.map U64) 35 1, .blk g9 Ev.zero.cells 64, .blk g6 #[.int .i64 0, .int .i64 0, .int .u8 0, .int .u8 0, .int .i64 0, .int .i64 0, .int .i64 0, .int .i64 0, .int .i64 0, .int .u64 0, .int .i64 0] 64, .blk g3 b.cells 63]) (m := (2 + (usesL kd).length) - [].length) ⟨0, [], none, 0, by omega, fun x hx => (by cases hx), Nat.zero_le _, Nat.le_refl _, (joinR_nil _ (readN_bad _ _)).symm, rfl, HF.sub (by kernel_rfl), HM.picks [0, 1, 2, 3] (by decide) rfl⟩ ?_
        clear HF HM; rintro mS a w_ ⟨u, xs, Ak, ck, hu, hxs, hxl, hck, hj, rfl, HF, HM⟩
        refine wp_seq ?_
        refine wp_seq ?_
        refine from_start ?_
        refine from_pures HF 1 0 (j := 1) [(32, .slice Ak xs.length ck)] (by kernel_rfl) rfl ?_; clear HF; intro a HF
        refine from_yl (S := fun wS => Mem w wS _) HF HM (i := 1) rfl rfl (d := 33) rfl (by decide) (v := .int .i64 ((xs.length : Nat) : Int)) (Yl.len rfl rfl (by kernel_rfl)) ?_; clear HF; intro a HF
        refine from_pures HF 1 2 (j := 3) [(34, .slice (some ⟨gA, oA, none⟩) n c)] (by kernel_rfl) rfl ?_; clear HF; intro a HF
        refine from_yl (S := fun wS => Mem w wS _) HF HM (i := 3) rfl rfl (d := 35) rfl (by decide) (v := .pointer (some ⟨gA, oA, none⟩)) (Yl.indexAddr (ad := ⟨gA, oA, none⟩) (y := 0) (sz := 1) rfl rfl rfl (by omega) (by kernel_rfl)) ?_; clear HF; intro a HF
        refine from_yl (S := fun wS => Mem w wS _) HF HM (i := 4) rfl rfl (d := 36) rfl (by decide) (v := .int .u8 (kd : Int)) (Yl.load1 rfl rfl (by kernel_rfl) (fun _ h => (h.old hr).oneAt1 (k := 0) (map_at (F := B8) (k := 0) (x := kd) (rfl)))) ?_; clear HF; intro a HF
        refine from_op HF (i := 5) rfl rfl ?_
        refine e_call HF (vs := [.int .u8 (kd : Int)]) rfl (by kernel_rfl) (by kernel_rfl) rfl (by decide) (fields06_any kd hkd _) ?_
        rintro _ w37 ⟨⟨v, xs37, rfl, ho⟩, hbw⟩
        obtain ⟨A37, c37, rfl, hc37⟩ := own_slice ho
        refine ⟨_, rfl, ?_⟩
        replace HM := HM.callRow hbw ho
        clear HF; intro a HF
        refine from_yl (S := fun wS => Mem w wS _) HF HM (i := 6) rfl rfl (d := 38) rfl (by decide) (v := .int .i64 (((usesL kd).length : Nat) : Int)) (Yl.len rfl rfl (by kernel_rfl)) ?_; clear HF; intro a HF
        refine from_pures HF 1 7 (j := 8) [(39, .int .i64 (IntKind.i64.wrap (2 + (((usesL kd).length : Nat) : Int))))] (by kernel_rfl) rfl ?_; clear HF; intro a HF
        replace HF := HF.as (t := 39) (u := .int .i64 ((2 + (usesL kd).length : Nat) : Int)) rfl (by rw [IntWalk.i64_in _ (by omega)]; simp)
        refine from_pures HF 1 8 (j := 9) [(40, .bool (decide ((((xs.length : Nat) : Int) : Int) < (((2 + (usesL kd).length : Nat) : Int) : Int))))] (by kernel_rfl) rfl ?_; clear HF; intro a HF
        refine from_done rfl ?_
        replace HF := HF.sub (σ' := [(40, .bool (decide ((((xs.length : Nat) : Int) : Int) < (((2 + (usesL kd).length : Nat) : Int) : Int)))), (11, .slice Ak xs.length ck), (10, .int .i64 ((1 + u : Nat) : Int)), (30, .bool false), (24, .bool false), (20, .bool false), (9, .pointer (some ⟨g9, 0, none⟩)), (8, .int .i64 0), (7, .int .i64 0), (6, .pointer (some ⟨g6, 0, none⟩)), (3, .pointer (some ⟨g3, 0, none⟩)), (1, .int .u8 (cpu : Int)), (2, .slice (some ⟨gA, oA, none⟩) n c)]) (by kernel_rfl)
        replace HM := HM.picks (fs' := [.row (.slice Ak xs.length ck) xs.length (xs.map U64) 35 1, .blk g9 Ev.zero.cells 64, .blk g6 #[.int .i64 0, .int .i64 0, .int .u8 0, .int .u8 0, .int .i64 0, .int .i64 0, .int .i64 0, .int .i64 0, .int .i64 0, .int .u64 0, .int .i64 0] 64, .blk g3 b.cells 63]) [1, 2, 3, 4] (by decide) rfl
        rcases Bool.eq_false_or_eq_true (decide ((((xs.length : Nat) : Int) : Int) < (((2 + (usesL kd).length : Nat) : Int) : Int))) with hb40 | hb40
        · have HF := HF.as (t := 40) (u := .bool true) rfl (by rw [hb40])
          have hlt : xs.length < (2 + (usesL kd).length) := by simp at hb40; omega
          obtain ⟨q, hq⟩ : ∃ q, vread (r.drop u) = q := ⟨_, rfl⟩
          have hq64 := vread_bound (r.drop u) (fun y hy => hl y (List.mem_cons_of_mem _ (List.mem_of_mem_drop hy)))
          have hql := vread_len (r.drop u)
          rw [List.length_drop] at hql
          rw [hq] at hq64 hql
          refine cond_true HF rfl ?_
          refine wp_skip ?_
          refine wp_block ?_
          refine wp_seq ?_
          refine from_start ?_
          refine from_pures HF 2 0 (j := 2) [(43, .int .i64 ((1 + u : Nat) : Int)), (42, .slice (some ⟨gA, oA, none⟩) n c)] (by kernel_rfl) rfl ?_; clear HF; intro a HF
          refine from_yl (S := fun wS => Mem w wS _) HF HM (i := 2) rfl rfl (d := 44) rfl (by decide) (v := .slice (if c = (1 + u) then some ⟨gA, oA, none⟩ else (some ⟨gA, oA, none⟩ : Option Addr).map (·.add ((1 + u) * 1))) (n - (1 + u)) (c - (1 + u))) (Yl.sliceFrom ei_u8 (j := (1 + u)) rfl rfl rfl (by omega)) ?_; clear HF; intro a HF
          refine from_op HF (i := 3) rfl rfl ?_
          refine e_call HF (vs := [.slice (if c = (1 + u) then some ⟨gA, oA, none⟩ else (some ⟨gA, oA, none⟩ : Option Addr).map (·.add ((1 + u) * 1))) (n - (1 + u)) (c - (1 + u))]) rfl (by kernel_rfl) (by kernel_rfl) rfl (by decide) ((by have h := read01_any _ (n - (1 + u)) (c - (1 + u)) _ (r.drop u) _ (by have h := Rd.fromB8 (HM.old hr) (k := 1 + u) (by omega) hc; rw [show (kd :: r).drop (1 + u) = r.drop u from by rw [Nat.add_comm]; rfl] at h; exact h) (fun y hy => hl y (List.mem_cons_of_mem _ (List.mem_of_mem_drop hy))) (by omega); rw [hq] at h; exact h)) ?_
          rintro _ w45 ⟨rfl, rfl⟩
          refine ⟨_, rfl, ?_⟩
          replace HM := HM
          clear HF; intro a HF
          refine from_pures HF 7 4 (j := 11) [(14, .int .i64 (q.2.2 : Int)), (13, .int .i64 (q.2.1 : Int)), (12, .int .u64 (q.1 : Int)), (48, .int .i64 (q.2.2 : Int)), (47, .int .i64 (q.2.1 : Int)), (46, .int .u64 (q.1 : Int)), (41, .tuple #[.int .u64 (q.1 : Int), .int .i64 (q.2.1 : Int), .int .i64 (q.2.2 : Int)])] (by kernel_rfl) rfl ?_; clear HF; intro a HF
          refine from_done rfl ?_
          replace HF := HF.sub (σ' := [(14, .int .i64 (q.2.2 : Int)), (13, .int .i64 (q.2.1 : Int)), (12, .int .u64 (q.1 : Int)), (40, .bool true), (11, .slice Ak xs.length ck), (10, .int .i64 ((1 + u : Nat) : Int)), (30, .bool false), (24, .bool false), (20, .bool false), (9, .pointer (some ⟨g9, 0, none⟩)), (8, .int .i64 0), (7, .int .i64 0), (6, .pointer (some ⟨g6, 0, none⟩)), (3, .pointer (some ⟨g3, 0, none⟩)), (1, .int .u8 (cpu : Int)), (2, .slice (some ⟨gA, oA, none⟩) n c)]) (by kernel_rfl)
          refine wp_seq ?_
          refine wp_seq ?_
          refine from_start ?_
          refine from_pures HF 2 0 (j := 2) [(50, .bool (((q.2.2 : Int) : Int) != (0 : Int))), (49, .int .i64 (q.2.2 : Int))] (by kernel_rfl) rfl ?_; clear HF; intro a HF
          refine from_done rfl ?_
          replace HF := HF.sub (σ' := [(50, .bool (((q.2.2 : Int) : Int) != (0 : Int))), (14, .int .i64 (q.2.2 : Int)), (13, .int .i64 (q.2.1 : Int)), (12, .int .u64 (q.1 : Int)), (40, .bool true), (11, .slice Ak xs.length ck), (10, .int .i64 ((1 + u : Nat) : Int)), (30, .bool false), (24, .bool false), (20, .bool false), (9, .pointer (some ⟨g9, 0, none⟩)), (8, .int .i64 0), (7, .int .i64 0), (6, .pointer (some ⟨g6, 0, none⟩)), (3, .pointer (some ⟨g3, 0, none⟩)), (1, .int .u8 (cpu : Int)), (2, .slice (some ⟨gA, oA, none⟩) n c)]) (by kernel_rfl)
          rcases Bool.eq_false_or_eq_true (((q.2.2 : Int) : Int) != (0 : Int)) with hb50 | hb50
          · have HF := HF.as (t := 50) (u := .bool true) rfl (by rw [hb50])
            have hq2 : q.2.2 ≠ 0 := by rw [bne_iff_ne] at hb50; omega
            refine cond_true HF rfl ?_
            refine wp_seq ?_
            refine from_start ?_
            refine from_yl (S := fun wS => Mem w wS _) HF HM (i := 0) rfl rfl (d := 51) rfl (by decide) (v := .agg Ev.zero.cells) (Yl.loadS rfl rfl ⟨(by kernel_rfl), (by kernel_rfl)⟩ rfl (fun _ h => range_of_block (h.blk (i := 1) rfl))) ?_; clear HF; intro a HF
            refine from_pures HF 1 1 (j := 2) [(52, .int .i64 (q.2.2 : Int))] (by kernel_rfl) rfl ?_; clear HF; intro a HF
            refine from_op HF (i := 2) rfl rfl ?_
            refine e_storeAll HF HM (i := 2) (cs := #[.int .i64 0, .int .i64 0, .int .u8 0, .int .u8 0, .int .i64 0, .int .i64 0, .int .i64 0, .int .i64 0, .int .i64 0, .int .u64 0, .int .i64 0]) (ds := Ev.zero.cells) rfl rfl rfl rfl ⟨(by kernel_rfl), (by kernel_rfl)⟩ rfl rfl (ev_one Ev.zero) rfl ?_
            clear HM; intro w13_2 HM
            refine from_pures HF 2 3 (j := 5) [(8, .int .i64 (q.2.2 : Int)), (7, .int .i64 0)] (by kernel_rfl) rfl ?_; clear HF; intro a HF
            refine from_done rfl ?_
            replace HF := HF.sub (σ' := [(8, .int .i64 (q.2.2 : Int)), (7, .int .i64 0), (50, .bool true), (14, .int .i64 (q.2.2 : Int)), (13, .int .i64 (q.2.1 : Int)), (12, .int .u64 (q.1 : Int)), (40, .bool true), (11, .slice Ak xs.length ck), (10, .int .i64 ((1 + u : Nat) : Int)), (30, .bool false), (24, .bool false), (20, .bool false), (9, .pointer (some ⟨g9, 0, none⟩)), (6, .pointer (some ⟨g6, 0, none⟩)), (3, .pointer (some ⟨g3, 0, none⟩)), (1, .int .u8 (cpu : Int)), (2, .slice (some ⟨gA, oA, none⟩) n c)]) (by kernel_rfl)
            refine wp_ret ?_
            exact ret3 rfl HF (.cellS (i := 2) HF HM rfl rfl ⟨(by kernel_rfl), (by kernel_rfl)⟩ rfl) (.tmp HF rfl) (.tmp HF rfl) (⟨by rw [show takeR b cpu _ = _ from takeR_unread hrt hku hj hlt hq hq2]; rfl, HM.below⟩)
          · have HF := HF.as (t := 50) (u := .bool false) rfl (by rw [hb50])
            have hq2 : q.2.2 = 0 := by rw [bne_eq_false_iff_eq] at hb50; omega
            have hjn := readN_on hj hlt hq hq2
            refine cond_false HF rfl ?_
            refine wp_skip ?_
            refine wp_seq ?_
            refine from_start ?_
            refine from_pures HF 2 0 (j := 2) [(54, .int .u64 (q.1 : Int)), (53, .slice Ak xs.length ck)] (by kernel_rfl) rfl ?_; clear HF; intro a HF
            refine from_op HF (i := 2) rfl rfl ?_
            refine e_slice HF HM (vs := [(0, .int .u64 (q.1 : Int))]) (cs := #[.int .u64 (q.1 : Int)]) rfl ei_u64 (by decide) rfl (by kernel_rfl) rfl (by decide) ?_
            clear HF HM; intro a w55 g55 HF HM
            refine from_op HF (i := 3) rfl rfl ?_
            refine e_append HF HM (i := 1) rfl ei_u64 rfl rfl rfl (news := [U64 q.1]) (HM.rdBlk (i := 0) (n := 1) (size := 1) rfl rfl) (by simp [Value.oneCell', U64, B8]) (by omega) (by omega) rfl (by decide) ?_
            clear HF HM; intro a w56 A56 c56 HF HM hc56
            refine from_pures HF 1 4 (j := 5) [(11, .slice A56 (xs.length + 1) c56)] (by kernel_rfl) rfl ?_; clear HF; intro a HF
            refine from_done rfl ?_
            replace HF := HF.sub (σ' := [(11, .slice A56 (xs.length + 1) c56), (50, .bool false), (14, .int .i64 (q.2.2 : Int)), (13, .int .i64 (q.2.1 : Int)), (12, .int .u64 (q.1 : Int)), (40, .bool true), (10, .int .i64 ((1 + u : Nat) : Int)), (30, .bool false), (24, .bool false), (20, .bool false), (9, .pointer (some ⟨g9, 0, none⟩)), (8, .int .i64 0), (7, .int .i64 0), (6, .pointer (some ⟨g6, 0, none⟩)), (3, .pointer (some ⟨g3, 0, none⟩)), (1, .int .u8 (cpu : Int)), (2, .slice (some ⟨gA, oA, none⟩) n c)]) (by kernel_rfl)
            replace HM := HM.picks (fs' := [.row (.slice A56 (xs.length + 1) c56) (xs.length + 1) ((xs.map U64) ++ [U64 q.1]) 35 1, .blk g9 Ev.zero.cells 64, .blk g6 #[.int .i64 0, .int .i64 0, .int .u8 0, .int .u8 0, .int .i64 0, .int .i64 0, .int .i64 0, .int .i64 0, .int .i64 0, .int .u64 0, .int .i64 0] 64, .blk g3 b.cells 63]) [1, 2, 3, 4] (by decide) rfl
            have hnA56 : xs.length + 1 = (xs ++ [q.1]).length := by simp
            replace HM := HM.reRow (i := 0) (ys := (xs ++ [q.1]).map U64) rfl hnA56 (by simp)
            rw [hnA56] at hc56
            replace HF := HF.as (t := 11) (u := .slice A56 ((xs ++ [q.1]).length) c56) rfl (by rw [hnA56])
            refine from_start ?_
            refine from_pures HF 3 0 (j := 3) [(59, .int .i64 (IntKind.i64.wrap (((1 + u : Nat) : Int) + (q.2.1 : Int)))), (58, .int .i64 (q.2.1 : Int)), (57, .int .i64 ((1 + u : Nat) : Int))] (by kernel_rfl) rfl ?_; clear HF; intro a HF
            replace HF := HF.as (t := 59) (u := .int .i64 ((1 + (u + q.2.1) : Nat) : Int)) rfl (by rw [IntWalk.i64_in _ (by omega)]; congr 1; omega)
            refine from_pures HF 1 3 (j := 4) [(10, .int .i64 ((1 + (u + q.2.1) : Nat) : Int))] (by kernel_rfl) rfl ?_; clear HF; intro a HF
            refine from_done rfl ?_
            replace HF := HF.sub (σ' := [(10, .int .i64 ((1 + (u + q.2.1) : Nat) : Int)), (11, .slice A56 ((xs ++ [q.1]).length) c56), (50, .bool false), (14, .int .i64 (q.2.2 : Int)), (13, .int .i64 (q.2.1 : Int)), (12, .int .u64 (q.1 : Int)), (40, .bool true), (30, .bool false), (24, .bool false), (20, .bool false), (9, .pointer (some ⟨g9, 0, none⟩)), (8, .int .i64 0), (7, .int .i64 0), (6, .pointer (some ⟨g6, 0, none⟩)), (3, .pointer (some ⟨g3, 0, none⟩)), (1, .int .u8 (cpu : Int)), (2, .slice (some ⟨gA, oA, none⟩) n c)]) (by kernel_rfl)
            exact ⟨_, (by simp; omega), u + q.2.1, xs ++ [q.1], A56, c56, by omega, fun x hx => (List.mem_append.1 hx).elim (hxs x) (fun h => by rw [List.mem_singleton.1 h]; exact hq64), by simp; omega, hc56, hjn, rfl, HF.sub (by kernel_rfl), HM.picks [0, 1, 2, 3] (by decide) rfl⟩
        · have HF := HF.as (t := 40) (u := .bool false) rfl (by rw [hb40])
          have hge : xs.length = (2 + (usesL kd).length) := by simp at hb40; omega
          obtain ⟨x0, x1, vs, rfl⟩ : ∃ x0 x1 vs, xs = x0 :: x1 :: vs := by
            match xs, hge with
            | x0 :: x1 :: vs, _ => exact ⟨x0, x1, vs, rfl⟩
            | [], h => simp at h; omega
            | [a], h => simp at h; omega
          refine cond_false HF rfl ?_
          refine wp_exit ?_
          refine wp_seq ?_
          refine cut_seq (fun aS wS => Fr aS 101 [] [(69, .bool (decide (281474976710656 < x0 ∨ 281474976710656 < x1))), (40, .bool false), (11, .slice Ak ((x0 :: x1 :: vs).length) ck), (10, .int .i64 ((1 + u : Nat) : Int)), (30, .bool false), (24, .bool false), (20, .bool false), (9, .pointer (some ⟨g9, 0, none⟩)), (8, .int .i64 0), (7, .int .i64 0), (6, .pointer (some ⟨g6, 0, none⟩)), (3, .pointer (some ⟨g3, 0, none⟩)), (1, .int .u8 (cpu : Int)), (2, .slice (some ⟨gA, oA, none⟩) n c)] ∧ Mem w wS [.row (.slice Ak ((x0 :: x1 :: vs).length) ck) ((x0 :: x1 :: vs).length) ((x0 :: x1 :: vs).map U64) 35 1, .blk g9 Ev.zero.cells 64, .blk g6 #[.int .i64 0, .int .i64 0, .int .u8 0, .int .u8 0, .int .i64 0, .int .i64 0, .int .i64 0, .int .i64 0, .int .i64 0, .int .u64 0, .int .i64 0] 64, .blk g3 b.cells 63]) ?_ ?_
          ·
            refine from_start ?_
            refine from_pures HF 1 0 (j := 1) [(60, .slice Ak ((x0 :: x1 :: vs).length) ck)] (by kernel_rfl) rfl ?_; clear HF; intro a HF
            obtain ⟨gAk, rfl⟩ := own_some (HM.own (i := 0) rfl) (Nat.lt_of_le_of_lt (Nat.zero_le _) (show 0 < (x0 :: x1 :: vs).length from by simp))
            refine from_yl (S := fun wS => Mem w wS _) HF HM (i := 1) rfl rfl (d := 61) rfl (by decide) (v := .pointer (some ⟨gAk, 0, none⟩)) (Yl.indexAddr (ad := ⟨gAk, 0, none⟩) (y := 0) (sz := 1) rfl rfl rfl (by simp) (by kernel_rfl)) ?_; clear HF; intro a HF
            refine from_yl (S := fun wS => Mem w wS _) HF HM (i := 2) rfl rfl (d := 62) rfl (by decide) (v := .int .u64 (x0 : Int)) (Yl.load1 rfl rfl (by kernel_rfl) (fun _ h => h.rowOne (i := 0) rfl (k := 0) (map_at (F := U64) (k := 0) (x := x0) (rfl)))) ?_; clear HF; intro a HF
            refine from_pures HF 2 3 (j := 5) [(64, .bool (decide (((x0 : Int) : Int) > (281474976710656 : Int)))), (63, .bool (decide (((x0 : Int) : Int) > (281474976710656 : Int))))] (by kernel_rfl) rfl ?_; clear HF; intro a HF
            rcases Bool.eq_false_or_eq_true (decide (((x0 : Int) : Int) > (281474976710656 : Int))) with hb64 | hb64
            · have HF := HF.as (t := 64) (u := .bool true) rfl (by rw [hb64])
              refine from_pures HF 5 5 (j := 10) [(69, .bool true), (68, undef), (67, undef), (66, undef), (65, undef)] (by kernel_rfl) rfl ?_; clear HF; intro a HF
              refine from_done rfl ?_
              replace HF := HF.sub (σ' := [(69, .bool true), (40, .bool false), (11, .slice (some ⟨gAk, 0, none⟩) ((x0 :: x1 :: vs).length) ck), (10, .int .i64 ((1 + u : Nat) : Int)), (30, .bool false), (24, .bool false), (20, .bool false), (9, .pointer (some ⟨g9, 0, none⟩)), (8, .int .i64 0), (7, .int .i64 0), (6, .pointer (some ⟨g6, 0, none⟩)), (3, .pointer (some ⟨g3, 0, none⟩)), (1, .int .u8 (cpu : Int)), (2, .slice (some ⟨gA, oA, none⟩) n c)]) (by kernel_rfl)
              have HF := HF.as (t := 69) (u := .bool (decide (281474976710656 < x0 ∨ 281474976710656 < x1))) rfl (congrArg Value.bool (by skip; (try simp at hb40); (try simp at hb64); rw [Bool.eq_iff_iff]; (try simp [hb40, hb64]); (try omega)))
              exact ⟨HF.sub (by kernel_rfl), HM.picks [0, 1, 2, 3] (by decide) rfl⟩
            · have HF := HF.as (t := 64) (u := .bool false) rfl (by rw [hb64])
              refine from_pures HF 1 5 (j := 6) [(65, .slice (some ⟨gAk, 0, none⟩) ((x0 :: x1 :: vs).length) ck)] (by kernel_rfl) rfl ?_; clear HF; intro a HF
              refine from_yl (S := fun wS => Mem w wS _) HF HM (i := 6) rfl rfl (d := 66) rfl (by decide) (v := .pointer (some ⟨gAk, 1, none⟩)) (Yl.indexAddr (ad := ⟨gAk, 0, none⟩) (y := 1) (sz := 1) rfl rfl rfl (by simp) (by kernel_rfl)) ?_; clear HF; intro a HF
              refine from_yl (S := fun wS => Mem w wS _) HF HM (i := 7) rfl rfl (d := 67) rfl (by decide) (v := .int .u64 (x1 : Int)) (Yl.load1 rfl rfl (by kernel_rfl) (fun _ h => h.rowOne (i := 0) rfl (k := 1) (map_at (F := U64) (k := 1) (x := x1) (rfl)))) ?_; clear HF; intro a HF
              refine from_pures HF 2 8 (j := 10) [(69, .bool (decide (((x1 : Int) : Int) > (281474976710656 : Int)))), (68, .bool (decide (((x1 : Int) : Int) > (281474976710656 : Int))))] (by kernel_rfl) rfl ?_; clear HF; intro a HF
              refine from_done rfl ?_
              replace HF := HF.sub (σ' := [(69, .bool (decide (((x1 : Int) : Int) > (281474976710656 : Int)))), (40, .bool false), (11, .slice (some ⟨gAk, 0, none⟩) ((x0 :: x1 :: vs).length) ck), (10, .int .i64 ((1 + u : Nat) : Int)), (30, .bool false), (24, .bool false), (20, .bool false), (9, .pointer (some ⟨g9, 0, none⟩)), (8, .int .i64 0), (7, .int .i64 0), (6, .pointer (some ⟨g6, 0, none⟩)), (3, .pointer (some ⟨g3, 0, none⟩)), (1, .int .u8 (cpu : Int)), (2, .slice (some ⟨gA, oA, none⟩) n c)]) (by kernel_rfl)
              have HF := HF.as (t := 69) (u := .bool (decide (281474976710656 < x0 ∨ 281474976710656 < x1))) rfl (congrArg Value.bool (by skip; (try simp at hb40); (try simp at hb64); rw [Bool.eq_iff_iff]; (try simp [hb40, hb64]); (try omega)))
              exact ⟨HF.sub (by kernel_rfl), HM.picks [0, 1, 2, 3] (by decide) rfl⟩
          clear HF HM; rintro a w16 ⟨HF, HM⟩
          rcases Bool.eq_false_or_eq_true (decide (281474976710656 < x0 ∨ 281474976710656 < x1)) with hb69 | hb69
          · have HF := HF.as (t := 69) (u := .bool true) rfl (by rw [hb69])
            have hfar : 281474976710656 < x0 ∨ 281474976710656 < x1 := by simpa using hb69
            refine cond_true HF rfl ?_
            refine wp_seq ?_
            refine from_start ?_
            refine from_yl (S := fun wS => Mem w wS _) HF HM (i := 0) rfl rfl (d := 70) rfl (by decide) (v := .agg Ev.zero.cells) (Yl.loadS rfl rfl ⟨(by kernel_rfl), (by kernel_rfl)⟩ rfl (fun _ h => range_of_block (h.blk (i := 1) rfl))) ?_; clear HF; intro a HF
            refine from_op HF (i := 1) rfl rfl ?_
            refine e_storeAll HF HM (i := 2) (cs := #[.int .i64 0, .int .i64 0, .int .u8 0, .int .u8 0, .int .i64 0, .int .i64 0, .int .i64 0, .int .i64 0, .int .i64 0, .int .u64 0, .int .i64 0]) (ds := Ev.zero.cells) rfl rfl rfl rfl ⟨(by kernel_rfl), (by kernel_rfl)⟩ rfl rfl (ev_one Ev.zero) rfl ?_
            clear HM; intro w17_1 HM
            refine from_pures HF 2 2 (j := 4) [(8, .int .i64 61), (7, .int .i64 0)] (by kernel_rfl) rfl ?_; clear HF; intro a HF
            refine from_done rfl ?_
            replace HF := HF.sub (σ' := [(8, .int .i64 61), (7, .int .i64 0), (69, .bool true), (40, .bool false), (11, .slice Ak ((x0 :: x1 :: vs).length) ck), (10, .int .i64 ((1 + u : Nat) : Int)), (30, .bool false), (24, .bool false), (20, .bool false), (9, .pointer (some ⟨g9, 0, none⟩)), (6, .pointer (some ⟨g6, 0, none⟩)), (3, .pointer (some ⟨g3, 0, none⟩)), (1, .int .u8 (cpu : Int)), (2, .slice (some ⟨gA, oA, none⟩) n c)]) (by kernel_rfl)
            refine wp_ret ?_
            exact ret3 rfl HF (.cellS (i := 2) HF HM rfl rfl ⟨(by kernel_rfl), (by kernel_rfl)⟩ rfl) (.tmp HF rfl) (.tmp HF rfl) (⟨by rw [show takeR b cpu _ = _ from (takeR_read hrt hku hj hge).trans (takeEv_far ⟨hbd.1, hbd.2.2.1⟩ hfar)]; rfl, HM.below⟩)
          · have HF := HF.as (t := 69) (u := .bool false) rfl (by rw [hb69])
            have hnear : ¬ (281474976710656 < x0 ∨ 281474976710656 < x1) := by simpa using hb69
            have hev := bev_ok (x0 := x0) (x1 := x1) hbd hcpu hkd hnear
            refine cond_false HF rfl ?_
            refine wp_skip ?_
            refine cut_seq (fun aS wS => ∃ (g15 : Nat), Fr aS 101 [] [(16, .int .i64 ((b.ev cpu kd x0 x1).withErr vs : Int)), (15, .pointer (some ⟨g15, 0, none⟩)), (69, .bool false), (40, .bool false), (11, .slice Ak ((x0 :: x1 :: vs).length) ck), (10, .int .i64 ((1 + u : Nat) : Int)), (30, .bool false), (24, .bool false), (20, .bool false), (9, .pointer (some ⟨g9, 0, none⟩)), (8, .int .i64 0), (7, .int .i64 0), (6, .pointer (some ⟨g6, 0, none⟩)), (3, .pointer (some ⟨g3, 0, none⟩)), (2, .slice (some ⟨gA, oA, none⟩) n c)] ∧ Mem w wS [.blk g15 (((b.ev cpu kd x0 x1).withEv vs).cells) 64, .row (.slice Ak ((x0 :: x1 :: vs).length) ck) ((x0 :: x1 :: vs).length) ((x0 :: x1 :: vs).map U64) 35 1, .blk g9 Ev.zero.cells 64, .blk g6 #[.int .i64 0, .int .i64 0, .int .u8 0, .int .u8 0, .int .i64 0, .int .i64 0, .int .i64 0, .int .i64 0, .int .i64 0, .int .u64 0, .int .i64 0] 64, .blk g3 b.cells 63]) ?_ ?_
            ·
              refine any_start (by kernel_rfl) (fun wS => Mem w wS [.row (.slice Ak ((x0 :: x1 :: vs).length) ck) ((x0 :: x1 :: vs).length) ((x0 :: x1 :: vs).map U64) 35 1, .blk g9 Ev.zero.cells 64, .blk g6 #[.int .i64 0, .int .i64 0, .int .u8 0, .int .u8 0, .int .i64 0, .int .i64 0, .int .i64 0, .int .i64 0, .int .i64 0, .int .u64 0, .int .i64 0] 64, .blk g3 b.cells 63]) [26] ?_
              replace HM := HM.drew
              have HS := HM.picks (fs' := [.row (.slice Ak ((x0 :: x1 :: vs).length) ck) ((x0 :: x1 :: vs).length) ((x0 :: x1 :: vs).map U64) 35 1, .blk g9 Ev.zero.cells 64, .blk g6 #[.int .i64 0, .int .i64 0, .int .u8 0, .int .u8 0, .int .i64 0, .int .i64 0, .int .i64 0, .int .i64 0, .int .i64 0, .int .u64 0, .int .i64 0] 64, .blk g3 b.cells 63]) [0, 1, 2, 3] (by decide) rfl
              refine any_pures HF (fun _ => HS) (fun _ _ d _ _ h => by cases d <;> exact h) [0, 2, 7, 9, 14, 15, 19] #[true, false, true, false, false, false, false, true, false, true, false, false, false, false, true, true, false, false, false, true, false, false, false, false, false, false, false, false] [(91, .slice Ak ((x0 :: x1 :: vs).length) ck), (87, .slice (some ⟨gA, oA, none⟩) n c), (86, .int .u8 (cpu : Int)), (81, .slice Ak ((x0 :: x1 :: vs).length) ck), (79, .pointer (some ⟨g3, 1, none⟩)), (74, .slice Ak ((x0 :: x1 :: vs).length) ck), (72, .pointer (some ⟨g3, 0, none⟩))] (by kernel_rfl) ?_; clear HF; intro a HF
              refine any_yl HF HS (i := 1) rfl rfl (d := 73) rfl (by decide) (by kernel_rfl) (fun _ _ _ h => h) (v := .int .i64 b.seq) (Yl.load1 rfl rfl (by kernel_rfl) (fun _ h => h.cell (i := 3) rfl rfl)) ?_; clear HF; intro a HF
              obtain ⟨gAk, rfl⟩ := own_some (HM.own (i := 0) rfl) (Nat.lt_of_le_of_lt (Nat.zero_le _) (show 0 < (x0 :: x1 :: vs).length from by simp))
              refine any_yl HF HS (i := 3) rfl rfl (d := 75) rfl (by decide) (by kernel_rfl) (fun _ _ _ h => h) (v := .pointer (some ⟨gAk, 0, none⟩)) (Yl.indexAddr (ad := ⟨gAk, 0, none⟩) (y := 0) (sz := 1) rfl rfl rfl (by simp) (by kernel_rfl)) ?_; clear HF; intro a HF
              refine any_yl HF HS (i := 4) rfl rfl (d := 76) rfl (by decide) (by kernel_rfl) (fun _ _ _ h => h) (v := .int .u64 (x0 : Int)) (Yl.load1 rfl rfl (by kernel_rfl) (fun _ h => h.rowOne (i := 0) rfl (k := 0) (map_at (F := U64) (k := 0) (x := x0) (rfl)))) ?_; clear HF; intro a HF
              refine any_pure HF (fun _ => HS) (i := 5) rfl rfl (d := 77) rfl (by decide) (by kernel_rfl) (fun _ _ _ h => h) (v := .int .i64 (IntKind.i64.wrap (x0 : Int))) (fun _ => Yl.pure (by kernel_rfl)) ?_; clear HF; intro a HF
              replace HF := HF.as (t := 77) (u := .int .i64 (x0 : Int)) rfl (by rw [IntWalk.i64_in _ (by omega)])
              refine any_pure HF (fun _ => HS) (i := 6) rfl rfl (d := 78) rfl (by decide) (by kernel_rfl) (fun _ _ _ h => h) (v := .int .i64 (IntKind.i64.wrap (b.seq + (x0 : Int)))) (fun _ => Yl.pure (by kernel_rfl)) ?_; clear HF; intro a HF
              replace HF := HF.as (t := 78) (u := .int .i64 (b.seq + (x0 : Int))) rfl (by rw [IntWalk.i64_in _ (by omega)])
              refine any_yl HF HS (i := 8) rfl rfl (d := 80) rfl (by decide) (by kernel_rfl) (fun _ _ _ h => h) (v := .int .i64 b.time) (Yl.load1 rfl rfl (by kernel_rfl) (fun _ h => h.cell (i := 3) rfl rfl)) ?_; clear HF; intro a HF
              refine any_yl HF HS (i := 10) rfl rfl (d := 82) rfl (by decide) (by kernel_rfl) (fun _ _ _ h => h) (v := .pointer (some ⟨gAk, 1, none⟩)) (Yl.indexAddr (ad := ⟨gAk, 0, none⟩) (y := 1) (sz := 1) rfl rfl rfl (by simp) (by kernel_rfl)) ?_; clear HF; intro a HF
              refine any_yl HF HS (i := 11) rfl rfl (d := 83) rfl (by decide) (by kernel_rfl) (fun _ _ _ h => h) (v := .int .u64 (x1 : Int)) (Yl.load1 rfl rfl (by kernel_rfl) (fun _ h => h.rowOne (i := 0) rfl (k := 1) (map_at (F := U64) (k := 1) (x := x1) (rfl)))) ?_; clear HF; intro a HF
              refine any_pure HF (fun _ => HS) (i := 12) rfl rfl (d := 84) rfl (by decide) (by kernel_rfl) (fun _ _ _ h => h) (v := .int .i64 (IntKind.i64.wrap (x1 : Int))) (fun _ => Yl.pure (by kernel_rfl)) ?_; clear HF; intro a HF
              replace HF := HF.as (t := 84) (u := .int .i64 (x1 : Int)) rfl (by rw [IntWalk.i64_in _ (by omega)])
              refine any_pure HF (fun _ => HS) (i := 13) rfl rfl (d := 85) rfl (by decide) (by kernel_rfl) (fun _ _ _ h => h) (v := .int .i64 (IntKind.i64.wrap (b.time + (x1 : Int)))) (fun _ => Yl.pure (by kernel_rfl)) ?_; clear HF; intro a HF
              replace HF := HF.as (t := 85) (u := .int .i64 (b.time + (x1 : Int))) rfl (by rw [IntWalk.i64_in _ (by omega)])
              refine any_yl HF HS (i := 16) rfl rfl (d := 88) rfl (by decide) (by kernel_rfl) (fun _ _ _ h => h) (v := .pointer (some ⟨gA, oA, none⟩)) (Yl.indexAddr (ad := ⟨gA, oA, none⟩) (y := 0) (sz := 1) rfl rfl rfl (by omega) (by kernel_rfl)) ?_; clear HF; intro a HF
              refine any_yl HF HS (i := 17) rfl rfl (d := 89) rfl (by decide) (by kernel_rfl) (fun _ _ _ h => h) (v := .int .u8 (kd : Int)) (Yl.load1 rfl rfl (by kernel_rfl) (fun _ h => (h.old hr).oneAt1 (k := 0) (map_at (F := B8) (k := 0) (x := kd) (rfl)))) ?_; clear HF; intro a HF
              refine any_yl HF HS (i := 18) rfl rfl (d := 90) rfl (by decide) (by kernel_rfl) (fun _ _ _ h => h) (v := .agg ((b.ev cpu kd x0 x1).cells)) ((Yl.build (vs := [(0, .int .i64 (b.seq + (x0 : Int))), (1, .int .i64 (b.time + (x1 : Int))), (2, .int .u8 (cpu : Int)), (3, .int .u8 (kd : Int))]) rfl (by kernel_rfl) (by kernel_rfl))) ?_; clear HF; intro a HF
              refine any_yl HF HS (i := 20) rfl rfl (d := 92) rfl (by decide) (by kernel_rfl) (fun _ _ _ h => h) (v := .slice (if ck = 2 then some ⟨gAk, 0, none⟩ else (some ⟨gAk, 0, none⟩ : Option Addr).map (·.add (2 * 1))) (((x0 :: x1 :: vs).length) - 2) (ck - 2)) (Yl.sliceFrom ei_u64 (j := 2) rfl rfl rfl (by simp)) ?_; clear HF; intro a HF
              refine any_all [21, 25] (by kernel_rfl) rfl ?_
              refine all_cons ?_ ?_
              · refine any_op HF (i := 21) rfl rfl ?_
                refine e_call HF (vs := [.agg ((b.ev cpu kd x0 x1).cells), .slice (if ck = 2 then some ⟨gAk, 0, none⟩ else (some ⟨gAk, 0, none⟩ : Option Addr).map (·.add (2 * 1))) (((x0 :: x1 :: vs).length) - 2) (ck - 2)]) rfl (by kernel_rfl) (by kernel_rfl) rfl (by decide) (rwith_any (b.ev cpu kd x0 x1) hev _ _ _ vs _ (by have h := (HM.rd (i := 0) rfl).from (k := 2) (by simp) hck; exact h) (fun y hy => hxs y (List.mem_cons_of_mem _ (List.mem_cons_of_mem _ hy)))) ?_
                rintro _ w93 ⟨rfl, hbw⟩
                refine ⟨_, rfl, ?_⟩
                replace HM := HM.call hbw
                clear HF; intro a HF
                refine keepS (HM.picks [0, 1, 2, 3] (by decide) rfl) (fun HS => ?_)
                refine any_pures HF (fun _ => HS) (fun _ _ d _ _ h => by cases d <;> exact h) [22, 23, 24] #[true, true, true, true, true, true, true, true, true, true, true, true, true, true, true, true, true, true, true, true, true, true, true, true, true, false, false, false] [(95, .int .i64 ((b.ev cpu kd x0 x1).withErr vs : Int)), (94, .agg (((b.ev cpu kd x0 x1).withEv vs).cells)), (71, .tuple #[.agg (((b.ev cpu kd x0 x1).withEv vs).cells), .int .i64 ((b.ev cpu kd x0 x1).withErr vs : Int)])] (by kernel_rfl) ?_; clear HF; intro a HF
                refine any_all [25] (by kernel_rfl) rfl ?_
                refine all_cons ?_ all_nil
                refine any_op HF (i := 25) rfl rfl ?_
                refine e_alloc HF HM (cs := #[.int .i64 0, .int .i64 0, .int .u8 0, .int .u8 0, .int .i64 0, .int .i64 0, .int .i64 0, .int .i64 0, .int .i64 0, .int .u64 0, .int .i64 0]) rfl (by kernel_rfl) rfl (by decide) ?_
                clear HF HM; intro a w15 g15 HF HM
                refine keepS (HM.picks [1, 2, 3, 4] (by decide) rfl) (fun HS => ?_)
                refine any_all [26] (by kernel_rfl) rfl ?_
                refine all_cons ?_ all_nil
                refine any_op HF (i := 26) rfl rfl ?_
                refine e_storeAll HF HM (i := 0) (cs := #[.int .i64 0, .int .i64 0, .int .u8 0, .int .u8 0, .int .i64 0, .int .i64 0, .int .i64 0, .int .i64 0, .int .i64 0, .int .u64 0, .int .i64 0]) (ds := ((b.ev cpu kd x0 x1).withEv vs).cells) rfl rfl rfl rfl ⟨(by kernel_rfl), (by kernel_rfl)⟩ rfl rfl (ev_one ((b.ev cpu kd x0 x1).withEv vs)) rfl ?_
                clear HM; intro w18_26 HM
                refine noS (by kernel_rfl) ?_
                refine any_pures HF (pastS (by kernel_rfl)) (fun _ _ d _ _ h => by cases d <;> exact h) [27] #[true, true, true, true, true, true, true, true, true, true, true, true, true, true, true, true, true, true, true, true, true, true, true, true, true, true, true, true] [(16, .int .i64 ((b.ev cpu kd x0 x1).withErr vs : Int))] (by kernel_rfl) ?_; clear HF; intro a HF
                refine any_done (by kernel_rfl) ?_
                replace HF := HF.sub (σ' := [(16, .int .i64 ((b.ev cpu kd x0 x1).withErr vs : Int)), (15, .pointer (some ⟨g15, 0, none⟩)), (69, .bool false), (40, .bool false), (11, .slice (some ⟨gAk, 0, none⟩) ((x0 :: x1 :: vs).length) ck), (10, .int .i64 ((1 + u : Nat) : Int)), (30, .bool false), (24, .bool false), (20, .bool false), (9, .pointer (some ⟨g9, 0, none⟩)), (8, .int .i64 0), (7, .int .i64 0), (6, .pointer (some ⟨g6, 0, none⟩)), (3, .pointer (some ⟨g3, 0, none⟩)), (2, .slice (some ⟨gA, oA, none⟩) n c)]) (by kernel_rfl)
                exact ⟨g15, HF.sub (by kernel_rfl), HM.picks [0, 1, 2, 3, 4] (by decide) rfl⟩
              refine all_cons ?_ all_nil
              refine any_op HF (i := 25) rfl rfl ?_
              refine e_alloc HF HM (cs := #[.int .i64 0, .int .i64 0, .int .u8 0, .int .u8 0, .int .i64 0, .int .i64 0, .int .i64 0, .int .i64 0, .int .i64 0, .int .u64 0, .int .i64 0]) rfl (by kernel_rfl) rfl (by decide) ?_
              clear HF HM; intro a w15 g15 HF HM
              refine keepS (HM.picks [1, 2, 3, 4] (by decide) rfl) (fun HS => ?_)
              refine any_all [21] (by kernel_rfl) rfl ?_
              refine all_cons ?_ all_nil
              refine any_op HF (i := 21) rfl rfl ?_
              refine e_call HF (vs := [.agg ((b.ev cpu kd x0 x1).cells), .slice (if ck = 2 then some ⟨gAk, 0, none⟩ else (some ⟨gAk, 0, none⟩ : Option Addr).map (·.add (2 * 1))) (((x0 :: x1 :: vs).length) - 2) (ck - 2)]) rfl (by kernel_rfl) (by kernel_rfl) rfl (by decide) (rwith_any (b.ev cpu kd x0 x1) hev _ _ _ vs _ (by have h := (HM.rd (i := 1) rfl).from (k := 2) (by simp) hck; exact h) (fun y hy => hxs y (List.mem_cons_of_mem _ (List.mem_cons_of_mem _ hy)))) ?_
              rintro _ w93 ⟨rfl, hbw⟩
              refine ⟨_, rfl, ?_⟩
              replace HM := HM.call hbw
              clear HF; intro a HF
              refine keepS (HM.picks [1, 2, 3, 4] (by decide) rfl) (fun HS => ?_)
              refine any_pures HF (fun _ => HS) (fun _ _ d _ _ h => by cases d <;> exact h) [22, 23, 24] #[true, true, true, true, true, true, true, true, true, true, true, true, true, true, true, true, true, true, true, true, true, true, true, true, true, true, false, false] [(95, .int .i64 ((b.ev cpu kd x0 x1).withErr vs : Int)), (94, .agg (((b.ev cpu kd x0 x1).withEv vs).cells)), (71, .tuple #[.agg (((b.ev cpu kd x0 x1).withEv vs).cells), .int .i64 ((b.ev cpu kd x0 x1).withErr vs : Int)])] (by kernel_rfl) ?_; clear HF; intro a HF
              refine any_all [26] (by kernel_rfl) rfl ?_
              refine all_cons ?_ all_nil
              refine any_op HF (i := 26) rfl rfl ?_
              refine e_storeAll HF HM (i := 0) (cs := #[.int .i64 0, .int .i64 0, .int .u8 0, .int .u8 0, .int .i64 0, .int .i64 0, .int .i64 0, .int .i64 0, .int .i64 0, .int .u64 0, .int .i64 0]) (ds := ((b.ev cpu kd x0 x1).withEv vs).cells) rfl rfl rfl rfl ⟨(by kernel_rfl), (by kernel_rfl)⟩ rfl rfl (ev_one ((b.ev cpu kd x0 x1).withEv vs)) rfl ?_
              clear HM; intro w18_26 HM
              refine noS (by kernel_rfl) ?_
              refine any_pures HF (pastS (by kernel_rfl)) (fun _ _ d _ _ h => by cases d <;> exact h) [27] #[true, true, true, true, true, true, true, true, true, true, true, true, true, true, true, true, true, true, true, true, true, true, true, true, true, true, true, true] [(16, .int .i64 ((b.ev cpu kd x0 x1).withErr vs : Int))] (by kernel_rfl) ?_; clear HF; intro a HF
              refine any_done (by kernel_rfl) ?_
              replace HF := HF.sub (σ' := [(16, .int .i64 ((b.ev cpu kd x0 x1).withErr vs : Int)), (15, .pointer (some ⟨g15, 0, none⟩)), (69, .bool false), (40, .bool false), (11, .slice (some ⟨gAk, 0, none⟩) ((x0 :: x1 :: vs).length) ck), (10, .int .i64 ((1 + u : Nat) : Int)), (30, .bool false), (24, .bool false), (20, .bool false), (9, .pointer (some ⟨g9, 0, none⟩)), (8, .int .i64 0), (7, .int .i64 0), (6, .pointer (some ⟨g6, 0, none⟩)), (3, .pointer (some ⟨g3, 0, none⟩)), (2, .slice (some ⟨gA, oA, none⟩) n c)]) (by kernel_rfl)
              exact ⟨g15, HF.sub (by kernel_rfl), HM.picks [0, 1, 2, 3, 4] (by decide) rfl⟩
            clear HF HM; rintro a w18 ⟨g15, HF, HM⟩
            refine wp_seq ?_
            refine wp_seq ?_
            refine from_start ?_
            refine from_pures HF 2 0 (j := 2) [(97, .bool ((((b.ev cpu kd x0 x1).withErr vs : Int) : Int) != (0 : Int))), (96, .int .i64 ((b.ev cpu kd x0 x1).withErr vs : Int))] (by kernel_rfl) rfl ?_; clear HF; intro a HF
            refine from_done rfl ?_
            replace HF := HF.sub (σ' := [(97, .bool ((((b.ev cpu kd x0 x1).withErr vs : Int) : Int) != (0 : Int))), (15, .pointer (some ⟨g15, 0, none⟩)), (69, .bool false), (40, .bool false), (11, .slice Ak ((x0 :: x1 :: vs).length) ck), (10, .int .i64 ((1 + u : Nat) : Int)), (30, .bool false), (24, .bool false), (20, .bool false), (9, .pointer (some ⟨g9, 0, none⟩)), (8, .int .i64 0), (7, .int .i64 0), (6, .pointer (some ⟨g6, 0, none⟩)), (3, .pointer (some ⟨g3, 0, none⟩)), (2, .slice (some ⟨gA, oA, none⟩) n c)]) (by kernel_rfl)
            rcases Bool.eq_false_or_eq_true ((((b.ev cpu kd x0 x1).withErr vs : Int) : Int) != (0 : Int)) with hb97 | hb97
            · have HF := HF.as (t := 97) (u := .bool true) rfl (by rw [hb97])
              have hwe : (b.ev cpu kd x0 x1).withErr vs ≠ 0 := by rw [bne_iff_ne] at hb97; omega
              refine cond_true HF rfl ?_
              refine wp_seq ?_
              refine from_start ?_
              refine from_yl (S := fun wS => Mem w wS _) HF HM (i := 0) rfl rfl (d := 98) rfl (by decide) (v := .agg Ev.zero.cells) (Yl.loadS rfl rfl ⟨(by kernel_rfl), (by kernel_rfl)⟩ rfl (fun _ h => range_of_block (h.blk (i := 2) rfl))) ?_; clear HF; intro a HF
              refine from_op HF (i := 1) rfl rfl ?_
              refine e_storeAll HF HM (i := 3) (cs := #[.int .i64 0, .int .i64 0, .int .u8 0, .int .u8 0, .int .i64 0, .int .i64 0, .int .i64 0, .int .i64 0, .int .i64 0, .int .u64 0, .int .i64 0]) (ds := Ev.zero.cells) rfl rfl rfl rfl ⟨(by kernel_rfl), (by kernel_rfl)⟩ rfl rfl (ev_one Ev.zero) rfl ?_
              clear HM; intro w20_1 HM
              refine from_pures HF 2 2 (j := 4) [(8, .int .i64 61), (7, .int .i64 0)] (by kernel_rfl) rfl ?_; clear HF; intro a HF
              refine from_done rfl ?_
              replace HF := HF.sub (σ' := [(8, .int .i64 61), (7, .int .i64 0), (97, .bool true), (15, .pointer (some ⟨g15, 0, none⟩)), (69, .bool false), (40, .bool false), (11, .slice Ak ((x0 :: x1 :: vs).length) ck), (10, .int .i64 ((1 + u : Nat) : Int)), (30, .bool false), (24, .bool false), (20, .bool false), (9, .pointer (some ⟨g9, 0, none⟩)), (6, .pointer (some ⟨g6, 0, none⟩)), (3, .pointer (some ⟨g3, 0, none⟩)), (2, .slice (some ⟨gA, oA, none⟩) n c)]) (by kernel_rfl)
              refine wp_ret ?_
              exact ret3 rfl HF (.cellS (i := 3) HF HM rfl rfl ⟨(by kernel_rfl), (by kernel_rfl)⟩ rfl) (.tmp HF rfl) (.tmp HF rfl) (⟨by rw [show takeR b cpu _ = _ from (takeR_read hrt hku hj hge).trans (takeEv_bad hwe)]; rfl, HM.below⟩)
            · have HF := HF.as (t := 97) (u := .bool false) rfl (by rw [hb97])
              have hwe : (b.ev cpu kd x0 x1).withErr vs = 0 := by rw [bne_eq_false_iff_eq] at hb97; omega
              refine cond_false HF rfl ?_
              refine wp_skip ?_
              refine wp_seq ?_
              refine from_start ?_
              refine from_yl (S := fun wS => Mem w wS _) HF HM (i := 0) rfl rfl (d := 99) rfl (by decide) (v := .agg (((b.ev cpu kd x0 x1).withEv vs).cells)) (Yl.loadS rfl rfl ⟨(by kernel_rfl), (by kernel_rfl)⟩ rfl (fun _ h => range_of_block (h.blk (i := 0) rfl))) ?_; clear HF; intro a HF
              refine from_pures HF 1 1 (j := 2) [(100, .int .i64 ((1 + u : Nat) : Int))] (by kernel_rfl) rfl ?_; clear HF; intro a HF
              refine from_op HF (i := 2) rfl rfl ?_
              refine e_storeAll HF HM (i := 3) (cs := #[.int .i64 0, .int .i64 0, .int .u8 0, .int .u8 0, .int .i64 0, .int .i64 0, .int .i64 0, .int .i64 0, .int .i64 0, .int .u64 0, .int .i64 0]) (ds := ((b.ev cpu kd x0 x1).withEv vs).cells) rfl rfl rfl rfl ⟨(by kernel_rfl), (by kernel_rfl)⟩ rfl rfl (ev_one ((b.ev cpu kd x0 x1).withEv vs)) rfl ?_
              clear HM; intro w21_2 HM
              refine from_pures HF 2 3 (j := 5) [(8, .int .i64 0), (7, .int .i64 ((1 + u : Nat) : Int))] (by kernel_rfl) rfl ?_; clear HF; intro a HF
              refine from_done rfl ?_
              replace HF := HF.sub (σ' := [(8, .int .i64 0), (7, .int .i64 ((1 + u : Nat) : Int)), (97, .bool false), (15, .pointer (some ⟨g15, 0, none⟩)), (69, .bool false), (40, .bool false), (11, .slice Ak ((x0 :: x1 :: vs).length) ck), (10, .int .i64 ((1 + u : Nat) : Int)), (30, .bool false), (24, .bool false), (20, .bool false), (9, .pointer (some ⟨g9, 0, none⟩)), (6, .pointer (some ⟨g6, 0, none⟩)), (3, .pointer (some ⟨g3, 0, none⟩)), (2, .slice (some ⟨gA, oA, none⟩) n c)]) (by kernel_rfl)
              refine wp_ret ?_
              exact ret3 rfl HF (.cellS (i := 3) HF HM rfl rfl ⟨(by kernel_rfl), (by kernel_rfl)⟩ rfl) (.tmp HF rfl) (.tmp HF rfl) (⟨by rw [show takeR b cpu _ = _ from (takeR_read hrt hku hj hge).trans (takeEv_good hwe)]; rfl, HM.below⟩)
end Go.Proofs.YtpekelggcmgnnaaDoor

/- quantumref07.Read is what codec.Read is. -/
set_option linter.all false
namespace Go.Proofs.YtpekelggcmgnnaaDoor
open Go.RowKit
theorem take07_is (b : Bs) (cpu : Nat) (hcpu : cpu < 256) (A : Option Addr) (n c : Nat) (l : List Nat) (w : World) (hr : Rd w w.heap.size 1 A n (l.map B8)) (hc : n ≤ c) (hl : ∀ b ∈ l, b < 256) (hn : n ≤ 140737488355328) (hln : l.length = n) {e : Ev} {L er : Nat} (h : takeR b cpu l = (e, L, er)) :
    Calls Tryd.prog 47 #[.agg b.cells, .int .u8 (cpu : Int), .slice A n c] w fun r w' => r = .returned (.tuple #[.agg e.cells, .int .i64 (L : Int), .int .i64 (er : Int)]) ∧ Below w.heap.size w w' :=
  (take07_any b cpu hcpu A n c l w hr hc hl hn hln).mono fun _ _ p => ⟨by rw [p.ret, h], p.below⟩
set_option maxRecDepth 100000 in
set_option maxHeartbeats 4000000 in
theorem read07_any (b : Bs) (cpu : Nat) (hcpu : cpu < 256) (m : Int) (hm : I64 m) (A : Option Addr) (n c : Nat) (l : List Nat) (w : World) (hr : Rd w w.heap.size 1 A n (l.map B8)) (hc : n ≤ c) (hl : ∀ b ∈ l, b < 256) (hn : n ≤ 1000000000) (hln : l.length = n) :
    Calls Tryd.prog 30 #[.agg b.cells, .int .u8 (cpu : Int), .int .i64 m, .slice A n c] w (EvsIs 64 w (readR b cpu m l)) := by
  refine calls_enter (vs := [.agg b.cells, .int .u8 (cpu : Int), .int .i64 m, .slice A n c]) Tryd.func30 rfl rfl (by kernel_rfl) (σ0 := [(0, .agg b.cells), (1, .int .u8 (cpu : Int)), (2, .int .i64 m), (3, .slice A n c)]) rfl ?_
  intro a HF
  have HM := Mem.start w
  refine wp_seq ?_
  refine from_start ?_
  refine from_op HF (i := 0) rfl rfl ?_
  refine e_box HF HM (cs := b.cells) rfl rfl rfl rfl (by decide) ?_
  clear HF HM; intro a w4 g4 HF HM
  refine from_pures HF 3 1 (j := 4) [(10, .int .i64 0), (9, .int .i64 0), (8, .slice none 0 0)] (by kernel_rfl) rfl ?_; clear HF; intro a HF
  refine from_done rfl ?_
  replace HF := HF.sub (σ' := [(10, .int .i64 0), (9, .int .i64 0), (8, .slice none 0 0), (4, .pointer (some ⟨g4, 0, none⟩)), (1, .int .u8 (cpu : Int)), (2, .int .i64 m), (3, .slice A n c)]) (by kernel_rfl)
  refine wp_seq ?_
  refine wp_seq ?_
  refine from_start ?_
  refine from_pures HF 2 0 (j := 2) [(17, .bool (decide ((m : Int) < (0 : Int)))), (16, .int .i64 m)] (by kernel_rfl) rfl ?_; clear HF; intro a HF
  refine from_done rfl ?_
  replace HF := HF.sub (σ' := [(17, .bool (decide ((m : Int) < (0 : Int)))), (10, .int .i64 0), (9, .int .i64 0), (8, .slice none 0 0), (4, .pointer (some ⟨g4, 0, none⟩)), (1, .int .u8 (cpu : Int)), (2, .int .i64 m), (3, .slice A n c)]) (by kernel_rfl)
  rcases Bool.eq_false_or_eq_true (decide ((m : Int) < (0 : Int))) with hb17 | hb17
  · have HF := HF.as (t := 17) (u := .bool true) rfl (by rw [hb17])
    have hm0 : m < 0 := by simpa using hb17
    refine cond_true HF rfl ?_
    refine wp_seq ?_
    refine from_start ?_
    refine from_pures HF 3 0 (j := 3) [(10, .int .i64 2), (9, .int .i64 0), (8, .slice none 0 0)] (by kernel_rfl) rfl ?_; clear HF; intro a HF
    refine from_done rfl ?_
    replace HF := HF.sub (σ' := [(10, .int .i64 2), (9, .int .i64 0), (8, .slice none 0 0), (17, .bool true), (4, .pointer (some ⟨g4, 0, none⟩)), (1, .int .u8 (cpu : Int)), (2, .int .i64 m), (3, .slice A n c)]) (by kernel_rfl)
    refine wp_ret ?_
    exact ret3 rfl HF (.tmp HF rfl) (.tmp HF rfl) (.tmp HF rfl) (evsIs_none (er := 2) (by unfold readR; rw [if_pos hm0]) HM.below)
  · have HF := HF.as (t := 17) (u := .bool false) rfl (by rw [hb17])
    have hm0 : ¬ m < 0 := by simpa using hb17
    refine cond_false HF rfl ?_
    refine wp_skip ?_
    refine wp_seq ?_
    refine wp_seq ?_
    refine from_start ?_
    refine from_yl (S := fun wS => Mem w wS _) HF HM (i := 0) rfl rfl (d := 18) rfl (by decide) (v := .agg b.cells) (Yl.loadS rfl rfl ⟨(by kernel_rfl), (by kernel_rfl)⟩ rfl (fun _ h => range_of_block (h.blk (i := 0) rfl))) ?_; clear HF; intro a HF
    refine from_op HF (i := 1) rfl rfl ?_
    refine e_call HF (vs := [.agg b.cells]) rfl (by kernel_rfl) (by kernel_rfl) rfl (by decide) (right07_any b _) ?_
    rintro _ w19 ⟨rfl, hbw⟩
    refine ⟨_, rfl, ?_⟩
    replace HM := HM.call hbw
    clear HF; intro a HF
    refine from_pures HF 1 2 (j := 3) [(20, .bool (!b.right))] (by kernel_rfl) rfl ?_; clear HF; intro a HF
    refine from_done rfl ?_
    replace HF := HF.sub (σ' := [(20, .bool (!b.right)), (17, .bool false), (10, .int .i64 0), (9, .int .i64 0), (8, .slice none 0 0), (4, .pointer (some ⟨g4, 0, none⟩)), (1, .int .u8 (cpu : Int)), (2, .int .i64 m), (3, .slice A n c)]) (by kernel_rfl)
    rcases Bool.eq_false_or_eq_true (!b.right) with hb20 | hb20
    · have HF := HF.as (t := 20) (u := .bool true) rfl (by rw [hb20])
      have hrf : b.right = false := by simpa using hb20
      refine cond_true HF rfl ?_
      refine wp_seq ?_
      refine from_start ?_
      refine from_pures HF 3 0 (j := 3) [(10, .int .i64 70), (9, .int .i64 0), (8, .slice none 0 0)] (by kernel_rfl) rfl ?_; clear HF; intro a HF
      refine from_done rfl ?_
      replace HF := HF.sub (σ' := [(10, .int .i64 70), (9, .int .i64 0), (8, .slice none 0 0), (20, .bool true), (17, .bool false), (4, .pointer (some ⟨g4, 0, none⟩)), (1, .int .u8 (cpu : Int)), (2, .int .i64 m), (3, .slice A n c)]) (by kernel_rfl)
      refine wp_ret ?_
      exact ret3 rfl HF (.tmp HF rfl) (.tmp HF rfl) (.tmp HF rfl) (evsIs_none (er := 70) (by unfold readR; rw [if_neg hm0, if_pos hrf]) HM.below)
    · have HF := HF.as (t := 20) (u := .bool false) rfl (by rw [hb20])
      have hrt : b.right = true := by simpa using hb20
      refine cond_false HF rfl ?_
      refine wp_skip ?_
      refine wp_seq ?_
      refine from_start ?_
      refine from_pures HF 1 0 (j := 1) [(11, .slice none 0 0)] (by kernel_rfl) rfl ?_; clear HF; intro a HF
      refine from_done rfl ?_
      replace HF := HF.sub (σ' := [(11, .slice none 0 0), (20, .bool false), (17, .bool false), (10, .int .i64 0), (9, .int .i64 0), (8, .slice none 0 0), (4, .pointer (some ⟨g4, 0, none⟩)), (1, .int .u8 (cpu : Int)), (2, .int .i64 m), (3, .slice A n c)]) (by kernel_rfl)
      replace HM := HM.nil 64 11
      refine wp_seq ?_
      refine from_start ?_
      refine from_pures HF 1 0 (j := 1) [(12, .int .i64 0)] (by kernel_rfl) rfl ?_; clear HF; intro a HF
      refine from_done rfl ?_
      refine wp_seq ?_
      refine wp_block ?_
      refine loop_nat (fun mS aS wS => ∃ (es : List Ev) (u : Nat) (bk : Bs) (Ak : Option Addr) (ck : Nat), (ReadJn b cpu m.toNat l es u bk) ∧ (es.length ≤ ck) ∧ mS = m.toNat - es.length ∧ Fr aS 62 [] [(12, .int .i64 (u : Int)), (11, .slice Ak es.length ck), (20, .bool false), (17, .bool false), (10, .int .i64 0), (9, .int .i64 0), (8, .slice none 0 0), (4, .pointer (some ⟨g4, 0, none⟩)), (1, .int .u8 (cpu : Int)), (2, .int .i64 m), (3, .slice A n c)] ∧ Mem w wS [.row (.slice Ak es.length ck) es.length (es.flatMap evL) 64 11, .blk g4 bk.cells 63]) (m := m.toNat - [].length) ⟨[], 0, b, none, 0, ReadJn.start _ _ _ _, Nat.le_refl _, rfl, HF.sub (by kernel_rfl), HM.picks [0, 1] (by decide) rfl⟩ ?_
      clear HF HM; rintro mS a w_ ⟨es, u, bk, Ak, ck, hat, hck, rfl, HF, HM⟩
      refine wp_seq ?_
      refine wp_seq ?_
      refine from_start ?_
      refine from_pures HF 1 0 (j := 1) [(21, .slice Ak es.length ck)] (by kernel_rfl) rfl ?_; clear HF; intro a HF
      refine from_yl (S := fun wS => Mem w wS _) HF HM (i := 1) rfl rfl (d := 22) rfl (by decide) (v := .int .i64 ((es.length : Nat) : Int)) (Yl.len rfl rfl (by kernel_rfl)) ?_; clear HF; intro a HF
      refine from_pures HF 2 2 (j := 4) [(24, .bool (decide ((((es.length : Nat) : Int) : Int) < (m : Int)))), (23, .int .i64 m)] (by kernel_rfl) rfl ?_; clear HF; intro a HF
      refine from_done rfl ?_
      replace HF := HF.sub (σ' := [(24, .bool (decide ((((es.length : Nat) : Int) : Int) < (m : Int)))), (12, .int .i64 (u : Int)), (11, .slice Ak es.length ck), (20, .bool false), (17, .bool false), (10, .int .i64 0), (9, .int .i64 0), (8, .slice none 0 0), (4, .pointer (some ⟨g4, 0, none⟩)), (1, .int .u8 (cpu : Int)), (2, .int .i64 m), (3, .slice A n c)]) (by kernel_rfl)
      rcases Bool.eq_false_or_eq_true (decide ((((es.length : Nat) : Int) : Int) < (m : Int))) with hb24 | hb24
      · have HF := HF.as (t := 24) (u := .bool true) rfl (by rw [hb24])
        have hlt : es.length < m.toNat := by simp at hb24; omega
        have hu := hat.fits
        rw [hln] at hu
        have hmo := hat.most
        obtain ⟨e, L, er, hq⟩ : ∃ e L er, takeR bk cpu (l.drop u) = (e, L, er) := ⟨_, _, _, rfl⟩
        have htl := (takeR_len bk cpu (l.drop u)).1
        rw [hq, List.length_drop, hln] at htl
        simp only at htl
        refine cond_true HF rfl ?_
        refine wp_skip ?_
        refine wp_block ?_
        refine cut_seq (fun aS wS => ∃ (g13 : Nat), Fr aS 62 [] [(15, .int .i64 (er : Int)), (14, .int .i64 (L : Int)), (13, .pointer (some ⟨g13, 0, none⟩)), (24, .bool true), (12, .int .i64 (u : Int)), (11, .slice Ak es.length ck), (20, .bool false), (17, .bool false), (10, .int .i64 0), (9, .int .i64 0), (8, .slice none 0 0), (4, .pointer (some ⟨g4, 0, none⟩)), (1, .int .u8 (cpu : Int)), (2, .int .i64 m), (3, .slice A n c)] ∧ Mem w wS [.blk g13 e.cells 64, .row (.slice Ak es.length ck) es.length (es.flatMap evL) 64 11, .blk g4 bk.cells 63]) ?_ ?_
        ·
          refine any_start (by kernel_rfl) (fun wS => Mem w wS [.row (.slice Ak es.length ck) es.length (es.flatMap evL) 64 11, .blk g4 bk.cells 63]) [11] ?_
          replace HM := HM.drew
          have HS := HM.picks (fs' := [.row (.slice Ak es.length ck) es.length (es.flatMap evL) 64 11, .blk g4 bk.cells 63]) [0, 1] (by decide) rfl
          refine any_pures HF (fun _ => HS) (fun _ _ d _ _ h => by cases d <;> exact h) [1, 2, 3] #[false, true, true, true, false, false, false, false, false, false, false, false, false, false] [(29, .int .i64 (u : Int)), (28, .slice A n c), (27, .int .u8 (cpu : Int))] (by kernel_rfl) ?_; clear HF; intro a HF
          refine any_yl HF HS (i := 0) rfl rfl (d := 26) rfl (by decide) (by kernel_rfl) (fun _ _ _ h => h) (v := .agg bk.cells) (Yl.loadS rfl rfl ⟨(by kernel_rfl), (by kernel_rfl)⟩ rfl (fun _ h => range_of_block (h.blk (i := 1) rfl))) ?_; clear HF; intro a HF
          refine any_yl HF HS (i := 4) rfl rfl (d := 30) rfl (by decide) (by kernel_rfl) (fun _ _ _ h => h) (v := .slice (if c = u then A else A.map (·.add (u * 1))) (n - u) (c - u)) (Yl.sliceFrom ei_u8 (j := u) rfl rfl rfl (hu)) ?_; clear HF; intro a HF
          refine any_all [5, 10] (by kernel_rfl) rfl ?_
          refine all_cons ?_ ?_
          · refine any_op HF (i := 5) rfl rfl ?_
            refine e_call HF (vs := [.agg bk.cells, .int .u8 (cpu : Int), .slice (if c = u then A else A.map (·.add (u * 1))) (n - u) (c - u)]) rfl (by kernel_rfl) (by kernel_rfl) rfl (by decide) (take07_is bk cpu hcpu _ (n - u) (c - u) (l.drop u) _ (Rd.fromB8 (HM.old hr) (k := u) hu hc) (by omega) (fun y hy => hl y (List.mem_of_mem_drop hy)) (by omega) (by rw [List.length_drop]; omega) hq) ?_
            rintro _ w31 ⟨rfl, hbw⟩
            refine ⟨_, rfl, ?_⟩
            replace HM := HM.call hbw
            clear HF; intro a HF
            refine keepS (HM.picks [0, 1] (by decide) rfl) (fun HS => ?_)
            refine any_pures HF (fun _ => HS) (fun _ _ d _ _ h => by cases d <;> exact h) [6, 7, 8, 9] #[true, true, true, true, true, true, true, true, true, true, false, false, false, false] [(34, .int .i64 (er : Int)), (33, .int .i64 (L : Int)), (32, .agg e.cells), (25, .tuple #[.agg e.cells, .int .i64 (L : Int), .int .i64 (er : Int)])] (by kernel_rfl) ?_; clear HF; intro a HF
            refine any_all [10] (by kernel_rfl) rfl ?_
            refine all_cons ?_ all_nil
            refine any_op HF (i := 10) rfl rfl ?_
            refine e_alloc HF HM (cs := #[.int .i64 0, .int .i64 0, .int .u8 0, .int .u8 0, .int .i64 0, .int .i64 0, .int .i64 0, .int .i64 0, .int .i64 0, .int .u64 0, .int .i64 0]) rfl (by kernel_rfl) rfl (by decide) ?_
            clear HF HM; intro a w13 g13 HF HM
            refine keepS (HM.picks [1, 2] (by decide) rfl) (fun HS => ?_)
            refine any_all [11] (by kernel_rfl) rfl ?_
            refine all_cons ?_ all_nil
            refine any_op HF (i := 11) rfl rfl ?_
            refine e_storeAll HF HM (i := 0) (cs := #[.int .i64 0, .int .i64 0, .int .u8 0, .int .u8 0, .int .i64 0, .int .i64 0, .int .i64 0, .int .i64 0, .int .i64 0, .int .u64 0, .int .i64 0]) (ds := e.cells) rfl rfl rfl rfl ⟨(by kernel_rfl), (by kernel_rfl)⟩ rfl rfl (ev_one e) rfl ?_
            clear HM; intro w8_11 HM
            refine noS (by kernel_rfl) ?_
            refine any_pures HF (pastS (by kernel_rfl)) (fun _ _ d _ _ h => by cases d <;> exact h) [12, 13] #[true, true, true, true, true, true, true, true, true, true, true, true, true, true] [(15, .int .i64 (er : Int)), (14, .int .i64 (L : Int))] (by kernel_rfl) ?_; clear HF; intro a HF
            refine any_done (by kernel_rfl) ?_
            replace HF := HF.sub (σ' := [(15, .int .i64 (er : Int)), (14, .int .i64 (L : Int)), (13, .pointer (some ⟨g13, 0, none⟩)), (24, .bool true), (12, .int .i64 (u : Int)), (11, .slice Ak es.length ck), (20, .bool false), (17, .bool false), (10, .int .i64 0), (9, .int .i64 0), (8, .slice none 0 0), (4, .pointer (some ⟨g4, 0, none⟩)), (1, .int .u8 (cpu : Int)), (2, .int .i64 m), (3, .slice A n c)]) (by kernel_rfl)
            exact ⟨g13, HF.sub (by kernel_rfl), HM.picks [0, 1, 2] (by decide) rfl⟩
          refine all_cons ?_ all_nil
          refine any_op HF (i := 10) rfl rfl ?_
          refine e_alloc HF HM (cs := #[.int .i64 0, .int .i64 0, .int .u8 0, .int .u8 0, .int .i64 0, .int .i64 0, .int .i64 0, .int .i64 0, .int .i64 0, .int .u64 0, .int .i64 0]) rfl (by kernel_rfl) rfl (by decide) ?_
          clear HF HM; intro a w13 g13 HF HM
          refine keepS (HM.picks [1, 2] (by decide) rfl) (fun HS => ?_)
          refine any_all [5] (by kernel_rfl) rfl ?_
          refine all_cons ?_ all_nil
          refine any_op HF (i := 5) rfl rfl ?_
          refine e_call HF (vs := [.agg bk.cells, .int .u8 (cpu : Int), .slice (if c = u then A else A.map (·.add (u * 1))) (n - u) (c - u)]) rfl (by kernel_rfl) (by kernel_rfl) rfl (by decide) (take07_is bk cpu hcpu _ (n - u) (c - u) (l.drop u) _ (Rd.fromB8 (HM.old hr) (k := u) hu hc) (by omega) (fun y hy => hl y (List.mem_of_mem_drop hy)) (by omega) (by rw [List.length_drop]; omega) hq) ?_
          rintro _ w31 ⟨rfl, hbw⟩
          refine ⟨_, rfl, ?_⟩
          replace HM := HM.call hbw
          clear HF; intro a HF
          refine keepS (HM.picks [1, 2] (by decide) rfl) (fun HS => ?_)
          refine any_pures HF (fun _ => HS) (fun _ _ d _ _ h => by cases d <;> exact h) [6, 7, 8, 9] #[true, true, true, true, true, true, true, true, true, true, true, false, false, false] [(34, .int .i64 (er : Int)), (33, .int .i64 (L : Int)), (32, .agg e.cells), (25, .tuple #[.agg e.cells, .int .i64 (L : Int), .int .i64 (er : Int)])] (by kernel_rfl) ?_; clear HF; intro a HF
          refine any_all [11] (by kernel_rfl) rfl ?_
          refine all_cons ?_ all_nil
          refine any_op HF (i := 11) rfl rfl ?_
          refine e_storeAll HF HM (i := 0) (cs := #[.int .i64 0, .int .i64 0, .int .u8 0, .int .u8 0, .int .i64 0, .int .i64 0, .int .i64 0, .int .i64 0, .int .i64 0, .int .u64 0, .int .i64 0]) (ds := e.cells) rfl rfl rfl rfl ⟨(by kernel_rfl), (by kernel_rfl)⟩ rfl rfl (ev_one e) rfl ?_
          clear HM; intro w8_11 HM
          refine noS (by kernel_rfl) ?_
          refine any_pures HF (pastS (by kernel_rfl)) (fun _ _ d _ _ h => by cases d <;> exact h) [12, 13] #[true, true, true, true, true, true, true, true, true, true, true, true, true, true] [(15, .int .i64 (er : Int)), (14, .int .i64 (L : Int))] (by kernel_rfl) ?_; clear HF; intro a HF
          refine any_done (by kernel_rfl) ?_
          replace HF := HF.sub (σ' := [(15, .int .i64 (er : Int)), (14, .int .i64 (L : Int)), (13, .pointer (some ⟨g13, 0, none⟩)), (24, .bool true), (12, .int .i64 (u : Int)), (11, .slice Ak es.length ck), (20, .bool false), (17, .bool false), (10, .int .i64 0), (9, .int .i64 0), (8, .slice none 0 0), (4, .pointer (some ⟨g4, 0, none⟩)), (1, .int .u8 (cpu : Int)), (2, .int .i64 m), (3, .slice A n c)]) (by kernel_rfl)
          exact ⟨g13, HF.sub (by kernel_rfl), HM.picks [0, 1, 2] (by decide) rfl⟩
        clear HF HM; rintro a w8 ⟨g13, HF, HM⟩
        refine wp_seq ?_
        refine wp_seq ?_
        refine from_start ?_
        refine from_pures HF 2 0 (j := 2) [(36, .bool (((er : Int) : Int) != (0 : Int))), (35, .int .i64 (er : Int))] (by kernel_rfl) rfl ?_; clear HF; intro a HF
        refine from_done rfl ?_
        replace HF := HF.sub (σ' := [(36, .bool (((er : Int) : Int) != (0 : Int))), (15, .int .i64 (er : Int)), (14, .int .i64 (L : Int)), (13, .pointer (some ⟨g13, 0, none⟩)), (24, .bool true), (12, .int .i64 (u : Int)), (11, .slice Ak es.length ck), (20, .bool false), (17, .bool false), (10, .int .i64 0), (9, .int .i64 0), (8, .slice none 0 0), (4, .pointer (some ⟨g4, 0, none⟩)), (1, .int .u8 (cpu : Int)), (2, .int .i64 m), (3, .slice A n c)]) (by kernel_rfl)
        rcases Bool.eq_false_or_eq_true (((er : Int) : Int) != (0 : Int)) with hb36 | hb36
        · have HF := HF.as (t := 36) (u := .bool true) rfl (by rw [hb36])
          have her : er ≠ 0 := by rw [bne_iff_ne] at hb36; omega
          refine cond_true HF rfl ?_
          refine wp_seq ?_
          refine from_start ?_
          refine from_pures HF 4 0 (j := 4) [(10, .int .i64 (er : Int)), (9, .int .i64 0), (8, .slice none 0 0), (37, .int .i64 (er : Int))] (by kernel_rfl) rfl ?_; clear HF; intro a HF
          refine from_done rfl ?_
          replace HF := HF.sub (σ' := [(10, .int .i64 (er : Int)), (9, .int .i64 0), (8, .slice none 0 0), (36, .bool true), (15, .int .i64 (er : Int)), (14, .int .i64 (L : Int)), (13, .pointer (some ⟨g13, 0, none⟩)), (24, .bool true), (12, .int .i64 (u : Int)), (11, .slice Ak es.length ck), (20, .bool false), (17, .bool false), (4, .pointer (some ⟨g4, 0, none⟩)), (1, .int .u8 (cpu : Int)), (2, .int .i64 m), (3, .slice A n c)]) (by kernel_rfl)
          refine wp_ret ?_
          exact ret3 rfl HF (.tmp HF rfl) (.tmp HF rfl) (.tmp HF rfl) (evsIs_none (er := er) ((readR_go hm0 hrt).trans (hat.bad hlt hq her)) HM.below)
        · have HF := HF.as (t := 36) (u := .bool false) rfl (by rw [hb36])
          have her0 : er = 0 := by rw [bne_eq_false_iff_eq] at hb36; omega
          have hq0 : takeR bk cpu (l.drop u) = (e, L, 0) := by rw [hq, her0]
          refine cond_false HF rfl ?_
          refine wp_skip ?_
          refine wp_seq ?_
          refine cut_seq (fun aS wS => Fr aS 62 [] [(47, .bool (es.getLast?.any (fun q => decide (e.seq = q.seq)))), (36, .bool false), (15, .int .i64 (er : Int)), (14, .int .i64 (L : Int)), (13, .pointer (some ⟨g13, 0, none⟩)), (24, .bool true), (12, .int .i64 (u : Int)), (11, .slice Ak es.length ck), (20, .bool false), (17, .bool false), (10, .int .i64 0), (9, .int .i64 0), (8, .slice none 0 0), (4, .pointer (some ⟨g4, 0, none⟩)), (1, .int .u8 (cpu : Int)), (2, .int .i64 m), (3, .slice A n c)] ∧ Mem w wS [.blk g13 e.cells 64, .row (.slice Ak es.length ck) es.length (es.flatMap evL) 64 11, .blk g4 bk.cells 63]) ?_ ?_
          ·
            refine from_start ?_
            refine from_pures HF 1 0 (j := 1) [(38, .slice Ak es.length ck)] (by kernel_rfl) rfl ?_; clear HF; intro a HF
            refine from_yl (S := fun wS => Mem w wS _) HF HM (i := 1) rfl rfl (d := 39) rfl (by decide) (v := .int .i64 ((es.length : Nat) : Int)) (Yl.len rfl rfl (by kernel_rfl)) ?_; clear HF; intro a HF
            refine from_pures HF 2 2 (j := 4) [(41, .bool (decide ((((es.length : Nat) : Int) : Int) > (0 : Int)))), (40, .bool (decide ((((es.length : Nat) : Int) : Int) > (0 : Int))))] (by kernel_rfl) rfl ?_; clear HF; intro a HF
            rcases Bool.eq_false_or_eq_true (decide ((((es.length : Nat) : Int) : Int) > (0 : Int))) with hb41 | hb41
            · have HF := HF.as (t := 41) (u := .bool true) rfl (by rw [hb41])
              obtain ⟨q, hls⟩ : ∃ q, es.getLast? = some q := by cases es with
                | nil => simp at hb41
                | cons a r => exact ⟨_, List.getLast?_cons⟩
              have hbq := hat.last q hls
              refine from_pures HF 1 4 (j := 5) [(42, .pointer (some ⟨g13, 0, none⟩))] (by kernel_rfl) rfl ?_; clear HF; intro a HF
              refine from_yl (S := fun wS => Mem w wS _) HF HM (i := 5) rfl rfl (d := 43) rfl (by decide) (v := .int .i64 e.seq) (Yl.load1 rfl rfl (by kernel_rfl) (fun _ h => h.cell (i := 0) rfl rfl)) ?_; clear HF; intro a HF
              refine from_pures HF 1 6 (j := 7) [(44, .pointer (some ⟨g4, 0, none⟩))] (by kernel_rfl) rfl ?_; clear HF; intro a HF
              refine from_yl (S := fun wS => Mem w wS _) HF HM (i := 7) rfl rfl (d := 45) rfl (by decide) (v := .int .i64 bk.seq) (Yl.load1 rfl rfl (by kernel_rfl) (fun _ h => h.cell (i := 2) rfl rfl)) ?_; clear HF; intro a HF
              refine from_pures HF 2 8 (j := 10) [(47, .bool ((e.seq : Int) == (bk.seq : Int))), (46, .bool ((e.seq : Int) == (bk.seq : Int)))] (by kernel_rfl) rfl ?_; clear HF; intro a HF
              refine from_done rfl ?_
              replace HF := HF.sub (σ' := [(47, .bool ((e.seq : Int) == (bk.seq : Int))), (36, .bool false), (15, .int .i64 (er : Int)), (14, .int .i64 (L : Int)), (13, .pointer (some ⟨g13, 0, none⟩)), (24, .bool true), (12, .int .i64 (u : Int)), (11, .slice Ak es.length ck), (20, .bool false), (17, .bool false), (10, .int .i64 0), (9, .int .i64 0), (8, .slice none 0 0), (4, .pointer (some ⟨g4, 0, none⟩)), (1, .int .u8 (cpu : Int)), (2, .int .i64 m), (3, .slice A n c)]) (by kernel_rfl)
              have HF := HF.as (t := 47) (u := .bool (es.getLast?.any (fun q => decide (e.seq = q.seq)))) rfl (congrArg Value.bool (by rw [hls]; rw [hbq]; rw [Bool.eq_iff_iff]; simp [Ev.at]))
              exact ⟨HF.sub (by kernel_rfl), HM.picks [0, 1, 2] (by decide) rfl⟩
            · have HF := HF.as (t := 41) (u := .bool false) rfl (by rw [hb41])
              have hls : es.getLast? = none := by rw [List.length_eq_zero_iff.1 (show es.length = 0 by have := of_decide_eq_false hb41; omega)]; rfl
              refine from_pures HF 6 4 (j := 10) [(47, .bool false), (46, undef), (45, undef), (44, undef), (43, undef), (42, undef)] (by kernel_rfl) rfl ?_; clear HF; intro a HF
              refine from_done rfl ?_
              replace HF := HF.sub (σ' := [(47, .bool false), (36, .bool false), (15, .int .i64 (er : Int)), (14, .int .i64 (L : Int)), (13, .pointer (some ⟨g13, 0, none⟩)), (24, .bool true), (12, .int .i64 (u : Int)), (11, .slice Ak es.length ck), (20, .bool false), (17, .bool false), (10, .int .i64 0), (9, .int .i64 0), (8, .slice none 0 0), (4, .pointer (some ⟨g4, 0, none⟩)), (1, .int .u8 (cpu : Int)), (2, .int .i64 m), (3, .slice A n c)]) (by kernel_rfl)
              have HF := HF.as (t := 47) (u := .bool (es.getLast?.any (fun q => decide (e.seq = q.seq)))) rfl (congrArg Value.bool (by rw [hls]; rfl))
              exact ⟨HF.sub (by kernel_rfl), HM.picks [0, 1, 2] (by decide) rfl⟩
          clear HF HM; rintro a w11 ⟨HF, HM⟩
          rcases Bool.eq_false_or_eq_true (es.getLast?.any (fun q => decide (e.seq = q.seq))) with hb47 | hb47
          · have HF := HF.as (t := 47) (u := .bool true) rfl (by rw [hb47])
            refine cond_true HF rfl ?_
            refine wp_seq ?_
            refine from_start ?_
            refine from_pures HF 3 0 (j := 3) [(10, .int .i64 71), (9, .int .i64 0), (8, .slice none 0 0)] (by kernel_rfl) rfl ?_; clear HF; intro a HF
            refine from_done rfl ?_
            replace HF := HF.sub (σ' := [(10, .int .i64 71), (9, .int .i64 0), (8, .slice none 0 0), (47, .bool true), (36, .bool false), (15, .int .i64 (er : Int)), (14, .int .i64 (L : Int)), (13, .pointer (some ⟨g13, 0, none⟩)), (24, .bool true), (12, .int .i64 (u : Int)), (11, .slice Ak es.length ck), (20, .bool false), (17, .bool false), (4, .pointer (some ⟨g4, 0, none⟩)), (1, .int .u8 (cpu : Int)), (2, .int .i64 m), (3, .slice A n c)]) (by kernel_rfl)
            refine wp_ret ?_
            exact ret3 rfl HF (.tmp HF rfl) (.tmp HF rfl) (.tmp HF rfl) (evsIs_none (er := 71) ((readR_go hm0 hrt).trans (hat.same hlt hq0 hb47)) HM.below)
          · have HF := HF.as (t := 47) (u := .bool false) rfl (by rw [hb47])
            have hnx := hat.next hlt hq0 hb47
            refine cond_false HF rfl ?_
            refine wp_skip ?_
            refine wp_seq ?_
            refine from_start ?_
            refine from_pures HF 1 0 (j := 1) [(48, .slice Ak es.length ck)] (by kernel_rfl) rfl ?_; clear HF; intro a HF
            refine from_yl (S := fun wS => Mem w wS _) HF HM (i := 1) rfl rfl (d := 49) rfl (by decide) (v := .agg e.cells) (Yl.loadS rfl rfl ⟨(by kernel_rfl), (by kernel_rfl)⟩ rfl (fun _ h => range_of_block (h.blk (i := 0) rfl))) ?_; clear HF; intro a HF
            refine from_op HF (i := 2) rfl rfl ?_
            refine e_slice HF HM (vs := [(0, .agg e.cells)]) (cs := e.cells) rfl ei_rev (by decide) rfl (by kernel_rfl) rfl (by decide) ?_
            clear HF HM; intro a w50 g50 HF HM
            refine from_op HF (i := 3) rfl rfl ?_
            refine e_append HF HM (i := 2) rfl ei_rev rfl rfl rfl (news := (evL e)) (HM.rdBlk (i := 0) (n := 1) (size := 11) rfl rfl) (ev_one e) (by omega) (by omega) rfl (by decide) ?_
            clear HF HM; intro a w51 A51 c51 HF HM hc51
            refine from_pures HF 1 4 (j := 5) [(11, .slice A51 (es.length + 1) c51)] (by kernel_rfl) rfl ?_; clear HF; intro a HF
            refine from_done rfl ?_
            replace HF := HF.sub (σ' := [(11, .slice A51 (es.length + 1) c51), (47, .bool false), (36, .bool false), (15, .int .i64 (er : Int)), (14, .int .i64 (L : Int)), (13, .pointer (some ⟨g13, 0, none⟩)), (24, .bool true), (12, .int .i64 (u : Int)), (20, .bool false), (17, .bool false), (10, .int .i64 0), (9, .int .i64 0), (8, .slice none 0 0), (4, .pointer (some ⟨g4, 0, none⟩)), (1, .int .u8 (cpu : Int)), (2, .int .i64 m), (3, .slice A n c)]) (by kernel_rfl)
            replace HM := HM.picks (fs' := [.blk g13 e.cells 64, .row (.slice A51 (es.length + 1) c51) (es.length + 1) ((es.flatMap evL) ++ (evL e)) 64 11, .blk g4 bk.cells 63]) [1, 2, 3] (by decide) rfl
            have hnA51 : es.length + 1 = (es ++ [e]).length := by simp
            replace HM := HM.reRow (i := 1) (ys := (es ++ [e]).flatMap evL) rfl hnA51 (by simp)
            rw [hnA51] at hc51
            replace HF := HF.as (t := 11) (u := .slice A51 ((es ++ [e]).length) c51) rfl (by rw [hnA51])
            refine wp_seq ?_
            refine from_start ?_
            refine from_pures HF 3 0 (j := 3) [(54, .int .i64 (IntKind.i64.wrap ((u : Int) + (L : Int)))), (53, .int .i64 (L : Int)), (52, .int .i64 (u : Int))] (by kernel_rfl) rfl ?_; clear HF; intro a HF
            replace HF := HF.as (t := 54) (u := .int .i64 ((u + L : Nat) : Int)) rfl (by rw [IntWalk.i64_in _ (by omega)]; simp)
            refine from_pures HF 1 3 (j := 4) [(12, .int .i64 ((u + L : Nat) : Int))] (by kernel_rfl) rfl ?_; clear HF; intro a HF
            refine from_done rfl ?_
            replace HF := HF.sub (σ' := [(12, .int .i64 ((u + L : Nat) : Int)), (11, .slice A51 ((es ++ [e]).length) c51), (47, .bool false), (36, .bool false), (15, .int .i64 (er : Int)), (14, .int .i64 (L : Int)), (13, .pointer (some ⟨g13, 0, none⟩)), (24, .bool true), (20, .bool false), (17, .bool false), (10, .int .i64 0), (9, .int .i64 0), (8, .slice none 0 0), (4, .pointer (some ⟨g4, 0, none⟩)), (1, .int .u8 (cpu : Int)), (2, .int .i64 m), (3, .slice A n c)]) (by kernel_rfl)
            refine from_start ?_
            refine from_pures HF 1 0 (j := 1) [(55, .pointer (some ⟨g13, 0, none⟩))] (by kernel_rfl) rfl ?_; clear HF; intro a HF
            refine from_yl (S := fun wS => Mem w wS _) HF HM (i := 1) rfl rfl (d := 56) rfl (by decide) (v := .int .i64 e.seq) (Yl.load1 rfl rfl (by kernel_rfl) (fun _ h => h.cell (i := 0) rfl rfl)) ?_; clear HF; intro a HF
            refine from_pures HF 1 2 (j := 3) [(57, .pointer (some ⟨g13, 1, none⟩))] (by kernel_rfl) rfl ?_; clear HF; intro a HF
            refine from_yl (S := fun wS => Mem w wS _) HF HM (i := 3) rfl rfl (d := 58) rfl (by decide) (v := .int .i64 e.time) (Yl.load1 rfl rfl (by kernel_rfl) (fun _ h => h.cell (i := 0) rfl rfl)) ?_; clear HF; intro a HF
            refine from_yl (S := fun wS => Mem w wS _) HF HM (i := 4) rfl rfl (d := 59) rfl (by decide) (v := .agg e.at.cells) ((Yl.build (vs := [(0, .int .i64 e.seq), (1, .int .i64 e.time)]) rfl (by kernel_rfl) (by kernel_rfl))) ?_; clear HF; intro a HF
            refine from_op HF (i := 5) rfl rfl ?_
            refine e_storeAll HF HM (i := 2) (cs := bk.cells) (ds := e.at.cells) rfl rfl rfl rfl ⟨(by kernel_rfl), (by kernel_rfl)⟩ rfl rfl (bs_one e.at) rfl ?_
            clear HM; intro w15_5 HM
            refine from_done rfl ?_
            replace HF := HF.sub (σ' := [(12, .int .i64 ((u + L : Nat) : Int)), (11, .slice A51 ((es ++ [e]).length) c51), (47, .bool false), (36, .bool false), (15, .int .i64 (er : Int)), (14, .int .i64 (L : Int)), (13, .pointer (some ⟨g13, 0, none⟩)), (24, .bool true), (20, .bool false), (17, .bool false), (10, .int .i64 0), (9, .int .i64 0), (8, .slice none 0 0), (4, .pointer (some ⟨g4, 0, none⟩)), (1, .int .u8 (cpu : Int)), (2, .int .i64 m), (3, .slice A n c)]) (by kernel_rfl)
            exact ⟨_, (by simp; omega), es ++ [e], u + L, e.at, A51, c51, hnx, hc51, rfl, HF.sub (by kernel_rfl), HM.picks [1, 2] (by decide) rfl⟩
      · have HF := HF.as (t := 24) (u := .bool false) rfl (by rw [hb24])
        have hge : m.toNat ≤ es.length := by simp at hb24; omega
        refine cond_false HF rfl ?_
        refine wp_exit ?_
        refine wp_seq ?_
        refine from_start ?_
        refine from_pures HF 5 0 (j := 5) [(10, .int .i64 0), (9, .int .i64 (u : Int)), (8, .slice Ak es.length ck), (61, .int .i64 (u : Int)), (60, .slice Ak es.length ck)] (by kernel_rfl) rfl ?_; clear HF; intro a HF
        refine from_done rfl ?_
        replace HF := HF.sub (σ' := [(10, .int .i64 0), (9, .int .i64 (u : Int)), (8, .slice Ak es.length ck), (24, .bool false), (12, .int .i64 (u : Int)), (11, .slice Ak es.length ck), (20, .bool false), (17, .bool false), (4, .pointer (some ⟨g4, 0, none⟩)), (1, .int .u8 (cpu : Int)), (2, .int .i64 m), (3, .slice A n c)]) (by kernel_rfl)
        refine wp_ret ?_
        exact ret3 rfl HF (.tmp HF rfl) (.tmp HF rfl) (.tmp HF rfl) (evsIs_row ((readR_go hm0 hrt).trans (hat.done hge)) (HM.own (i := 0) rfl) hck HM.below)
end Go.Proofs.YtpekelggcmgnnaaDoor

/- quantumlaw07: turned, same. -/
set_option linter.all false
namespace Go.Proofs.YtpekelggcmgnnaaDoor
open Go.RowKit
def TurnIs (w : World) (l : List Ev) (r : Ending) (w' : World) : Prop :=
  (∃ A c, r = .returned (.slice A l.length c) ∧ w'.ownsRow w.heap.size 64 11 (.slice A l.length c) l.length (l.flatMap evL) ∧ l.length ≤ c) ∧ Below w.heap.size w w'
set_option maxRecDepth 100000 in
set_option maxHeartbeats 4000000 in
theorem turned_any (A : Option Addr) (n c : Nat) (l : List Ev) (w : World) (hr : Rd w w.heap.size 11 A n (l.flatMap evL)) (hn : n ≤ 1000000000) (hln : l.length = n) :
    Calls Tryd.prog 28 #[.slice A n c] w (TurnIs w l) := by
  refine calls_enter (vs := [.slice A n c]) Tryd.func28 rfl rfl (by kernel_rfl) (σ0 := [(0, .slice A n c)]) rfl ?_
  intro a HF
  have HM := Mem.start w
  refine wp_seq ?_
  refine from_start ?_
  refine from_pures HF 1 0 (j := 1) [(2, .slice none 0 0)] (by kernel_rfl) rfl ?_; clear HF; intro a HF
  refine from_done rfl ?_
  refine wp_seq ?_
  refine from_start ?_
  refine from_pures HF 1 0 (j := 1) [(3, .slice none 0 0)] (by kernel_rfl) rfl ?_; clear HF; intro a HF
  refine from_done rfl ?_
  replace HM := HM.nil 64 11
  refine wp_seq ?_
  refine wp_seq ?_
  refine from_start ?_
  refine from_pures HF 1 0 (j := 1) [(6, .slice A n c)] (by kernel_rfl) rfl ?_; clear HF; intro a HF
  refine from_yl (S := fun wS => Mem w wS _) HF HM (i := 1) rfl rfl (d := 7) rfl (by decide) (v := .int .i64 ((n : Nat) : Int)) (Yl.len rfl rfl (by kernel_rfl)) ?_; clear HF; intro a HF
  refine from_pures HF 1 2 (j := 3) [(8, .int .i64 0)] (by kernel_rfl) rfl ?_; clear HF; intro a HF
  refine from_done rfl ?_
  replace HF := HF.sub (σ' := [(8, .int .i64 0), (7, .int .i64 ((n : Nat) : Int)), (6, .slice A n c), (3, .slice none 0 0), (2, .slice none 0 0)]) (by kernel_rfl)
  refine wp_block ?_
  refine loop_nat (fun mS aS wS => ∃ (k : Nat) (Ak : Option Addr) (ck : Nat), (k ≤ n) ∧ (k ≤ ck) ∧ mS = n - k ∧ Fr aS 18 [] [(8, .int .i64 (k : Int)), (7, .int .i64 ((n : Nat) : Int)), (6, .slice A n c), (3, .slice Ak k ck), (2, .slice none 0 0)] ∧ Mem w wS [.row (.slice Ak k ck) k ((l.take k).flatMap evL) 64 11]) (m := n - 0) ⟨0, none, 0, Nat.zero_le _, Nat.le_refl _, rfl, HF.sub (by kernel_rfl), HM.picks [0] (by decide) rfl⟩ ?_
  clear HF HM; rintro mS a w_ ⟨k, Ak, ck, hk, hck, rfl, HF, HM⟩
  refine wp_seq ?_
  refine from_start ?_
  refine from_pures HF 1 0 (j := 1) [(9, .bool (decide (((k : Int) : Int) < (((n : Nat) : Int) : Int))))] (by kernel_rfl) rfl ?_; clear HF; intro a HF
  refine from_done rfl ?_
  refine wp_seq ?_
  rcases Bool.eq_false_or_eq_true (decide (((k : Int) : Int) < (((n : Nat) : Int) : Int))) with hb9 | hb9
  · have HF := HF.as (t := 9) (u := .bool true) rfl (by rw [hb9])
    have hk9 : k < n := by have := of_decide_eq_true hb9; omega
    obtain ⟨e, hke⟩ : ∃ e, l[k]? = some e := ⟨_, List.getElem?_eq_getElem (by omega)⟩
    refine cond_true HF rfl ?_
    refine wp_skip ?_
    refine wp_seq ?_
    refine wp_block ?_
    refine wp_seq ?_
    refine from_start ?_
    obtain ⟨gA, oA, rfl, _⟩ := hr.some_at (Nat.lt_of_le_of_lt (Nat.zero_le _) (show k < n from hk9)) (by decide)
    refine from_yl (S := fun wS => Mem w wS _) HF HM (i := 0) rfl rfl (d := 10) rfl (by decide) (v := .pointer (some ⟨gA, oA + k * 11, none⟩)) ((Yl.indexAddr (ad := ⟨gA, oA, none⟩) (y := k) (sz := 11) rfl rfl rfl (hk9) (by kernel_rfl)).as (by rw [Addr.add_mid])) ?_; clear HF; intro a HF
    refine from_yl (S := fun wS => Mem w wS _) HF HM (i := 1) rfl rfl (d := 11) rfl (by decide) (v := .agg e.cells) (Yl.loadS rfl rfl ⟨(by kernel_rfl), (by kernel_rfl)⟩ rfl (fun _ h => (h.old hr).structAt evL_len (hke))) ?_; clear HF; intro a HF
    refine from_op HF (i := 2) rfl rfl ?_
    refine e_alloc HF HM (cs := #[.int .i64 0, .int .i64 0, .int .u8 0, .int .u8 0, .int .i64 0, .int .i64 0, .int .i64 0, .int .i64 0, .int .i64 0, .int .u64 0, .int .i64 0]) rfl (by kernel_rfl) rfl (by decide) ?_
    clear HF HM; intro a w5 g5 HF HM
    refine from_op HF (i := 3) rfl rfl ?_
    refine e_storeAll HF HM (i := 0) (cs := #[.int .i64 0, .int .i64 0, .int .u8 0, .int .u8 0, .int .i64 0, .int .i64 0, .int .i64 0, .int .i64 0, .int .i64 0, .int .u64 0, .int .i64 0]) (ds := e.cells) rfl rfl rfl rfl ⟨(by kernel_rfl), (by kernel_rfl)⟩ rfl rfl (ev_one e) rfl ?_
    clear HM; intro w4_3 HM
    refine from_done rfl ?_
    replace HF := HF.sub (σ' := [(5, .pointer (some ⟨g5, 0, none⟩)), (9, .bool true), (8, .int .i64 (k : Int)), (7, .int .i64 ((n : Nat) : Int)), (6, .slice (some ⟨gA, oA, none⟩) n c), (3, .slice Ak k ck), (2, .slice none 0 0)]) (by kernel_rfl)
    refine from_start ?_
    refine from_pures HF 1 0 (j := 1) [(12, .slice Ak k ck)] (by kernel_rfl) rfl ?_; clear HF; intro a HF
    refine from_yl (S := fun wS => Mem w wS _) HF HM (i := 1) rfl rfl (d := 13) rfl (by decide) (v := .agg e.cells) (Yl.loadS rfl rfl ⟨(by kernel_rfl), (by kernel_rfl)⟩ rfl (fun _ h => range_of_block (h.blk (i := 0) rfl))) ?_; clear HF; intro a HF
    refine from_op HF (i := 2) rfl rfl ?_
    refine e_slice HF HM (vs := [(0, .agg e.cells)]) (cs := e.cells) rfl ei_rev (by decide) rfl (by kernel_rfl) rfl (by decide) ?_
    clear HF HM; intro a w14 g14 HF HM
    refine from_op HF (i := 3) rfl rfl ?_
    refine e_append HF HM (i := 2) rfl ei_rev rfl rfl rfl (news := (evL e)) (HM.rdBlk (i := 0) (n := 1) (size := 11) rfl rfl) (ev_one e) (by omega) (by omega) rfl (by decide) ?_
    clear HF HM; intro a w15 A15 c15 HF HM hc15
    refine from_pures HF 1 4 (j := 5) [(3, .slice A15 (k + 1) c15)] (by kernel_rfl) rfl ?_; clear HF; intro a HF
    refine from_done rfl ?_
    replace HF := HF.sub (σ' := [(3, .slice A15 (k + 1) c15), (5, .pointer (some ⟨g5, 0, none⟩)), (9, .bool true), (8, .int .i64 (k : Int)), (7, .int .i64 ((n : Nat) : Int)), (6, .slice (some ⟨gA, oA, none⟩) n c), (2, .slice none 0 0)]) (by kernel_rfl)
    replace HM := HM.picks (fs' := [.blk g5 e.cells 37, .row (.slice A15 (k + 1) c15) (k + 1) (((l.take k).flatMap evL) ++ (evL e)) 64 11]) [1, 2] (by decide) rfl
    have hnA15 : k + 1 = k + 1 := rfl
    replace HM := HM.reRow (i := 1) (ys := (l.take (k + 1)).flatMap evL) rfl hnA15 (by rw [List.take_add_one, hke]; simp)
    rw [hnA15] at hc15
    replace HF := HF.as (t := 3) (u := .slice A15 (k + 1) c15) rfl (by rw [hnA15])
    refine from_start ?_
    refine from_pures HF 1 0 (j := 1) [(16, .int .i64 (IntKind.i64.wrap ((k : Int) + 1)))] (by kernel_rfl) rfl ?_; clear HF; intro a HF
    replace HF := HF.as (t := 16) (u := .int .i64 ((k + 1 : Nat) : Int)) rfl (by rw [IntWalk.i64_in _ (by omega)]; simp)
    refine from_pures HF 1 1 (j := 2) [(8, .int .i64 ((k + 1 : Nat) : Int))] (by kernel_rfl) rfl ?_; clear HF; intro a HF
    refine from_done rfl ?_
    replace HF := HF.sub (σ' := [(8, .int .i64 ((k + 1 : Nat) : Int)), (3, .slice A15 (k + 1) c15), (5, .pointer (some ⟨g5, 0, none⟩)), (9, .bool true), (7, .int .i64 ((n : Nat) : Int)), (6, .slice (some ⟨gA, oA, none⟩) n c), (2, .slice none 0 0)]) (by kernel_rfl)
    exact ⟨_, (by omega), k + 1, A15, c15, by omega, hc15, rfl, HF.sub (by kernel_rfl), HM.picks [1] (by decide) rfl⟩
  · have HF := HF.as (t := 9) (u := .bool false) rfl (by rw [hb9])
    obtain rfl : n = k := by have := of_decide_eq_false hb9; omega
    refine cond_false HF rfl ?_
    refine wp_exit ?_
    refine wp_seq ?_
    refine from_start ?_
    refine from_pures HF 2 0 (j := 2) [(2, .slice Ak n ck), (17, .slice Ak n ck)] (by kernel_rfl) rfl ?_; clear HF; intro a HF
    refine from_done rfl ?_
    replace HF := HF.sub (σ' := [(2, .slice Ak n ck), (9, .bool false), (8, .int .i64 (n : Int)), (7, .int .i64 ((n : Nat) : Int)), (6, .slice A n c), (3, .slice Ak n ck)]) (by kernel_rfl)
    refine wp_ret ?_
    exact ret1 rfl HF (.tmp HF rfl) (⟨⟨Ak, ck, by rw [hln], by have h := HM.own (i := 0) rfl; rwa [List.take_of_length_le (by omega), ← hln] at h, by omega⟩, HM.below⟩)
set_option maxRecDepth 100000 in
set_option maxHeartbeats 4000000 in
theorem same_any (A A2 : Option Addr) (n c c2 : Nat) (l : List Ev) (w : World) (hr : Rd w w.heap.size 11 A n (l.flatMap evL)) (hr2 : Rd w w.heap.size 11 A2 n (l.flatMap evL)) (hn : n ≤ 1000000000) (hln : l.length = n) :
    Calls Tryd.prog 31 #[.slice A n c, .slice A2 n c2] w (BoolPost w true) := by
  refine calls_enter (vs := [.slice A n c, .slice A2 n c2]) Tryd.func31 rfl rfl (by kernel_rfl) (σ0 := [(0, .slice A n c), (1, .slice A2 n c2)]) rfl ?_
  intro a HF
  have HM := Mem.start w
  refine wp_seq ?_
  refine from_start ?_
  refine from_pures HF 1 0 (j := 1) [(4, .bool false)] (by kernel_rfl) rfl ?_; clear HF; intro a HF
  refine from_done rfl ?_
  refine wp_seq ?_
  refine wp_seq ?_
  refine from_start ?_
  refine from_pures HF 1 0 (j := 1) [(7, .slice A n c)] (by kernel_rfl) rfl ?_; clear HF; intro a HF
  refine from_yl (S := fun wS => Mem w wS _) HF HM (i := 1) rfl rfl (d := 8) rfl (by decide) (v := .int .i64 ((n : Nat) : Int)) (Yl.len rfl rfl (by kernel_rfl)) ?_; clear HF; intro a HF
  refine from_pures HF 1 2 (j := 3) [(9, .slice A2 n c2)] (by kernel_rfl) rfl ?_; clear HF; intro a HF
  refine from_yl (S := fun wS => Mem w wS _) HF HM (i := 3) rfl rfl (d := 10) rfl (by decide) (v := .int .i64 ((n : Nat) : Int)) (Yl.len rfl rfl (by kernel_rfl)) ?_; clear HF; intro a HF
  refine from_pures HF 1 4 (j := 5) [(11, .bool ((((n : Nat) : Int) : Int) != (((n : Nat) : Int) : Int)))] (by kernel_rfl) rfl ?_; clear HF; intro a HF
  replace HF := HF.as (t := 11) (u := .bool false) rfl (by simp)
  refine from_done rfl ?_
  replace HF := HF.sub (σ' := [(11, .bool false), (4, .bool false), (0, .slice A n c), (1, .slice A2 n c2)]) (by kernel_rfl)
  refine cond_false HF rfl ?_
  refine wp_skip ?_
  refine wp_seq ?_
  refine wp_seq ?_
  refine from_start ?_
  refine from_pures HF 1 0 (j := 1) [(12, .slice A n c)] (by kernel_rfl) rfl ?_; clear HF; intro a HF
  refine from_yl (S := fun wS => Mem w wS _) HF HM (i := 1) rfl rfl (d := 13) rfl (by decide) (v := .int .i64 ((n : Nat) : Int)) (Yl.len rfl rfl (by kernel_rfl)) ?_; clear HF; intro a HF
  refine from_pures HF 1 2 (j := 3) [(14, .int .i64 0)] (by kernel_rfl) rfl ?_; clear HF; intro a HF
  refine from_done rfl ?_
  refine wp_block ?_
  refine loop_nat (fun mS aS wS => ∃ (k : Nat), (k ≤ n) ∧ mS = n - k ∧ Fr aS 26 [] [(14, .int .i64 (k : Int)), (13, .int .i64 ((n : Nat) : Int)), (12, .slice A n c), (11, .bool false), (4, .bool false), (0, .slice A n c), (1, .slice A2 n c2)] ∧ Mem w wS []) (m := n - 0) ⟨0, Nat.zero_le _, rfl, HF.sub (by kernel_rfl), HM.picks [] (by decide) rfl⟩ ?_
  clear HF HM; rintro mS a w_ ⟨k, hk, rfl, HF, HM⟩
  refine wp_seq ?_
  refine from_start ?_
  refine from_pures HF 1 0 (j := 1) [(15, .bool (decide (((k : Int) : Int) < (((n : Nat) : Int) : Int))))] (by kernel_rfl) rfl ?_; clear HF; intro a HF
  refine from_done rfl ?_
  refine wp_seq ?_
  rcases Bool.eq_false_or_eq_true (decide (((k : Int) : Int) < (((n : Nat) : Int) : Int))) with hb15 | hb15
  · have HF := HF.as (t := 15) (u := .bool true) rfl (by rw [hb15])
    have hk9 : k < n := by have := of_decide_eq_true hb15; omega
    obtain ⟨e, hke⟩ : ∃ e, l[k]? = some e := ⟨_, List.getElem?_eq_getElem (by omega)⟩
    refine cond_true HF rfl ?_
    refine wp_skip ?_
    refine wp_seq ?_
    refine wp_block ?_
    refine wp_seq ?_
    refine from_start ?_
    refine from_pures HF 1 0 (j := 1) [(16, .int .i64 (k : Int))] (by kernel_rfl) rfl ?_; clear HF; intro a HF
    obtain ⟨gA, oA, rfl, _⟩ := hr.some_at (Nat.lt_of_le_of_lt (Nat.zero_le _) (show k < n from hk9)) (by decide)
    refine from_yl (S := fun wS => Mem w wS _) HF HM (i := 1) rfl rfl (d := 17) rfl (by decide) (v := .pointer (some ⟨gA, oA + k * 11, none⟩)) ((Yl.indexAddr (ad := ⟨gA, oA, none⟩) (y := k) (sz := 11) rfl rfl rfl (hk9) (by kernel_rfl)).as (by rw [Addr.add_mid])) ?_; clear HF; intro a HF
    refine from_yl (S := fun wS => Mem w wS _) HF HM (i := 2) rfl rfl (d := 18) rfl (by decide) (v := .agg e.cells) (Yl.loadS rfl rfl ⟨(by kernel_rfl), (by kernel_rfl)⟩ rfl (fun _ h => (h.old hr).structAt evL_len (hke))) ?_; clear HF; intro a HF
    refine from_op HF (i := 3) rfl rfl ?_
    refine e_alloc HF HM (cs := #[.int .i64 0, .int .i64 0, .int .u8 0, .int .u8 0, .int .i64 0, .int .i64 0, .int .i64 0, .int .i64 0, .int .i64 0, .int .u64 0, .int .i64 0]) rfl (by kernel_rfl) rfl (by decide) ?_
    clear HF HM; intro a w6 g6 HF HM
    refine from_pures HF 1 4 (j := 5) [(5, .int .i64 (k : Int))] (by kernel_rfl) rfl ?_; clear HF; intro a HF
    refine from_op HF (i := 5) rfl rfl ?_
    refine e_storeAll HF HM (i := 0) (cs := #[.int .i64 0, .int .i64 0, .int .u8 0, .int .u8 0, .int .i64 0, .int .i64 0, .int .i64 0, .int .i64 0, .int .i64 0, .int .u64 0, .int .i64 0]) (ds := e.cells) rfl rfl rfl rfl ⟨(by kernel_rfl), (by kernel_rfl)⟩ rfl rfl (ev_one e) rfl ?_
    clear HM; intro w5_5 HM
    refine from_done rfl ?_
    replace HF := HF.sub (σ' := [(5, .int .i64 (k : Int)), (6, .pointer (some ⟨g6, 0, none⟩)), (15, .bool true), (14, .int .i64 (k : Int)), (13, .int .i64 ((n : Nat) : Int)), (12, .slice (some ⟨gA, oA, none⟩) n c), (11, .bool false), (4, .bool false), (0, .slice (some ⟨gA, oA, none⟩) n c), (1, .slice A2 n c2)]) (by kernel_rfl)
    refine wp_seq ?_
    refine any_start (by kernel_rfl) (fun wS => Mem w wS [.blk g6 e.cells 37]) [] ?_
    replace HM := HM.drew
    have HS := HM.picks (fs' := [.blk g6 e.cells 37]) [0] (by decide) rfl
    refine any_pures HF (fun _ => HS) (fun _ _ d _ _ h => by cases d <;> exact h) [1, 2] #[false, true, true, false, false, false] [(21, .int .i64 (k : Int)), (20, .slice A2 n c2)] (by kernel_rfl) ?_; clear HF; intro a HF
    refine any_yl HF HS (i := 0) rfl rfl (d := 19) rfl (by decide) (by kernel_rfl) (fun _ _ _ h => h) (v := .agg e.cells) (Yl.loadS rfl rfl ⟨(by kernel_rfl), (by kernel_rfl)⟩ rfl (fun _ h => range_of_block (h.blk (i := 0) rfl))) ?_; clear HF; intro a HF
    obtain ⟨gA2, oA2, rfl, _⟩ := hr2.some_at (Nat.lt_of_le_of_lt (Nat.zero_le _) (show k < n from hk9)) (by decide)
    refine any_yl HF HS (i := 3) rfl rfl (d := 22) rfl (by decide) (by kernel_rfl) (fun _ _ _ h => h) (v := .pointer (some ⟨gA2, oA2 + k * 11, none⟩)) ((Yl.indexAddr (ad := ⟨gA2, oA2, none⟩) (y := k) (sz := 11) rfl rfl rfl (hk9) (by kernel_rfl)).as (by rw [Addr.add_mid])) ?_; clear HF; intro a HF
    refine any_yl HF HS (i := 4) rfl rfl (d := 23) rfl (by decide) (by kernel_rfl) (fun _ _ _ h => h) (v := .agg e.cells) (Yl.loadS rfl rfl ⟨(by kernel_rfl), (by kernel_rfl)⟩ rfl (fun _ h => (h.old hr2).structAt evL_len (hke))) ?_; clear HF; intro a HF
    refine any_yl HF HS (i := 5) rfl rfl (d := 24) rfl (by decide) (by kernel_rfl) (fun _ _ _ h => h) (v := .bool (!(decide (e = e)))) (Yl.neqEv (x := e) (y := e) rfl rfl rfl (by kernel_rfl)) ?_; clear HF; intro a HF
    replace HF := HF.as (t := 24) (u := .bool false) rfl (by simp)
    refine any_done (by kernel_rfl) ?_
    replace HF := HF.sub (σ' := [(24, .bool false), (5, .int .i64 (k : Int)), (6, .pointer (some ⟨g6, 0, none⟩)), (15, .bool true), (14, .int .i64 (k : Int)), (13, .int .i64 ((n : Nat) : Int)), (12, .slice (some ⟨gA, oA, none⟩) n c), (11, .bool false), (4, .bool false), (0, .slice (some ⟨gA, oA, none⟩) n c), (1, .slice (some ⟨gA2, oA2, none⟩) n c2)]) (by kernel_rfl)
    refine cond_false HF rfl ?_
    refine wp_skip ?_
    refine from_start ?_
    refine from_pures HF 1 0 (j := 1) [(25, .int .i64 (IntKind.i64.wrap ((k : Int) + 1)))] (by kernel_rfl) rfl ?_; clear HF; intro a HF
    replace HF := HF.as (t := 25) (u := .int .i64 ((k + 1 : Nat) : Int)) rfl (by rw [IntWalk.i64_in _ (by omega)]; simp)
    refine from_pures HF 1 1 (j := 2) [(14, .int .i64 ((k + 1 : Nat) : Int))] (by kernel_rfl) rfl ?_; clear HF; intro a HF
    refine from_done rfl ?_
    replace HF := HF.sub (σ' := [(14, .int .i64 ((k + 1 : Nat) : Int)), (24, .bool false), (5, .int .i64 (k : Int)), (6, .pointer (some ⟨g6, 0, none⟩)), (15, .bool true), (13, .int .i64 ((n : Nat) : Int)), (12, .slice (some ⟨gA, oA, none⟩) n c), (11, .bool false), (4, .bool false), (0, .slice (some ⟨gA, oA, none⟩) n c), (1, .slice (some ⟨gA2, oA2, none⟩) n c2)]) (by kernel_rfl)
    exact ⟨_, (by omega), k + 1, by omega, rfl, HF.sub (by kernel_rfl), HM.picks [] (by decide) rfl⟩
  · have HF := HF.as (t := 15) (u := .bool false) rfl (by rw [hb15])
    refine cond_false HF rfl ?_
    refine wp_exit ?_
    refine wp_seq ?_
    refine from_start ?_
    refine from_pures HF 1 0 (j := 1) [(4, .bool true)] (by kernel_rfl) rfl ?_; clear HF; intro a HF
    refine from_done rfl ?_
    replace HF := HF.sub (σ' := [(4, .bool true), (15, .bool false), (14, .int .i64 (k : Int)), (13, .int .i64 ((n : Nat) : Int)), (12, .slice A n c), (11, .bool false), (0, .slice A n c), (1, .slice A2 n c2)]) (by kernel_rfl)
    refine wp_ret ?_
    exact ret1 rfl HF (.tmp HF rfl) (⟨rfl, HM.below⟩)
end Go.Proofs.YtpekelggcmgnnaaDoor

/- quantumref07.Write is what codec.Write is. -/
set_option linter.all false
namespace Go.Proofs.YtpekelggcmgnnaaDoor
open Go.RowKit
set_option maxRecDepth 100000 in
set_option maxHeartbeats 4000000 in
theorem write07_any (b : Bs) (A : Option Addr) (n c : Nat) (l : List Ev) (hok : ∀ e ∈ l, e.Ok) (w : World) (hr : Rd w w.heap.size 11 A n (l.flatMap evL)) (hn : n ≤ 1000000000) (hn47 : n ≤ 140737488355328) (hln : l.length = n) :
    Calls Tryd.prog 29 #[.agg b.cells, .slice A n c] w (BytesIs w (writeErr b l) (writeOut b l)) := by
  refine calls_enter (vs := [.agg b.cells, .slice A n c]) Tryd.func29 rfl rfl (by kernel_rfl) (σ0 := [(0, .agg b.cells), (1, .slice A n c)]) rfl ?_
  intro a HF
  have HM := Mem.start w
  refine wp_seq ?_
  refine from_start ?_
  refine from_op HF (i := 0) rfl rfl ?_
  refine e_box HF HM (cs := b.cells) rfl rfl rfl rfl (by decide) ?_
  clear HF HM; intro a w2 g2 HF HM
  refine from_pures HF 2 1 (j := 3) [(5, .int .i64 0), (4, .slice none 0 0)] (by kernel_rfl) rfl ?_; clear HF; intro a HF
  refine from_done rfl ?_
  replace HF := HF.sub (σ' := [(5, .int .i64 0), (4, .slice none 0 0), (2, .pointer (some ⟨g2, 0, none⟩)), (1, .slice A n c)]) (by kernel_rfl)
  refine wp_seq ?_
  refine wp_seq ?_
  refine from_start ?_
  refine from_pures HF 1 0 (j := 1) [(13, .slice A n c)] (by kernel_rfl) rfl ?_; clear HF; intro a HF
  refine from_op HF (i := 1) rfl rfl ?_
  refine e_call HF (vs := [.slice A n c]) rfl (by kernel_rfl) (by kernel_rfl) rfl (by decide) (row07_any _ _ _ l hok _ (HM.old hr) hn47 hln) ?_
  rintro _ w14 ⟨rfl, hbw⟩
  refine ⟨_, rfl, ?_⟩
  replace HM := HM.call hbw
  clear HF; intro a HF
  refine from_pures HF 5 2 (j := 7) [(7, .int .i64 ((rowR l).2 : Int)), (6, .int .i64 ((rowR l).1)), (16, .int .i64 ((rowR l).2 : Int)), (15, .int .i64 ((rowR l).1)), (12, .tuple #[.int .i64 ((rowR l).1), .int .i64 ((rowR l).2 : Int)])] (by kernel_rfl) rfl ?_; clear HF; intro a HF
  refine from_done rfl ?_
  replace HF := HF.sub (σ' := [(7, .int .i64 ((rowR l).2 : Int)), (5, .int .i64 0), (4, .slice none 0 0), (2, .pointer (some ⟨g2, 0, none⟩)), (1, .slice A n c)]) (by kernel_rfl)
  refine wp_seq ?_
  refine from_start ?_
  refine from_pures HF 2 0 (j := 2) [(18, .bool ((((rowR l).2 : Int) : Int) != (0 : Int))), (17, .int .i64 ((rowR l).2 : Int))] (by kernel_rfl) rfl ?_; clear HF; intro a HF
  refine from_done rfl ?_
  replace HF := HF.sub (σ' := [(18, .bool ((((rowR l).2 : Int) : Int) != (0 : Int))), (7, .int .i64 ((rowR l).2 : Int)), (5, .int .i64 0), (4, .slice none 0 0), (2, .pointer (some ⟨g2, 0, none⟩)), (1, .slice A n c)]) (by kernel_rfl)
  rcases Bool.eq_false_or_eq_true ((((rowR l).2 : Int) : Int) != (0 : Int)) with hb18 | hb18
  · have HF := HF.as (t := 18) (u := .bool true) rfl (by rw [hb18])
    have hr0 : (rowR l).2 ≠ 0 := by rw [bne_iff_ne] at hb18; omega
    refine cond_true HF rfl ?_
    refine wp_seq ?_
    refine from_start ?_
    refine from_pures HF 3 0 (j := 3) [(5, .int .i64 ((rowR l).2 : Int)), (4, .slice none 0 0), (19, .int .i64 ((rowR l).2 : Int))] (by kernel_rfl) rfl ?_; clear HF; intro a HF
    refine from_done rfl ?_
    replace HF := HF.sub (σ' := [(5, .int .i64 ((rowR l).2 : Int)), (4, .slice none 0 0), (18, .bool true), (7, .int .i64 ((rowR l).2 : Int)), (2, .pointer (some ⟨g2, 0, none⟩)), (1, .slice A n c)]) (by kernel_rfl)
    refine wp_ret ?_
    exact ret2 rfl HF (.tmp HF rfl) (.tmp HF rfl) (bytesIs_none (writeErr_row hr0) (hr0) HM.below)
  · have HF := HF.as (t := 18) (u := .bool false) rfl (by rw [hb18])
    have hr0 : (rowR l).2 = 0 := by rw [bne_eq_false_iff_eq] at hb18; omega
    refine cond_false HF rfl ?_
    refine wp_skip ?_
    refine wp_seq ?_
    refine wp_seq ?_
    refine from_start ?_
    refine from_yl (S := fun wS => Mem w wS _) HF HM (i := 0) rfl rfl (d := 20) rfl (by decide) (v := .agg b.cells) (Yl.loadS rfl rfl ⟨(by kernel_rfl), (by kernel_rfl)⟩ rfl (fun _ h => range_of_block (h.blk (i := 0) rfl))) ?_; clear HF; intro a HF
    refine from_op HF (i := 1) rfl rfl ?_
    refine e_call HF (vs := [.agg b.cells]) rfl (by kernel_rfl) (by kernel_rfl) rfl (by decide) (right07_any b _) ?_
    rintro _ w21 ⟨rfl, hbw⟩
    refine ⟨_, rfl, ?_⟩
    replace HM := HM.call hbw
    clear HF; intro a HF
    refine from_pures HF 1 2 (j := 3) [(22, .bool (!b.right))] (by kernel_rfl) rfl ?_; clear HF; intro a HF
    refine from_done rfl ?_
    replace HF := HF.sub (σ' := [(22, .bool (!b.right)), (18, .bool false), (7, .int .i64 ((rowR l).2 : Int)), (5, .int .i64 0), (4, .slice none 0 0), (2, .pointer (some ⟨g2, 0, none⟩)), (1, .slice A n c)]) (by kernel_rfl)
    rcases Bool.eq_false_or_eq_true (!b.right) with hb22 | hb22
    · have HF := HF.as (t := 22) (u := .bool true) rfl (by rw [hb22])
      have hrf : ¬ b.right = true := by simpa using hb22
      refine cond_true HF rfl ?_
      refine wp_seq ?_
      refine from_start ?_
      refine from_pures HF 2 0 (j := 2) [(5, .int .i64 70), (4, .slice none 0 0)] (by kernel_rfl) rfl ?_; clear HF; intro a HF
      refine from_done rfl ?_
      replace HF := HF.sub (σ' := [(5, .int .i64 70), (4, .slice none 0 0), (22, .bool true), (18, .bool false), (7, .int .i64 ((rowR l).2 : Int)), (2, .pointer (some ⟨g2, 0, none⟩)), (1, .slice A n c)]) (by kernel_rfl)
      refine wp_ret ?_
      exact ret2 rfl HF (.tmp HF rfl) (.tmp HF rfl) (bytesIs_none (writeErr_base hr0 hrf) (by decide) HM.below)
    · have HF := HF.as (t := 22) (u := .bool false) rfl (by rw [hb22])
      have hrt : b.right = true := by simpa using hb22
      refine cond_false HF rfl ?_
      refine wp_skip ?_
      refine wp_seq ?_
      refine from_start ?_
      refine from_pures HF 1 0 (j := 1) [(8, .slice none 0 0)] (by kernel_rfl) rfl ?_; clear HF; intro a HF
      refine from_done rfl ?_
      replace HF := HF.sub (σ' := [(8, .slice none 0 0), (22, .bool false), (18, .bool false), (7, .int .i64 ((rowR l).2 : Int)), (5, .int .i64 0), (4, .slice none 0 0), (2, .pointer (some ⟨g2, 0, none⟩)), (1, .slice A n c)]) (by kernel_rfl)
      replace HM := HM.nil 5 1
      refine wp_seq ?_
      refine wp_seq ?_
      refine from_start ?_
      refine from_pures HF 1 0 (j := 1) [(9, .int .i64 0)] (by kernel_rfl) rfl ?_; clear HF; intro a HF
      refine from_done rfl ?_
      refine wp_block ?_
      refine loop_nat (fun mS aS wS => ∃ (k : Nat) (bk : Bs) (Ak : Option Addr) (ck : Nat), (k ≤ n) ∧ (WriteAt b l k bk) ∧ ((writeUp b l k).length ≤ ck) ∧ mS = n - k ∧ Fr aS 56 [] [(9, .int .i64 (k : Int)), (8, .slice Ak ((writeUp b l k).length) ck), (22, .bool false), (18, .bool false), (7, .int .i64 ((rowR l).2 : Int)), (5, .int .i64 0), (4, .slice none 0 0), (2, .pointer (some ⟨g2, 0, none⟩)), (1, .slice A n c)] ∧ Mem w wS [.row (.slice Ak ((writeUp b l k).length) ck) ((writeUp b l k).length) ((writeUp b l k).map B8) 5 1, .blk g2 bk.cells 63]) (m := n - 0) ⟨0, b, none, 0, Nat.zero_le _, WriteAt.start b l, Nat.le_refl _, rfl, HF.sub (by kernel_rfl), HM.picks [0, 1] (by decide) rfl⟩ ?_
      clear HF HM; rintro mS a w_ ⟨k, bk, Ak, ck, hk, hat, hck, rfl, HF, HM⟩
      refine wp_seq ?_
      refine wp_seq ?_
      refine from_start ?_
      refine from_pures HF 2 0 (j := 2) [(24, .slice A n c), (23, .int .i64 (k : Int))] (by kernel_rfl) rfl ?_; clear HF; intro a HF
      refine from_yl (S := fun wS => Mem w wS _) HF HM (i := 2) rfl rfl (d := 25) rfl (by decide) (v := .int .i64 ((n : Nat) : Int)) (Yl.len rfl rfl (by kernel_rfl)) ?_; clear HF; intro a HF
      refine from_pures HF 1 3 (j := 4) [(26, .bool (decide (((k : Int) : Int) < (((n : Nat) : Int) : Int))))] (by kernel_rfl) rfl ?_; clear HF; intro a HF
      refine from_done rfl ?_
      replace HF := HF.sub (σ' := [(26, .bool (decide (((k : Int) : Int) < (((n : Nat) : Int) : Int)))), (9, .int .i64 (k : Int)), (8, .slice Ak ((writeUp b l k).length) ck), (22, .bool false), (18, .bool false), (7, .int .i64 ((rowR l).2 : Int)), (5, .int .i64 0), (4, .slice none 0 0), (2, .pointer (some ⟨g2, 0, none⟩)), (1, .slice A n c)]) (by kernel_rfl)
      rcases Bool.eq_false_or_eq_true (decide (((k : Int) : Int) < (((n : Nat) : Int) : Int))) with hb26 | hb26
      · have HF := HF.as (t := 26) (u := .bool true) rfl (by rw [hb26])
        have hk26 : k < n := by simp at hb26; omega
        obtain ⟨e, hke⟩ : ∃ e, l[k]? = some e := ⟨_, List.getElem?_eq_getElem (by omega)⟩
        have hpl := putOut_le bk e
        have hwl := writeUp_len b l k
        refine cond_true HF rfl ?_
        refine wp_skip ?_
        refine wp_seq ?_
        refine wp_block ?_
        refine wp_seq ?_
        refine any_start (by kernel_rfl) (fun wS => Mem w wS [.row (.slice Ak ((writeUp b l k).length) ck) ((writeUp b l k).length) ((writeUp b l k).map B8) 5 1, .blk g2 bk.cells 63]) [] ?_
        replace HM := HM.drew
        have HS := HM.picks (fs' := [.row (.slice Ak ((writeUp b l k).length) ck) ((writeUp b l k).length) ((writeUp b l k).map B8) 5 1, .blk g2 bk.cells 63]) [0, 1] (by decide) rfl
        refine any_pures HF (fun _ => HS) (fun _ _ d _ _ h => by cases d <;> exact h) [1, 2] #[false, true, true, false, false, false, false, false, false, false, false] [(32, .int .i64 (k : Int)), (31, .slice A n c)] (by kernel_rfl) ?_; clear HF; intro a HF
        refine any_yl HF HS (i := 0) rfl rfl (d := 30) rfl (by decide) (by kernel_rfl) (fun _ _ _ h => h) (v := .agg bk.cells) (Yl.loadS rfl rfl ⟨(by kernel_rfl), (by kernel_rfl)⟩ rfl (fun _ h => range_of_block (h.blk (i := 1) rfl))) ?_; clear HF; intro a HF
        obtain ⟨gA, oA, rfl, _⟩ := hr.some_at (Nat.lt_of_le_of_lt (Nat.zero_le _) (show k < n from hk26)) (by decide)
        refine any_yl HF HS (i := 3) rfl rfl (d := 33) rfl (by decide) (by kernel_rfl) (fun _ _ _ h => h) (v := .pointer (some ⟨gA, oA + k * 11, none⟩)) ((Yl.indexAddr (ad := ⟨gA, oA, none⟩) (y := k) (sz := 11) rfl rfl rfl (hk26) (by kernel_rfl)).as (by rw [Addr.add_mid])) ?_; clear HF; intro a HF
        refine any_yl HF HS (i := 4) rfl rfl (d := 34) rfl (by decide) (by kernel_rfl) (fun _ _ _ h => h) (v := .agg e.cells) (Yl.loadS rfl rfl ⟨(by kernel_rfl), (by kernel_rfl)⟩ rfl (fun _ h => (h.old hr).structAt evL_len (hke))) ?_; clear HF; intro a HF
        refine any_all [5] (by kernel_rfl) rfl ?_
        refine all_cons ?_ all_nil
        refine any_op HF (i := 5) rfl rfl ?_
        refine e_call HF (vs := [.agg bk.cells, .agg e.cells]) rfl (by kernel_rfl) (by kernel_rfl) rfl (by decide) (put07_any bk e (hok e (List.mem_of_getElem? hke)) _) ?_
        rintro _ w35 ⟨⟨A35, c35, rfl, ho, hc35⟩, hbw⟩
        refine ⟨_, rfl, ?_⟩
        replace HM := HM.callRow hbw ho
        clear HF; intro a HF
        refine keepS (HM.picks [1, 2] (by decide) rfl) (fun HS => ?_)
        refine any_pures HF (fun _ => HS) (fun _ _ d _ _ h => by cases d <;> exact h) [6, 7, 8, 9, 10] #[true, true, true, true, true, true, true, true, true, true, true] [(11, .int .i64 (putErr bk e : Int)), (10, .slice A35 ((putOut bk e).length) c35), (37, .int .i64 (putErr bk e : Int)), (36, .slice A35 ((putOut bk e).length) c35), (29, .tuple #[.slice A35 ((putOut bk e).length) c35, .int .i64 (putErr bk e : Int)])] (by kernel_rfl) ?_; clear HF; intro a HF
        refine any_done (by kernel_rfl) ?_
        replace HF := HF.sub (σ' := [(11, .int .i64 (putErr bk e : Int)), (10, .slice A35 ((putOut bk e).length) c35), (26, .bool true), (9, .int .i64 (k : Int)), (8, .slice Ak ((writeUp b l k).length) ck), (22, .bool false), (18, .bool false), (7, .int .i64 ((rowR l).2 : Int)), (5, .int .i64 0), (4, .slice none 0 0), (2, .pointer (some ⟨g2, 0, none⟩)), (1, .slice (some ⟨gA, oA, none⟩) n c)]) (by kernel_rfl)
        refine wp_seq ?_
        refine wp_seq ?_
        refine from_start ?_
        refine from_pures HF 2 0 (j := 2) [(39, .bool (((putErr bk e : Int) : Int) != (0 : Int))), (38, .int .i64 (putErr bk e : Int))] (by kernel_rfl) rfl ?_; clear HF; intro a HF
        refine from_done rfl ?_
        replace HF := HF.sub (σ' := [(39, .bool (((putErr bk e : Int) : Int) != (0 : Int))), (11, .int .i64 (putErr bk e : Int)), (10, .slice A35 ((putOut bk e).length) c35), (26, .bool true), (9, .int .i64 (k : Int)), (8, .slice Ak ((writeUp b l k).length) ck), (22, .bool false), (18, .bool false), (7, .int .i64 ((rowR l).2 : Int)), (5, .int .i64 0), (4, .slice none 0 0), (2, .pointer (some ⟨g2, 0, none⟩)), (1, .slice (some ⟨gA, oA, none⟩) n c)]) (by kernel_rfl)
        rcases Bool.eq_false_or_eq_true (((putErr bk e : Int) : Int) != (0 : Int)) with hb39 | hb39
        · have HF := HF.as (t := 39) (u := .bool true) rfl (by rw [hb39])
          have hpe : putErr bk e ≠ 0 := by rw [bne_iff_ne] at hb39; omega
          have hk00 : k = 0 := hat.bad hr0 hrt hke hpe
          have hend := hat.fail hr0 hrt hke hk00 hpe
          refine cond_true HF rfl ?_
          refine wp_seq ?_
          refine from_start ?_
          refine from_pures HF 3 0 (j := 3) [(5, .int .i64 (putErr bk e : Int)), (4, .slice none 0 0), (40, .int .i64 (putErr bk e : Int))] (by kernel_rfl) rfl ?_; clear HF; intro a HF
          refine from_done rfl ?_
          replace HF := HF.sub (σ' := [(5, .int .i64 (putErr bk e : Int)), (4, .slice none 0 0), (39, .bool true), (11, .int .i64 (putErr bk e : Int)), (10, .slice A35 ((putOut bk e).length) c35), (26, .bool true), (9, .int .i64 (k : Int)), (8, .slice Ak ((writeUp b l k).length) ck), (22, .bool false), (18, .bool false), (7, .int .i64 ((rowR l).2 : Int)), (2, .pointer (some ⟨g2, 0, none⟩)), (1, .slice (some ⟨gA, oA, none⟩) n c)]) (by kernel_rfl)
          refine wp_ret ?_
          exact ret2 rfl HF (.tmp HF rfl) (.tmp HF rfl) (bytesIs_none (hend) (hpe) HM.below)
        · have HF := HF.as (t := 39) (u := .bool false) rfl (by rw [hb39])
          have hpe : putErr bk e = 0 := by rw [bne_eq_false_iff_eq] at hb39; omega
          have hup := hat.up hke hpe
          have hnx := hat.next hke hpe
          refine cond_false HF rfl ?_
          refine wp_skip ?_
          refine wp_seq ?_
          refine from_start ?_
          refine from_pures HF 2 0 (j := 2) [(42, .slice A35 ((putOut bk e).length) c35), (41, .slice Ak ((writeUp b l k).length) ck)] (by kernel_rfl) rfl ?_; clear HF; intro a HF
          refine from_op HF (i := 2) rfl rfl ?_
          refine e_append HF HM (i := 1) rfl ei_u8 rfl rfl rfl (news := ((putOut bk e).map B8)) (HM.rd (i := 0) rfl) (one_B8 _) (by omega) (by omega) rfl (by decide) ?_
          clear HF HM; intro a w43 A43 c43 HF HM hc43
          refine from_pures HF 1 3 (j := 4) [(8, .slice A43 (((writeUp b l k).length) + ((putOut bk e).length)) c43)] (by kernel_rfl) rfl ?_; clear HF; intro a HF
          refine from_done rfl ?_
          replace HF := HF.sub (σ' := [(8, .slice A43 (((writeUp b l k).length) + ((putOut bk e).length)) c43), (39, .bool false), (11, .int .i64 (putErr bk e : Int)), (10, .slice A35 ((putOut bk e).length) c35), (26, .bool true), (9, .int .i64 (k : Int)), (22, .bool false), (18, .bool false), (7, .int .i64 ((rowR l).2 : Int)), (5, .int .i64 0), (4, .slice none 0 0), (2, .pointer (some ⟨g2, 0, none⟩)), (1, .slice (some ⟨gA, oA, none⟩) n c)]) (by kernel_rfl)
          have hnA43 : ((writeUp b l k).length) + ((putOut bk e).length) = (writeUp b l (k + 1)).length := by rw [hup]; simp
          replace HM := HM.reRow (i := 1) (ys := (writeUp b l (k + 1)).map B8) rfl hnA43 (by rw [hup]; simp)
          rw [hnA43] at hc43
          replace HF := HF.as (t := 8) (u := .slice A43 ((writeUp b l (k + 1)).length) c43) rfl (by rw [hnA43])
          refine any_start (by kernel_rfl) (fun wS => Mem w wS [.row (.slice A35 ((putOut bk e).length) c35) ((putOut bk e).length) ((putOut bk e).map B8) 5 1, .row (.slice A43 ((writeUp b l (k + 1)).length) c43) ((writeUp b l (k + 1)).length) ((writeUp b l (k + 1)).map B8) 5 1, .blk g2 bk.cells 63]) [11] ?_
          replace HM := HM.drew
          have HS := HM.picks (fs' := [.row (.slice A35 ((putOut bk e).length) c35) ((putOut bk e).length) ((putOut bk e).map B8) 5 1, .row (.slice A43 ((writeUp b l (k + 1)).length) c43) ((writeUp b l (k + 1)).length) ((writeUp b l (k + 1)).map B8) 5 1, .blk g2 bk.cells 63]) [0, 1, 2] (by decide) rfl
          refine any_pures HF (fun _ => HS) (fun _ _ d _ _ h => by cases d <;> exact h) [0, 1, 5, 6] #[true, true, false, false, false, true, true, false, false, false, false, false] [(50, .int .i64 (k : Int)), (49, .slice (some ⟨gA, oA, none⟩) n c), (45, .int .i64 (k : Int)), (44, .slice (some ⟨gA, oA, none⟩) n c)] (by kernel_rfl) ?_; clear HF; intro a HF
          refine any_yl HF HS (i := 2) rfl rfl (d := 46) rfl (by decide) (by kernel_rfl) (fun _ _ _ h => h) (v := .pointer (some ⟨gA, oA + k * 11, none⟩)) ((Yl.indexAddr (ad := ⟨gA, oA, none⟩) (y := k) (sz := 11) rfl rfl rfl (hk26) (by kernel_rfl)).as (by rw [Addr.add_mid])) ?_; clear HF; intro a HF
          refine any_pures HF (fun _ => HS) (fun _ _ d _ _ h => by cases d <;> exact h) [3] #[true, true, true, true, false, true, true, false, false, false, false, false] [(47, .pointer (some ⟨gA, oA + k * 11, none⟩))] (by kernel_rfl) ?_; clear HF; intro a HF
          refine any_yl HF HS (i := 4) rfl rfl (d := 48) rfl (by decide) (by kernel_rfl) (fun _ _ _ h => h) (v := .int .i64 e.seq) (Yl.load1 rfl rfl (by kernel_rfl) (fun _ h => (by have := (h.old hr).partAt evL_len (k := k) (j := 0) (x := e) (hke) rfl; simpa using this))) ?_; clear HF; intro a HF
          refine any_yl HF HS (i := 7) rfl rfl (d := 51) rfl (by decide) (by kernel_rfl) (fun _ _ _ h => h) (v := .pointer (some ⟨gA, oA + k * 11, none⟩)) ((Yl.indexAddr (ad := ⟨gA, oA, none⟩) (y := k) (sz := 11) rfl rfl rfl (hk26) (by kernel_rfl)).as (by rw [Addr.add_mid])) ?_; clear HF; intro a HF
          refine any_pures HF (fun _ => HS) (fun _ _ d _ _ h => by cases d <;> exact h) [8] #[true, true, true, true, true, true, true, true, true, false, false, false] [(52, .pointer (some ⟨gA, oA + k * 11 + 1, none⟩))] (by kernel_rfl) ?_; clear HF; intro a HF
          refine any_yl HF HS (i := 9) rfl rfl (d := 53) rfl (by decide) (by kernel_rfl) (fun _ _ _ h => h) (v := .int .i64 e.time) (Yl.load1 rfl rfl (by kernel_rfl) (fun _ h => (h.old hr).partAt evL_len (k := k) (j := 1) (x := e) (hke) rfl)) ?_; clear HF; intro a HF
          refine any_yl HF HS (i := 10) rfl rfl (d := 54) rfl (by decide) (by kernel_rfl) (fun _ _ _ h => h) (v := .agg e.at.cells) ((Yl.build (vs := [(0, .int .i64 e.seq), (1, .int .i64 e.time)]) rfl (by kernel_rfl) (by kernel_rfl))) ?_; clear HF; intro a HF
          refine any_all [11] (by kernel_rfl) rfl ?_
          refine all_cons ?_ all_nil
          refine any_op HF (i := 11) rfl rfl ?_
          refine e_storeAll HF HM (i := 2) (cs := bk.cells) (ds := e.at.cells) rfl rfl rfl rfl ⟨(by kernel_rfl), (by kernel_rfl)⟩ rfl rfl (bs_one e.at) rfl ?_
          clear HM; intro w14_11 HM
          refine noS (by kernel_rfl) ?_
          refine any_done (by kernel_rfl) ?_
          replace HF := HF.sub (σ' := [(8, .slice A43 ((writeUp b l (k + 1)).length) c43), (39, .bool false), (11, .int .i64 (putErr bk e : Int)), (10, .slice A35 ((putOut bk e).length) c35), (26, .bool true), (9, .int .i64 (k : Int)), (22, .bool false), (18, .bool false), (7, .int .i64 ((rowR l).2 : Int)), (5, .int .i64 0), (4, .slice none 0 0), (2, .pointer (some ⟨g2, 0, none⟩)), (1, .slice (some ⟨gA, oA, none⟩) n c)]) (by kernel_rfl)
          refine from_start ?_
          refine from_pures HF 2 0 (j := 2) [(28, .int .i64 (IntKind.i64.wrap ((k : Int) + 1))), (27, .int .i64 (k : Int))] (by kernel_rfl) rfl ?_; clear HF; intro a HF
          replace HF := HF.as (t := 28) (u := .int .i64 ((k + 1 : Nat) : Int)) rfl (by rw [IntWalk.i64_in _ (by omega)]; simp)
          refine from_pures HF 1 2 (j := 3) [(9, .int .i64 ((k + 1 : Nat) : Int))] (by kernel_rfl) rfl ?_; clear HF; intro a HF
          refine from_done rfl ?_
          replace HF := HF.sub (σ' := [(9, .int .i64 ((k + 1 : Nat) : Int)), (8, .slice A43 ((writeUp b l (k + 1)).length) c43), (39, .bool false), (11, .int .i64 (putErr bk e : Int)), (10, .slice A35 ((putOut bk e).length) c35), (26, .bool true), (22, .bool false), (18, .bool false), (7, .int .i64 ((rowR l).2 : Int)), (5, .int .i64 0), (4, .slice none 0 0), (2, .pointer (some ⟨g2, 0, none⟩)), (1, .slice (some ⟨gA, oA, none⟩) n c)]) (by kernel_rfl)
          exact ⟨_, (by omega), k + 1, e.at, A43, c43, by omega, hnx, hc43, rfl, HF.sub (by kernel_rfl), HM.picks [1, 2] (by decide) rfl⟩
      · have HF := HF.as (t := 26) (u := .bool false) rfl (by rw [hb26])
        obtain rfl : n = k := by simp at hb26; omega
        refine cond_false HF rfl ?_
        refine wp_exit ?_
        refine wp_seq ?_
        refine from_start ?_
        refine from_pures HF 3 0 (j := 3) [(5, .int .i64 0), (4, .slice Ak ((writeUp b l n).length) ck), (55, .slice Ak ((writeUp b l n).length) ck)] (by kernel_rfl) rfl ?_; clear HF; intro a HF
        refine from_done rfl ?_
        replace HF := HF.sub (σ' := [(5, .int .i64 0), (4, .slice Ak ((writeUp b l n).length) ck), (26, .bool false), (9, .int .i64 (n : Int)), (8, .slice Ak ((writeUp b l n).length) ck), (22, .bool false), (18, .bool false), (7, .int .i64 ((rowR l).2 : Int)), (2, .pointer (some ⟨g2, 0, none⟩)), (1, .slice A n c)]) (by kernel_rfl)
        refine wp_ret ?_
        exact ret2 rfl HF (.tmp HF rfl) (.tmp HF rfl) (hat.done hr0 hrt hln (HM.own (i := 0) rfl) hck HM.below)
end Go.Proofs.YtpekelggcmgnnaaDoor

/- quantumlaw07.CodecTells answers true. -/
set_option linter.all false
namespace Go.Proofs.YtpekelggcmgnnaaDoor
open Go.RowKit
theorem lent_is (A : Option Addr) (n c : Nat) (l : List Nat) (w : World) (hr : Rd w w.heap.size 1 A n (l.map B8)) (hn : n ≤ 140737488351232) (hln : l.length = n) :
    Calls Tryd.prog 26 #[.slice A n c] w fun r w' => (∃ A c, r = .returned (.slice A n c) ∧ w'.ownsRow w.heap.size 5 1 (.slice A (n + 12) c) (n + 12) ((l ++ marks 12).map B8) ∧ n + 12 ≤ c) ∧ Below w.heap.size w w' := by
  have h := lent_any A n c l w hr hn hln
  unfold LentIs at h
  rwa [hln] at h
set_option maxRecDepth 100000 in
set_option maxHeartbeats 4000000 in
theorem tells_walk (b : Bs) (e : Ev) (he : e.Ok) (cpu : Nat) (hcpu : cpu < 256) (A : Option Addr) (n c : Nat) (l : List Nat) (x : Ev) (L er : Nat) (hq : takeR b cpu l = (x, L, er)) (B : Nat) (w : World) (hL : Laid B w) (hB : B ≤ w.heap.size) (hr : Rd w w.heap.size 1 A n (l.map B8)) (hc : n ≤ c) (hl : ∀ b ∈ l, b < 256) (hn : n ≤ 1000000000) (hln : l.length = n) :
    Calls Tryd.prog 22 #[.agg b.cells, .agg e.cells, .int .u8 (cpu : Int), .slice A n c] w (BoolPost w true) := by
  refine calls_enter (vs := [.agg b.cells, .agg e.cells, .int .u8 (cpu : Int), .slice A n c]) Tryd.func22 rfl rfl (by kernel_rfl) (σ0 := [(0, .agg b.cells), (1, .agg e.cells), (2, .int .u8 (cpu : Int)), (3, .slice A n c)]) rfl ?_
  intro a HF
  have HM := Mem.start w
  refine wp_seq ?_
  refine from_start ?_
  refine from_op HF (i := 0) rfl rfl ?_
  refine e_box HF HM (cs := b.cells) rfl rfl rfl rfl (by decide) ?_
  clear HF HM; intro a w4 g4 HF HM
  refine from_op HF (i := 1) rfl rfl ?_
  refine e_box HF HM (cs := e.cells) rfl rfl rfl rfl (by decide) ?_
  clear HF HM; intro a w5 g5 HF HM
  refine from_pures HF 1 2 (j := 3) [(8, .bool false)] (by kernel_rfl) rfl ?_; clear HF; intro a HF
  refine from_done rfl ?_
  replace HF := HF.sub (σ' := [(8, .bool false), (5, .pointer (some ⟨g5, 0, none⟩)), (4, .pointer (some ⟨g4, 0, none⟩)), (2, .int .u8 (cpu : Int)), (3, .slice A n c)]) (by kernel_rfl)
  refine wp_seq ?_
  refine from_start ?_
  refine from_pures HF 1 0 (j := 1) [(22, .slice A n c)] (by kernel_rfl) rfl ?_; clear HF; intro a HF
  refine from_op HF (i := 1) rfl rfl ?_
  refine e_call HF (vs := [.slice A n c]) rfl (by kernel_rfl) (by kernel_rfl) rfl (by decide) (lent_is _ n _ l _ (HM.old hr) (by omega) hln) ?_
  rintro _ w23 ⟨⟨A23, c23, rfl, ho, hc23⟩, hbw⟩
  refine ⟨_, rfl, ?_⟩
  replace HM := HM.callRow hbw ho
  clear HF; intro a HF
  refine from_pures HF 1 2 (j := 3) [(9, .slice A23 n c23)] (by kernel_rfl) rfl ?_; clear HF; intro a HF
  refine from_done rfl ?_
  replace HF := HF.sub (σ' := [(9, .slice A23 n c23), (8, .bool false), (5, .pointer (some ⟨g5, 0, none⟩)), (4, .pointer (some ⟨g4, 0, none⟩)), (2, .int .u8 (cpu : Int)), (3, .slice A n c)]) (by kernel_rfl)
  refine wp_seq ?_
  refine from_start ?_
  refine from_yl (S := fun wS => Mem w wS _) HF HM (i := 0) rfl rfl (d := 25) rfl (by decide) (v := .agg b.cells) (Yl.loadS rfl rfl ⟨(by kernel_rfl), (by kernel_rfl)⟩ rfl (fun _ h => range_of_block (h.blk (i := 2) rfl))) ?_; clear HF; intro a HF
  refine from_yl (S := fun wS => Mem w wS _) HF HM (i := 1) rfl rfl (d := 26) rfl (by decide) (v := .agg e.cells) (Yl.loadS rfl rfl ⟨(by kernel_rfl), (by kernel_rfl)⟩ rfl (fun _ h => range_of_block (h.blk (i := 1) rfl))) ?_; clear HF; intro a HF
  refine from_op HF (i := 2) rfl rfl ?_
  refine e_call HF (vs := [.agg b.cells, .agg e.cells]) rfl (by kernel_rfl) (by kernel_rfl) rfl (by decide) (size_is b e he B _ (hL.mem HM hB) (HM.le hB) rfl rfl) ?_
  rintro _ w27 ⟨rfl, hbw⟩
  refine ⟨_, rfl, ?_⟩
  replace HM := HM.call hbw
  clear HF; intro a HF
  refine from_pures HF 5 3 (j := 8) [(11, .int .i64 (putErr b e : Int)), (10, .int .i64 ((putOut b e).length : Int)), (29, .int .i64 (putErr b e : Int)), (28, .int .i64 ((putOut b e).length : Int)), (24, .tuple #[.int .i64 ((putOut b e).length : Int), .int .i64 (putErr b e : Int)])] (by kernel_rfl) rfl ?_; clear HF; intro a HF
  refine from_done rfl ?_
  replace HF := HF.sub (σ' := [(11, .int .i64 (putErr b e : Int)), (10, .int .i64 ((putOut b e).length : Int)), (9, .slice A23 n c23), (8, .bool false), (5, .pointer (some ⟨g5, 0, none⟩)), (4, .pointer (some ⟨g4, 0, none⟩)), (2, .int .u8 (cpu : Int)), (3, .slice A n c)]) (by kernel_rfl)
  refine wp_seq ?_
  refine from_start ?_
  refine from_yl (S := fun wS => Mem w wS _) HF HM (i := 0) rfl rfl (d := 31) rfl (by decide) (v := .agg b.cells) (Yl.loadS rfl rfl ⟨(by kernel_rfl), (by kernel_rfl)⟩ rfl (fun _ h => range_of_block (h.blk (i := 2) rfl))) ?_; clear HF; intro a HF
  refine from_yl (S := fun wS => Mem w wS _) HF HM (i := 1) rfl rfl (d := 32) rfl (by decide) (v := .agg e.cells) (Yl.loadS rfl rfl ⟨(by kernel_rfl), (by kernel_rfl)⟩ rfl (fun _ h => range_of_block (h.blk (i := 1) rfl))) ?_; clear HF; intro a HF
  refine from_op HF (i := 2) rfl rfl ?_
  refine e_call HF (vs := [.agg b.cells, .agg e.cells]) rfl (by kernel_rfl) (by kernel_rfl) rfl (by decide) (put_is b e he B _ (hL.mem HM hB) (HM.le hB) rfl rfl) ?_
  rintro _ w33 ⟨⟨A33, c33, rfl, ho, hc33⟩, hbw⟩
  refine ⟨_, rfl, ?_⟩
  replace HM := HM.callRow hbw ho
  clear HF; intro a HF
  refine from_pures HF 5 3 (j := 8) [(13, .int .i64 (putErr b e : Int)), (12, .slice A33 ((putOut b e).length) c33), (35, .int .i64 (putErr b e : Int)), (34, .slice A33 ((putOut b e).length) c33), (30, .tuple #[.slice A33 ((putOut b e).length) c33, .int .i64 (putErr b e : Int)])] (by kernel_rfl) rfl ?_; clear HF; intro a HF
  refine from_done rfl ?_
  replace HF := HF.sub (σ' := [(13, .int .i64 (putErr b e : Int)), (12, .slice A33 ((putOut b e).length) c33), (11, .int .i64 (putErr b e : Int)), (10, .int .i64 ((putOut b e).length : Int)), (9, .slice A23 n c23), (8, .bool false), (5, .pointer (some ⟨g5, 0, none⟩)), (4, .pointer (some ⟨g4, 0, none⟩)), (2, .int .u8 (cpu : Int)), (3, .slice A n c)]) (by kernel_rfl)
  refine wp_seq ?_
  refine from_start ?_
  refine from_yl (S := fun wS => Mem w wS _) HF HM (i := 0) rfl rfl (d := 37) rfl (by decide) (v := .agg b.cells) (Yl.loadS rfl rfl ⟨(by kernel_rfl), (by kernel_rfl)⟩ rfl (fun _ h => range_of_block (h.blk (i := 3) rfl))) ?_; clear HF; intro a HF
  refine from_yl (S := fun wS => Mem w wS _) HF HM (i := 1) rfl rfl (d := 38) rfl (by decide) (v := .agg e.cells) (Yl.loadS rfl rfl ⟨(by kernel_rfl), (by kernel_rfl)⟩ rfl (fun _ h => range_of_block (h.blk (i := 2) rfl))) ?_; clear HF; intro a HF
  refine from_op HF (i := 2) rfl rfl ?_
  refine e_call HF (vs := [.agg b.cells, .agg e.cells]) rfl (by kernel_rfl) (by kernel_rfl) rfl (by decide) (put07_any b e he _) ?_
  rintro _ w39 ⟨⟨A39, c39, rfl, ho, hc39⟩, hbw⟩
  refine ⟨_, rfl, ?_⟩
  replace HM := HM.callRow hbw ho
  clear HF; intro a HF
  refine from_pures HF 5 3 (j := 8) [(15, .int .i64 (putErr b e : Int)), (14, .slice A39 ((putOut b e).length) c39), (41, .int .i64 (putErr b e : Int)), (40, .slice A39 ((putOut b e).length) c39), (36, .tuple #[.slice A39 ((putOut b e).length) c39, .int .i64 (putErr b e : Int)])] (by kernel_rfl) rfl ?_; clear HF; intro a HF
  refine from_done rfl ?_
  replace HF := HF.sub (σ' := [(15, .int .i64 (putErr b e : Int)), (14, .slice A39 ((putOut b e).length) c39), (13, .int .i64 (putErr b e : Int)), (12, .slice A33 ((putOut b e).length) c33), (11, .int .i64 (putErr b e : Int)), (10, .int .i64 ((putOut b e).length : Int)), (9, .slice A23 n c23), (8, .bool false), (5, .pointer (some ⟨g5, 0, none⟩)), (4, .pointer (some ⟨g4, 0, none⟩)), (2, .int .u8 (cpu : Int)), (3, .slice A n c)]) (by kernel_rfl)
  refine wp_seq ?_
  refine from_start ?_
  refine from_yl (S := fun wS => Mem w wS _) HF HM (i := 0) rfl rfl (d := 43) rfl (by decide) (v := .agg b.cells) (Yl.loadS rfl rfl ⟨(by kernel_rfl), (by kernel_rfl)⟩ rfl (fun _ h => range_of_block (h.blk (i := 4) rfl))) ?_; clear HF; intro a HF
  refine from_pures HF 2 1 (j := 3) [(45, .slice A23 n c23), (44, .int .u8 (cpu : Int))] (by kernel_rfl) rfl ?_; clear HF; intro a HF
  refine from_op HF (i := 3) rfl rfl ?_
  refine e_call HF (vs := [.agg b.cells, .int .u8 (cpu : Int), .slice A23 n c23]) rfl (by kernel_rfl) (by kernel_rfl) rfl (by decide) (take_is b cpu hcpu _ n _ l B _ (hL.mem HM hB) (HM.le hB) ((HM.rd (i := 2) rfl).pre hln (by omega)) (by omega) hl (by omega) hq) ?_
  rintro _ w46 ⟨rfl, hbw⟩
  refine ⟨_, rfl, ?_⟩
  replace HM := HM.call hbw
  clear HF; intro a HF
  refine from_pures HF 4 4 (j := 8) [(49, .int .i64 (er : Int)), (48, .int .i64 (L : Int)), (47, .agg x.cells), (42, .tuple #[.agg x.cells, .int .i64 (L : Int), .int .i64 (er : Int)])] (by kernel_rfl) rfl ?_; clear HF; intro a HF
  refine from_op HF (i := 8) rfl rfl ?_
  refine e_alloc HF HM (cs := #[.int .i64 0, .int .i64 0, .int .u8 0, .int .u8 0, .int .i64 0, .int .i64 0, .int .i64 0, .int .i64 0, .int .i64 0, .int .u64 0, .int .i64 0]) rfl (by kernel_rfl) rfl (by decide) ?_
  clear HF HM; intro a w16 g16 HF HM
  refine from_op HF (i := 9) rfl rfl ?_
  refine e_storeAll HF HM (i := 0) (cs := #[.int .i64 0, .int .i64 0, .int .u8 0, .int .u8 0, .int .i64 0, .int .i64 0, .int .i64 0, .int .i64 0, .int .i64 0, .int .u64 0, .int .i64 0]) (ds := x.cells) rfl rfl rfl rfl ⟨(by kernel_rfl), (by kernel_rfl)⟩ rfl rfl (ev_one x) rfl ?_
  clear HM; intro w5_9 HM
  refine from_pures HF 2 10 (j := 12) [(18, .int .i64 (er : Int)), (17, .int .i64 (L : Int))] (by kernel_rfl) rfl ?_; clear HF; intro a HF
  refine from_done rfl ?_
  replace HF := HF.sub (σ' := [(18, .int .i64 (er : Int)), (17, .int .i64 (L : Int)), (16, .pointer (some ⟨g16, 0, none⟩)), (15, .int .i64 (putErr b e : Int)), (14, .slice A39 ((putOut b e).length) c39), (13, .int .i64 (putErr b e : Int)), (12, .slice A33 ((putOut b e).length) c33), (11, .int .i64 (putErr b e : Int)), (10, .int .i64 ((putOut b e).length : Int)), (9, .slice A23 n c23), (8, .bool false), (5, .pointer (some ⟨g5, 0, none⟩)), (4, .pointer (some ⟨g4, 0, none⟩)), (2, .int .u8 (cpu : Int)), (3, .slice A n c)]) (by kernel_rfl)
  refine wp_seq ?_
  refine from_start ?_
  refine from_yl (S := fun wS => Mem w wS _) HF HM (i := 0) rfl rfl (d := 51) rfl (by decide) (v := .agg b.cells) (Yl.loadS rfl rfl ⟨(by kernel_rfl), (by kernel_rfl)⟩ rfl (fun _ h => range_of_block (h.blk (i := 5) rfl))) ?_; clear HF; intro a HF
  refine from_pures HF 2 1 (j := 3) [(53, .slice A n c), (52, .int .u8 (cpu : Int))] (by kernel_rfl) rfl ?_; clear HF; intro a HF
  refine from_op HF (i := 3) rfl rfl ?_
  refine e_call HF (vs := [.agg b.cells, .int .u8 (cpu : Int), .slice A n c]) rfl (by kernel_rfl) (by kernel_rfl) rfl (by decide) (take07_is b cpu hcpu _ n _ l _ (HM.old hr) hc hl (by omega) hln hq) ?_
  rintro _ w54 ⟨rfl, hbw⟩
  refine ⟨_, rfl, ?_⟩
  replace HM := HM.call hbw
  clear HF; intro a HF
  refine from_pures HF 4 4 (j := 8) [(57, .int .i64 (er : Int)), (56, .int .i64 (L : Int)), (55, .agg x.cells), (50, .tuple #[.agg x.cells, .int .i64 (L : Int), .int .i64 (er : Int)])] (by kernel_rfl) rfl ?_; clear HF; intro a HF
  refine from_op HF (i := 8) rfl rfl ?_
  refine e_alloc HF HM (cs := #[.int .i64 0, .int .i64 0, .int .u8 0, .int .u8 0, .int .i64 0, .int .i64 0, .int .i64 0, .int .i64 0, .int .i64 0, .int .u64 0, .int .i64 0]) rfl (by kernel_rfl) rfl (by decide) ?_
  clear HF HM; intro a w19 g19 HF HM
  refine from_op HF (i := 9) rfl rfl ?_
  refine e_storeAll HF HM (i := 0) (cs := #[.int .i64 0, .int .i64 0, .int .u8 0, .int .u8 0, .int .i64 0, .int .i64 0, .int .i64 0, .int .i64 0, .int .i64 0, .int .u64 0, .int .i64 0]) (ds := x.cells) rfl rfl rfl rfl ⟨(by kernel_rfl), (by kernel_rfl)⟩ rfl rfl (ev_one x) rfl ?_
  clear HM; intro w6_9 HM
  refine from_pures HF 2 10 (j := 12) [(21, .int .i64 (er : Int)), (20, .int .i64 (L : Int))] (by kernel_rfl) rfl ?_; clear HF; intro a HF
  refine from_done rfl ?_
  replace HF := HF.sub (σ' := [(21, .int .i64 (er : Int)), (20, .int .i64 (L : Int)), (19, .pointer (some ⟨g19, 0, none⟩)), (18, .int .i64 (er : Int)), (17, .int .i64 (L : Int)), (16, .pointer (some ⟨g16, 0, none⟩)), (15, .int .i64 (putErr b e : Int)), (14, .slice A39 ((putOut b e).length) c39), (13, .int .i64 (putErr b e : Int)), (12, .slice A33 ((putOut b e).length) c33), (11, .int .i64 (putErr b e : Int)), (10, .int .i64 ((putOut b e).length : Int)), (9, .slice A23 n c23), (8, .bool false), (5, .pointer (some ⟨g5, 0, none⟩)), (4, .pointer (some ⟨g4, 0, none⟩)), (2, .int .u8 (cpu : Int)), (3, .slice A n c)]) (by kernel_rfl)
  refine wp_seq ?_
  refine from_start ?_
  refine from_pures HF 3 0 (j := 3) [(60, .bool (((putErr b e : Int) : Int) == ((putErr b e : Int) : Int))), (59, .int .i64 (putErr b e : Int)), (58, .int .i64 (putErr b e : Int))] (by kernel_rfl) rfl ?_; clear HF; intro a HF
  replace HF := HF.as (t := 60) (u := .bool true) rfl (by simp)
  refine from_pures HF 4 3 (j := 7) [(64, .bool (((putErr b e : Int) : Int) == ((putErr b e : Int) : Int))), (63, .int .i64 (putErr b e : Int)), (62, .int .i64 (putErr b e : Int)), (61, .bool true)] (by kernel_rfl) rfl ?_; clear HF; intro a HF
  replace HF := HF.as (t := 64) (u := .bool true) rfl (by simp)
  refine from_pures HF 4 7 (j := 11) [(68, .slice A39 ((putOut b e).length) c39), (67, .int .i64 ((putOut b e).length : Int)), (66, .bool true), (65, .bool true)] (by kernel_rfl) rfl ?_; clear HF; intro a HF
  refine from_yl (S := fun wS => Mem w wS _) HF HM (i := 11) rfl rfl (d := 69) rfl (by decide) (v := .int .i64 (((putOut b e).length : Nat) : Int)) (Yl.len rfl rfl (by kernel_rfl)) ?_; clear HF; intro a HF
  refine from_pures HF 1 12 (j := 13) [(70, .bool ((((putOut b e).length : Int) : Int) == ((((putOut b e).length : Nat) : Int) : Int)))] (by kernel_rfl) rfl ?_; clear HF; intro a HF
  replace HF := HF.as (t := 70) (u := .bool true) rfl (by simp)
  refine from_pures HF 3 13 (j := 16) [(73, .slice A33 ((putOut b e).length) c33), (72, .bool true), (71, .bool true)] (by kernel_rfl) rfl ?_; clear HF; intro a HF
  refine from_yl (S := fun wS => Mem w wS _) HF HM (i := 16) rfl rfl (d := 74) rfl (by decide) (v := .string (bstr (putOut b e))) (Yl.str rfl rfl (fun _ h => h.rd (i := 3) rfl)) ?_; clear HF; intro a HF
  refine from_pures HF 1 17 (j := 18) [(75, .slice A39 ((putOut b e).length) c39)] (by kernel_rfl) rfl ?_; clear HF; intro a HF
  refine from_yl (S := fun wS => Mem w wS _) HF HM (i := 18) rfl rfl (d := 76) rfl (by decide) (v := .string (bstr (putOut b e))) (Yl.str rfl rfl (fun _ h => h.rd (i := 2) rfl)) ?_; clear HF; intro a HF
  refine from_pures HF 1 19 (j := 20) [(77, .bool (((bstr (putOut b e))).toList == ((bstr (putOut b e))).toList))] (by kernel_rfl) rfl ?_; clear HF; intro a HF
  replace HF := HF.as (t := 77) (u := .bool true) rfl (by simp)
  refine from_pures HF 5 20 (j := 25) [(82, .bool (((er : Int) : Int) == ((er : Int) : Int))), (81, .int .i64 (er : Int)), (80, .int .i64 (er : Int)), (79, .bool true), (78, .bool true)] (by kernel_rfl) rfl ?_; clear HF; intro a HF
  replace HF := HF.as (t := 82) (u := .bool true) rfl (by simp)
  refine from_pures HF 2 25 (j := 27) [(84, .bool true), (83, .bool true)] (by kernel_rfl) rfl ?_; clear HF; intro a HF
  refine from_yl (S := fun wS => Mem w wS _) HF HM (i := 27) rfl rfl (d := 85) rfl (by decide) (v := .agg x.cells) (Yl.loadS rfl rfl ⟨(by kernel_rfl), (by kernel_rfl)⟩ rfl (fun _ h => range_of_block (h.blk (i := 1) rfl))) ?_; clear HF; intro a HF
  refine from_yl (S := fun wS => Mem w wS _) HF HM (i := 28) rfl rfl (d := 86) rfl (by decide) (v := .agg x.cells) (Yl.loadS rfl rfl ⟨(by kernel_rfl), (by kernel_rfl)⟩ rfl (fun _ h => range_of_block (h.blk (i := 0) rfl))) ?_; clear HF; intro a HF
  refine from_yl (S := fun wS => Mem w wS _) HF HM (i := 29) rfl rfl (d := 87) rfl (by decide) (v := .bool (decide (x = x))) (Yl.eqlEv (x := x) (y := x) rfl rfl rfl (by kernel_rfl)) ?_; clear HF; intro a HF
  replace HF := HF.as (t := 87) (u := .bool true) rfl (by simp)
  refine from_pures HF 5 30 (j := 35) [(92, .bool (((L : Int) : Int) == ((L : Int) : Int))), (91, .int .i64 (L : Int)), (90, .int .i64 (L : Int)), (89, .bool true), (88, .bool true)] (by kernel_rfl) rfl ?_; clear HF; intro a HF
  replace HF := HF.as (t := 92) (u := .bool true) rfl (by simp)
  refine from_pures HF 4 35 (j := 39) [(96, .slice A n c), (95, .slice A23 n c23), (94, .bool true), (93, .bool true)] (by kernel_rfl) rfl ?_; clear HF; intro a HF
  refine from_op HF (i := 39) rfl rfl ?_
  refine e_call HF (vs := [.slice A23 n c23, .slice A n c]) rfl (by kernel_rfl) (by kernel_rfl) rfl (by decide) (kept_any _ _ n _ _ l _ (HM.rd (i := 4) rfl) hc23 (HM.old hr) (by omega) hln) ?_
  rintro _ w97 ⟨rfl, hbw⟩
  refine ⟨_, rfl, ?_⟩
  replace HM := HM.call hbw
  clear HF; intro a HF
  refine from_pures HF 2 40 (j := 42) [(8, .bool true), (98, .bool true)] (by kernel_rfl) rfl ?_; clear HF; intro a HF
  refine from_done rfl ?_
  replace HF := HF.sub (σ' := [(8, .bool true), (19, .pointer (some ⟨g19, 0, none⟩)), (16, .pointer (some ⟨g16, 0, none⟩)), (9, .slice A23 n c23), (5, .pointer (some ⟨g5, 0, none⟩)), (4, .pointer (some ⟨g4, 0, none⟩)), (2, .int .u8 (cpu : Int)), (3, .slice A n c)]) (by kernel_rfl)
  replace HM := HM.picks (fs' := [.blk g19 x.cells 64, .blk g16 x.cells 37, .row (.slice A23 (n + 12) c23) (n + 12) ((l ++ marks 12).map B8) 5 1, .blk g5 e.cells 37, .blk g4 b.cells 23]) [0, 1, 4, 5, 6] (by decide) rfl
  refine wp_ret ?_
  exact ret1 rfl HF (.tmp HF rfl) (⟨rfl, HM.below⟩)
theorem tells_any (b : Bs) (e : Ev) (he : e.Ok) (cpu : Nat) (hcpu : cpu < 256) (A : Option Addr) (n c : Nat) (l : List Nat) (B : Nat) (w : World) (hL : Laid B w) (hB : B ≤ w.heap.size) (hr : Rd w w.heap.size 1 A n (l.map B8)) (hc : n ≤ c) (hl : ∀ b ∈ l, b < 256) (hn : n ≤ 1000000000) :
    Calls Tryd.prog 22 #[.agg b.cells, .agg e.cells, .int .u8 (cpu : Int), .slice A n c] w (BoolPost w true) :=
  tells_walk b e he cpu hcpu A n c l _ _ _ rfl B w hL hB hr hc hl hn (by simpa using hr.len)
set_option maxRecDepth 100000 in
set_option maxHeartbeats 4000000 in
theorem codecTells_any (b : Bs) (e : Ev) (he : e.Ok) (cpu : Nat) (hcpu : cpu < 256) (A : Option Addr) (n c : Nat) (l : List Nat) (B : Nat) (w : World) (hL : Laid B w) (hB : B ≤ w.heap.size) (hr : n ≤ 300 → Rd w w.heap.size 1 A n (l.map B8)) (hc : n ≤ c) (hl : n ≤ 300 → ∀ b ∈ l, b < 256) :
    Calls Tryd.prog 8 #[.agg b.cells, .agg e.cells, .int .u8 (cpu : Int), .slice A n c] w (TruePost w) := by
  refine calls_enter (vs := [.agg b.cells, .agg e.cells, .int .u8 (cpu : Int), .slice A n c]) Tryd.func8 rfl rfl (by kernel_rfl) (σ0 := [(0, .agg b.cells), (1, .agg e.cells), (2, .int .u8 (cpu : Int)), (3, .slice A n c)]) rfl ?_
  intro a HF
  have HM := Mem.start w
  refine wp_seq ?_
  refine from_start ?_
  refine from_op HF (i := 0) rfl rfl ?_
  refine e_box HF HM (cs := b.cells) rfl rfl rfl rfl (by decide) ?_
  clear HF HM; intro a w4 g4 HF HM
  refine from_op HF (i := 1) rfl rfl ?_
  refine e_box HF HM (cs := e.cells) rfl rfl rfl rfl (by decide) ?_
  clear HF HM; intro a w5 g5 HF HM
  refine from_pures HF 1 2 (j := 3) [(8, .bool false)] (by kernel_rfl) rfl ?_; clear HF; intro a HF
  refine from_done rfl ?_
  replace HF := HF.sub (σ' := [(8, .bool false), (5, .pointer (some ⟨g5, 0, none⟩)), (4, .pointer (some ⟨g4, 0, none⟩)), (2, .int .u8 (cpu : Int)), (3, .slice A n c)]) (by kernel_rfl)
  refine wp_seq ?_
  refine from_start ?_
  refine from_pures HF 1 0 (j := 1) [(9, .slice A n c)] (by kernel_rfl) rfl ?_; clear HF; intro a HF
  refine from_yl (S := fun wS => Mem w wS _) HF HM (i := 1) rfl rfl (d := 10) rfl (by decide) (v := .int .i64 ((n : Nat) : Int)) (Yl.len rfl rfl (by kernel_rfl)) ?_; clear HF; intro a HF
  refine from_pures HF 2 2 (j := 4) [(12, .bool (decide ((((n : Nat) : Int) : Int) > (300 : Int)))), (11, .bool (decide ((((n : Nat) : Int) : Int) > (300 : Int))))] (by kernel_rfl) rfl ?_; clear HF; intro a HF
  rcases Bool.eq_false_or_eq_true (decide ((((n : Nat) : Int) : Int) > (300 : Int))) with hb12 | hb12
  · have HF := HF.as (t := 12) (u := .bool true) rfl (by rw [hb12])
    have hsz : 300 < n := by have := of_decide_eq_true hb12; omega
    refine from_pures HF 7 4 (j := 11) [(19, .bool true), (18, .bool true), (17, undef), (16, undef), (15, undef), (14, undef), (13, undef)] (by kernel_rfl) rfl ?_; clear HF; intro a HF
    refine from_op HF (i := 11) rfl rfl ?_
    refine e_call HF (vs := []) rfl (by kernel_rfl) (by kernel_rfl) rfl (by decide) (awake_any B _ (hL.mem HM hB) (HM.le hB)) ?_
    rintro _ w20 ⟨rfl, hbw⟩
    refine ⟨_, rfl, ?_⟩
    replace HM := HM.call hbw
    clear HF; intro a HF
    refine from_pures HF 2 12 (j := 14) [(8, .bool true), (21, .bool true)] (by kernel_rfl) rfl ?_; clear HF; intro a HF
    refine from_done rfl ?_
    replace HF := HF.sub (σ' := [(8, .bool true)]) (by kernel_rfl)
    replace HM := HM.picks (fs' := []) [] (by decide) rfl
    refine wp_ret ?_
    exact ret1 rfl HF (.tmp HF rfl) (⟨rfl, HM.below⟩)
  · have HF := HF.as (t := 12) (u := .bool false) rfl (by rw [hb12])
    have hsz : n ≤ 300 := by have := of_decide_eq_false hb12; omega
    refine from_yl (S := fun wS => Mem w wS _) HF HM (i := 4) rfl rfl (d := 13) rfl (by decide) (v := .agg b.cells) (Yl.loadS rfl rfl ⟨(by kernel_rfl), (by kernel_rfl)⟩ rfl (fun _ h => range_of_block (h.blk (i := 1) rfl))) ?_; clear HF; intro a HF
    refine from_yl (S := fun wS => Mem w wS _) HF HM (i := 5) rfl rfl (d := 14) rfl (by decide) (v := .agg e.cells) (Yl.loadS rfl rfl ⟨(by kernel_rfl), (by kernel_rfl)⟩ rfl (fun _ h => range_of_block (h.blk (i := 0) rfl))) ?_; clear HF; intro a HF
    refine from_pures HF 2 6 (j := 8) [(16, .slice A n c), (15, .int .u8 (cpu : Int))] (by kernel_rfl) rfl ?_; clear HF; intro a HF
    refine from_op HF (i := 8) rfl rfl ?_
    refine e_call HF (vs := [.agg b.cells, .agg e.cells, .int .u8 (cpu : Int), .slice A n c]) rfl (by kernel_rfl) (by kernel_rfl) rfl (by decide) (tells_any b e he cpu hcpu A n c l B _ (hL.mem HM hB) (HM.le hB) (HM.old (hr (by omega))) hc (hl (by omega)) (by omega)) ?_
    rintro _ w17 ⟨rfl, hbw⟩
    refine ⟨_, rfl, ?_⟩
    replace HM := HM.call hbw
    clear HF; intro a HF
    refine from_pures HF 2 9 (j := 11) [(19, .bool true), (18, .bool true)] (by kernel_rfl) rfl ?_; clear HF; intro a HF
    refine from_op HF (i := 11) rfl rfl ?_
    refine e_call HF (vs := []) rfl (by kernel_rfl) (by kernel_rfl) rfl (by decide) (awake_any B _ (hL.mem HM hB) (HM.le hB)) ?_
    rintro _ w20 ⟨rfl, hbw⟩
    refine ⟨_, rfl, ?_⟩
    replace HM := HM.call hbw
    clear HF; intro a HF
    refine from_pures HF 2 12 (j := 14) [(8, .bool true), (21, .bool true)] (by kernel_rfl) rfl ?_; clear HF; intro a HF
    refine from_done rfl ?_
    replace HF := HF.sub (σ' := [(8, .bool true)]) (by kernel_rfl)
    replace HM := HM.picks (fs' := []) [] (by decide) rfl
    refine wp_ret ?_
    exact ret1 rfl HF (.tmp HF rfl) (⟨rfl, HM.below⟩)
end Go.Proofs.YtpekelggcmgnnaaDoor

/- quantumlaw07.rows answers true. -/
set_option linter.all false
namespace Go.Proofs.YtpekelggcmgnnaaDoor
open Go.RowKit
theorem turned_is (A : Option Addr) (n c : Nat) (l : List Ev) (w : World) (hr : Rd w w.heap.size 11 A n (l.flatMap evL)) (hn : n ≤ 1000000000) (hln : l.length = n) :
    Calls Tryd.prog 28 #[.slice A n c] w fun r w' => (∃ A c, r = .returned (.slice A n c) ∧ w'.ownsRow w.heap.size 64 11 (.slice A n c) n (l.flatMap evL) ∧ n ≤ c) ∧ Below w.heap.size w w' := by
  have h := turned_any A n c l w hr hn hln
  unfold TurnIs at h
  rwa [hln] at h
theorem row07_is (A : Option Addr) (n c : Nat) (l : List Ev) (hok : ∀ e ∈ l, e.Ok) (w : World) (hr : Rd w w.heap.size 11 A n (l.flatMap evL)) (hn : n ≤ 140737488355328) (hln : l.length = n) {i : Int} {er : Nat} (h : rowR l = (i, er)) :
    Calls Tryd.prog 27 #[.slice A n c] w fun r w' => r = .returned (.tuple #[.int .i64 i, .int .i64 (er : Int)]) ∧ Below w.heap.size w w' :=
  (row07_any A n c l hok w hr hn hln).mono fun _ _ p => ⟨by rw [p.ret, h], p.below⟩
theorem read07_is (b : Bs) (cpu : Nat) (hcpu : cpu < 256) (m : Int) (hm : I64 m) (A : Option Addr) (n c : Nat) (l : List Nat) (w : World) (hr : Rd w w.heap.size 1 A n (l.map B8)) (hc : n ≤ c) (hl : ∀ b ∈ l, b < 256) (hn : n ≤ 1000000000) (hln : l.length = n) {es : List Ev} {L er : Nat} (h : readR b cpu m l = (es, L, er)) :
    Calls Tryd.prog 30 #[.agg b.cells, .int .u8 (cpu : Int), .int .i64 m, .slice A n c] w fun r w' => (∃ A c, r = .returned (.tuple #[.slice A es.length c, .int .i64 (L : Int), .int .i64 (er : Int)]) ∧ w'.ownsRow w.heap.size 64 11 (.slice A es.length c) es.length (es.flatMap evL) ∧ es.length ≤ c) ∧ Below w.heap.size w w' := by
  have h2 := read07_any b cpu hcpu m hm A n c l w hr hc hl hn hln
  unfold EvsIs at h2
  rwa [h] at h2
theorem ev_ones (l : List Ev) : ∀ u ∈ l.flatMap evL, u.oneCell' = true := by
  intro u hu
  obtain ⟨e, _, he⟩ := List.mem_flatMap.1 hu
  exact ev_one e u he
theorem putAt_cell0 {α : Type} (f : α → List Value) (sz : Nat) (hf : ∀ x, (f x).length = sz) (l : List α) (k : Nat) (y x : α) (hk : l[k]? = some y) (ho : 0 < sz) (v : Value) (hx : f x = (f y).set 0 v) : putAt (l.flatMap f) (k * sz) [v] = (l.set k x).flatMap f := putAt_cell f sz hf l k y x hk 0 ho v hx
theorem readGo_most (cpu : Nat) : ∀ (n : Nat) (b : Bs) (p : Option Ev) (l : List Nat), (readGo cpu n b p l).1.length ≤ (readGo cpu n b p l).2.1 ∧ (readGo cpu n b p l).2.1 ≤ l.length
  | 0, _, _, _ => by simp [readGo]
  | n + 1, b, p, l => by
    have ht := takeR_len b cpu l
    rw [readGo]
    split
    · simp
    · split
      · simp
      · split
        · simp
        · rename_i h1 h2 h3
          have := readGo_most cpu n (takeR b cpu l).1.at (some (takeR b cpu l).1) (l.drop (takeR b cpu l).2.1)
          have h4 := ht.2 (by omega)
          rw [List.length_drop] at this
          simp only [List.length_cons]
          omega
theorem readR_most {b : Bs} {cpu : Nat} {m : Int} {l : List Nat} {es : List Ev} {L er : Nat} (h : readR b cpu m l = (es, L, er)) : es.length ≤ l.length := by
  unfold readR at h
  split at h
  · cases h; simp
  · split at h
    · cases h; simp
    · have := readGo_most cpu m.toNat b none l
      rw [h] at this
      simp only at this
      omega
theorem writeOut_most (b : Bs) (l : List Ev) : (writeOut b l).length ≤ 61 * l.length := by
  unfold writeOut
  split
  · exact recsLen7 l b
  · simp
set_option maxRecDepth 100000 in
set_option maxHeartbeats 4000000 in
theorem rows_walk (b : Bs) (A : Option Addr) (n c cpu : Nat) (m : Int) (A2 : Option Addr) (n2 c2 : Nat) (es : List Ev) (l : List Nat) (hcpu : cpu < 256) (hm : I64 m) (hok : ∀ x ∈ es, x.Ok) (hc2 : n2 ≤ c2) (hl : ∀ b ∈ l, b < 256)
    (ri : Int) (rer : Nat) (hrow : rowR es = (ri, rer)) (rs : List Ev) (L er : Nat) (hq : readR b cpu m l = (rs, L, er)) (hrs : rs.length ≤ l.length) (hwl : (writeOut b es).length ≤ 61 * es.length) (hln : es.length = n) (hln2 : l.length = n2) (hn : n ≤ 1000000) (hn2 : n2 ≤ 1000000)
    (B : Nat) (w : World) (hL : Laid B w) (hB : B ≤ w.heap.size) (hr : Rd w w.heap.size 11 A n (es.flatMap evL)) (hr2 : Rd w w.heap.size 1 A2 n2 (l.map B8)) :
    Calls Tryd.prog 11 #[.agg (rowsCells b A n c cpu m A2 n2 c2)] w (BoolPost w true) := by
  refine calls_enter (vs := [.agg (rowsCells b A n c cpu m A2 n2 c2)]) Tryd.func11 rfl rfl (by kernel_rfl) (σ0 := [(0, .agg (rowsCells b A n c cpu m A2 n2 c2))]) rfl ?_
  intro a HF
  have HM := Mem.start w
  refine wp_seq ?_
  refine from_start ?_
  refine from_op HF (i := 0) rfl rfl ?_
  refine e_box HF HM (cs := (rowsCells b A n c cpu m A2 n2 c2)) rfl rfl rfl rfl (by decide) ?_
  clear HF HM; intro a w1 g1 HF HM
  refine from_pures HF 1 1 (j := 2) [(2, .bool false)] (by kernel_rfl) rfl ?_; clear HF; intro a HF
  refine from_done rfl ?_
  replace HF := HF.sub (σ' := [(2, .bool false), (1, .pointer (some ⟨g1, 0, none⟩))]) (by kernel_rfl)
  refine wp_seq ?_
  refine any_start (by kernel_rfl) (fun wS => Mem w wS [.blk g1 (rowsCells b A n c cpu m A2 n2 c2) 27]) [] ?_
  replace HM := HM.drew
  have HS := HM.picks (fs' := [.blk g1 (rowsCells b A n c cpu m A2 n2 c2) 27]) [0] (by decide) rfl
  refine any_pures HF (fun _ => HS) (fun _ _ d _ _ h => by cases d <;> exact h) [1, 4] #[false, true, false, false, true, false, false, false, false] [(25, .pointer (some ⟨g1, 5, none⟩)), (22, .pointer (some ⟨g1, 2, none⟩))] (by kernel_rfl) ?_; clear HF; intro a HF
  refine any_yl HF HS (i := 2) rfl rfl (d := 23) rfl (by decide) (by kernel_rfl) (fun _ _ _ h => h) (v := .slice A n c) (Yl.load1 rfl rfl (by kernel_rfl) (fun _ h => h.cell (i := 0) rfl rfl)) ?_; clear HF; intro a HF
  refine any_yl HF HS (i := 5) rfl rfl (d := 26) rfl (by decide) (by kernel_rfl) (fun _ _ _ h => h) (v := .slice A2 n2 c2) (Yl.load1 rfl rfl (by kernel_rfl) (fun _ h => h.cell (i := 0) rfl rfl)) ?_; clear HF; intro a HF
  refine any_all [0] (by kernel_rfl) rfl ?_
  refine all_cons ?_ all_nil
  refine any_op HF (i := 0) rfl rfl ?_
  refine e_slice0 HF HM rfl ei_ev rfl (by decide) ?_
  clear HF HM; intro a w21 g21 HF HM
  refine keepS (HM.picks [1] (by decide) rfl) (fun HS => ?_)
  refine any_all [3] (by kernel_rfl) rfl ?_
  refine all_cons ?_ all_nil
  refine any_op HF (i := 3) rfl rfl ?_
  refine e_append_wide HF HM (i := 0) rfl ei_ev rfl rfl rfl (news := (es.flatMap evL)) (HM.old hr) (ev_ones _) (by omega) (by omega) rfl (by decide) ?_
  clear HF HM; intro a w24 A24 c24 HF HM hc24
  refine keepS (HM.picks [1] (by decide) rfl) (fun HS => ?_)
  refine any_all [6] (by kernel_rfl) rfl ?_
  refine all_cons ?_ all_nil
  refine any_op HF (i := 6) rfl rfl ?_
  refine e_call HF (vs := [.slice A2 n2 c2]) rfl (by kernel_rfl) (by kernel_rfl) rfl (by decide) (lent_is _ n2 _ l _ (HM.old hr2) (by omega) hln2) ?_
  rintro _ w27 ⟨⟨A27, c27, rfl, ho, hc27⟩, hbw⟩
  refine ⟨_, rfl, ?_⟩
  replace HM := HM.callRow hbw ho
  clear HF; intro a HF
  refine keepS (HM.picks [2] (by decide) rfl) (fun HS => ?_)
  refine any_pures HF (fun _ => HS) (fun _ _ d _ _ h => by cases d <;> exact h) [7, 8] #[true, true, true, true, true, true, true, true, true] [(4, .slice A27 n2 c27), (3, .slice A24 (0 + n) c24)] (by kernel_rfl) ?_; clear HF; intro a HF
  refine any_done (by kernel_rfl) ?_
  replace HF := HF.sub (σ' := [(4, .slice A27 n2 c27), (3, .slice A24 (0 + n) c24), (2, .bool false), (1, .pointer (some ⟨g1, 0, none⟩))]) (by kernel_rfl)
  have hnA24 : 0 + n = n := Nat.zero_add n
  replace HM := HM.reRow (i := 1) (ys := es.flatMap evL) rfl hnA24 (rfl)
  rw [hnA24] at hc24
  replace HF := HF.as (t := 3) (u := .slice A24 n c24) rfl (by rw [hnA24])
  refine wp_seq ?_
  refine from_start ?_
  refine from_pures HF 1 0 (j := 1) [(29, .slice A24 n c24)] (by kernel_rfl) rfl ?_; clear HF; intro a HF
  refine from_op HF (i := 1) rfl rfl ?_
  refine e_call HF (vs := [.slice A24 n c24]) rfl (by kernel_rfl) (by kernel_rfl) rfl (by decide) (row_is _ _ _ es hok B _ (hL.mem HM hB) (HM.le hB) (HM.rd (i := 1) rfl) (by omega) hrow) ?_
  rintro _ w30 ⟨rfl, hbw⟩
  refine ⟨_, rfl, ?_⟩
  replace HM := HM.call hbw
  clear HF; intro a HF
  refine from_pures HF 5 2 (j := 7) [(6, .int .i64 (rer : Int)), (5, .int .i64 ri), (32, .int .i64 (rer : Int)), (31, .int .i64 ri), (28, .tuple #[.int .i64 ri, .int .i64 (rer : Int)])] (by kernel_rfl) rfl ?_; clear HF; intro a HF
  refine from_done rfl ?_
  replace HF := HF.sub (σ' := [(6, .int .i64 (rer : Int)), (5, .int .i64 ri), (3, .slice A24 n c24), (4, .slice A27 n2 c27), (2, .bool false), (1, .pointer (some ⟨g1, 0, none⟩))]) (by kernel_rfl)
  refine wp_seq ?_
  refine from_start ?_
  refine from_pures HF 1 0 (j := 1) [(34, .pointer (some ⟨g1, 2, none⟩))] (by kernel_rfl) rfl ?_; clear HF; intro a HF
  refine from_yl (S := fun wS => Mem w wS _) HF HM (i := 1) rfl rfl (d := 35) rfl (by decide) (v := .slice A n c) (Yl.load1 rfl rfl (by kernel_rfl) (fun _ h => h.cell (i := 2) rfl rfl)) ?_; clear HF; intro a HF
  refine from_op HF (i := 2) rfl rfl ?_
  refine e_call HF (vs := [.slice A n c]) rfl (by kernel_rfl) (by kernel_rfl) rfl (by decide) (turned_is _ n _ es _ (HM.old hr) (by omega) hln) ?_
  rintro _ w36 ⟨⟨A36, c36, rfl, ho, hc36⟩, hbw⟩
  refine ⟨_, rfl, ?_⟩
  replace HM := HM.callRow hbw ho
  clear HF; intro a HF
  refine from_op HF (i := 3) rfl rfl ?_
  refine e_call HF (vs := [.slice A36 n c36]) rfl (by kernel_rfl) (by kernel_rfl) rfl (by decide) (row07_is _ _ _ es hok _ (HM.rd (i := 0) rfl) (by omega) hln hrow) ?_
  rintro _ w37 ⟨rfl, hbw⟩
  refine ⟨_, rfl, ?_⟩
  replace HM := HM.call hbw
  clear HF; intro a HF
  refine from_pures HF 5 4 (j := 9) [(8, .int .i64 (rer : Int)), (7, .int .i64 ri), (39, .int .i64 (rer : Int)), (38, .int .i64 ri), (33, .tuple #[.int .i64 ri, .int .i64 (rer : Int)])] (by kernel_rfl) rfl ?_; clear HF; intro a HF
  refine from_done rfl ?_
  replace HF := HF.sub (σ' := [(8, .int .i64 (rer : Int)), (7, .int .i64 ri), (6, .int .i64 (rer : Int)), (5, .int .i64 ri), (3, .slice A24 n c24), (4, .slice A27 n2 c27), (2, .bool false), (1, .pointer (some ⟨g1, 0, none⟩))]) (by kernel_rfl)
  replace HM := HM.picks (fs' := [.row (.slice A27 (n2 + 12) c27) (n2 + 12) ((l ++ marks 12).map B8) 5 1, .row (.slice A24 n c24) n (es.flatMap evL) 37 11, .blk g1 (rowsCells b A n c cpu m A2 n2 c2) 27]) [1, 2, 3] (by decide) rfl
  refine wp_seq ?_
  refine from_start ?_
  refine from_pures HF 1 0 (j := 1) [(41, .pointer (some ⟨g1, 0, none⟩))] (by kernel_rfl) rfl ?_; clear HF; intro a HF
  refine from_yl (S := fun wS => Mem w wS _) HF HM (i := 1) rfl rfl (d := 42) rfl (by decide) (v := .agg b.cells) (Yl.loadS rfl rfl ⟨(by kernel_rfl), (by kernel_rfl)⟩ rfl (fun _ h => h.sub (i := 2) rfl 0 rfl)) ?_; clear HF; intro a HF
  refine from_pures HF 1 2 (j := 3) [(43, .slice A24 n c24)] (by kernel_rfl) rfl ?_; clear HF; intro a HF
  refine from_op HF (i := 3) rfl rfl ?_
  refine e_call HF (vs := [.agg b.cells, .slice A24 n c24]) rfl (by kernel_rfl) (by kernel_rfl) rfl (by decide) (write_is b _ _ _ es hok B _ (hL.mem HM hB) (HM.le hB) (HM.rd (i := 1) rfl) (by omega) rfl rfl) ?_
  rintro _ w44 ⟨⟨A44, c44, rfl, ho, hc44⟩, hbw⟩
  refine ⟨_, rfl, ?_⟩
  replace HM := HM.callRow hbw ho
  clear HF; intro a HF
  refine from_pures HF 5 4 (j := 9) [(10, .int .i64 (writeErr b es : Int)), (9, .slice A44 ((writeOut b es).length) c44), (46, .int .i64 (writeErr b es : Int)), (45, .slice A44 ((writeOut b es).length) c44), (40, .tuple #[.slice A44 ((writeOut b es).length) c44, .int .i64 (writeErr b es : Int)])] (by kernel_rfl) rfl ?_; clear HF; intro a HF
  refine from_done rfl ?_
  replace HF := HF.sub (σ' := [(10, .int .i64 (writeErr b es : Int)), (9, .slice A44 ((writeOut b es).length) c44), (8, .int .i64 (rer : Int)), (7, .int .i64 ri), (6, .int .i64 (rer : Int)), (5, .int .i64 ri), (3, .slice A24 n c24), (4, .slice A27 n2 c27), (2, .bool false), (1, .pointer (some ⟨g1, 0, none⟩))]) (by kernel_rfl)
  refine wp_seq ?_
  refine any_start (by kernel_rfl) (fun wS => Mem w wS [.row (.slice A44 ((writeOut b es).length) c44) ((writeOut b es).length) ((writeOut b es).map B8) 5 1, .row (.slice A27 (n2 + 12) c27) (n2 + 12) ((l ++ marks 12).map B8) 5 1, .row (.slice A24 n c24) n (es.flatMap evL) 37 11, .blk g1 (rowsCells b A n c cpu m A2 n2 c2) 27]) [] ?_
  replace HM := HM.drew
  have HS := HM.picks (fs' := [.row (.slice A44 ((writeOut b es).length) c44) ((writeOut b es).length) ((writeOut b es).map B8) 5 1, .row (.slice A27 (n2 + 12) c27) (n2 + 12) ((l ++ marks 12).map B8) 5 1, .row (.slice A24 n c24) n (es.flatMap evL) 37 11, .blk g1 (rowsCells b A n c cpu m A2 n2 c2) 27]) [0, 1, 2, 3] (by decide) rfl
  refine any_pures HF (fun _ => HS) (fun _ _ d _ _ h => by cases d <;> exact h) [0, 2] #[true, false, true, false, false, false, false, false, false, false, false] [(50, .pointer (some ⟨g1, 2, none⟩)), (48, .pointer (some ⟨g1, 0, none⟩))] (by kernel_rfl) ?_; clear HF; intro a HF
  refine any_yl HF HS (i := 1) rfl rfl (d := 49) rfl (by decide) (by kernel_rfl) (fun _ _ _ h => h) (v := .agg b.cells) (Yl.loadS rfl rfl ⟨(by kernel_rfl), (by kernel_rfl)⟩ rfl (fun _ h => h.sub (i := 3) rfl 0 rfl)) ?_; clear HF; intro a HF
  refine any_yl HF HS (i := 3) rfl rfl (d := 51) rfl (by decide) (by kernel_rfl) (fun _ _ _ h => h) (v := .slice A n c) (Yl.load1 rfl rfl (by kernel_rfl) (fun _ h => h.cell (i := 3) rfl rfl)) ?_; clear HF; intro a HF
  refine any_all [4] (by kernel_rfl) rfl ?_
  refine all_cons ?_ all_nil
  refine any_op HF (i := 4) rfl rfl ?_
  refine e_call HF (vs := [.slice A n c]) rfl (by kernel_rfl) (by kernel_rfl) rfl (by decide) (turned_is _ n _ es _ (HM.old hr) (by omega) hln) ?_
  rintro _ w52 ⟨⟨A52, c52, rfl, ho, hc52⟩, hbw⟩
  refine ⟨_, rfl, ?_⟩
  replace HM := HM.callRow hbw ho
  clear HF; intro a HF
  refine keepS (HM.picks [1, 2, 3, 4] (by decide) rfl) (fun HS => ?_)
  refine any_all [5] (by kernel_rfl) rfl ?_
  refine all_cons ?_ all_nil
  refine any_op HF (i := 5) rfl rfl ?_
  refine e_call HF (vs := [.agg b.cells, .slice A52 n c52]) rfl (by kernel_rfl) (by kernel_rfl) rfl (by decide) (write07_any b _ _ _ es hok _ (HM.rd (i := 0) rfl) (by omega) (by omega) hln) ?_
  rintro _ w53 ⟨⟨A53, c53, rfl, ho, hc53⟩, hbw⟩
  refine ⟨_, rfl, ?_⟩
  replace HM := HM.callRow hbw ho
  clear HF; intro a HF
  refine keepS (HM.picks [2, 3, 4, 5] (by decide) rfl) (fun HS => ?_)
  refine any_pures HF (fun _ => HS) (fun _ _ d _ _ h => by cases d <;> exact h) [6, 7, 8, 9, 10] #[true, true, true, true, true, true, true, true, true, true, true] [(12, .int .i64 (writeErr b es : Int)), (11, .slice A53 ((writeOut b es).length) c53), (55, .int .i64 (writeErr b es : Int)), (54, .slice A53 ((writeOut b es).length) c53), (47, .tuple #[.slice A53 ((writeOut b es).length) c53, .int .i64 (writeErr b es : Int)])] (by kernel_rfl) ?_; clear HF; intro a HF
  refine any_done (by kernel_rfl) ?_
  replace HF := HF.sub (σ' := [(12, .int .i64 (writeErr b es : Int)), (11, .slice A53 ((writeOut b es).length) c53), (10, .int .i64 (writeErr b es : Int)), (9, .slice A44 ((writeOut b es).length) c44), (8, .int .i64 (rer : Int)), (7, .int .i64 ri), (6, .int .i64 (rer : Int)), (5, .int .i64 ri), (3, .slice A24 n c24), (4, .slice A27 n2 c27), (2, .bool false), (1, .pointer (some ⟨g1, 0, none⟩))]) (by kernel_rfl)
  replace HM := HM.picks (fs' := [.row (.slice A53 ((writeOut b es).length) c53) ((writeOut b es).length) ((writeOut b es).map B8) 5 1, .row (.slice A44 ((writeOut b es).length) c44) ((writeOut b es).length) ((writeOut b es).map B8) 5 1, .row (.slice A27 (n2 + 12) c27) (n2 + 12) ((l ++ marks 12).map B8) 5 1, .row (.slice A24 n c24) n (es.flatMap evL) 37 11, .blk g1 (rowsCells b A n c cpu m A2 n2 c2) 27]) [0, 2, 3, 4, 5] (by decide) rfl
  refine wp_seq ?_
  refine from_start ?_
  refine from_pures HF 1 0 (j := 1) [(57, .pointer (some ⟨g1, 0, none⟩))] (by kernel_rfl) rfl ?_; clear HF; intro a HF
  refine from_yl (S := fun wS => Mem w wS _) HF HM (i := 1) rfl rfl (d := 58) rfl (by decide) (v := .agg b.cells) (Yl.loadS rfl rfl ⟨(by kernel_rfl), (by kernel_rfl)⟩ rfl (fun _ h => h.sub (i := 4) rfl 0 rfl)) ?_; clear HF; intro a HF
  refine from_pures HF 1 2 (j := 3) [(59, .pointer (some ⟨g1, 3, none⟩))] (by kernel_rfl) rfl ?_; clear HF; intro a HF
  refine from_yl (S := fun wS => Mem w wS _) HF HM (i := 3) rfl rfl (d := 60) rfl (by decide) (v := .int .u8 (cpu : Int)) (Yl.load1 rfl rfl (by kernel_rfl) (fun _ h => h.cell (i := 4) rfl rfl)) ?_; clear HF; intro a HF
  refine from_pures HF 1 4 (j := 5) [(61, .pointer (some ⟨g1, 4, none⟩))] (by kernel_rfl) rfl ?_; clear HF; intro a HF
  refine from_yl (S := fun wS => Mem w wS _) HF HM (i := 5) rfl rfl (d := 62) rfl (by decide) (v := .int .i64 m) (Yl.load1 rfl rfl (by kernel_rfl) (fun _ h => h.cell (i := 4) rfl rfl)) ?_; clear HF; intro a HF
  refine from_pures HF 1 6 (j := 7) [(63, .slice A27 n2 c27)] (by kernel_rfl) rfl ?_; clear HF; intro a HF
  refine from_op HF (i := 7) rfl rfl ?_
  refine e_call HF (vs := [.agg b.cells, .int .u8 (cpu : Int), .int .i64 m, .slice A27 n2 c27]) rfl (by kernel_rfl) (by kernel_rfl) rfl (by decide) (read_is b cpu hcpu _ n2 _ m hm l B _ (hL.mem HM hB) (HM.le hB) ((HM.rd (i := 2) rfl).pre hln2 (by omega)) (by omega) hl (by omega) (.inr (by omega)) hq) ?_
  rintro _ w64 ⟨⟨A64, c64, rfl, ho, hc64⟩, hbw⟩
  refine ⟨_, rfl, ?_⟩
  replace HM := HM.callRow hbw ho
  clear HF; intro a HF
  refine from_pures HF 7 8 (j := 15) [(15, .int .i64 (er : Int)), (14, .int .i64 (L : Int)), (13, .slice A64 rs.length c64), (67, .int .i64 (er : Int)), (66, .int .i64 (L : Int)), (65, .slice A64 rs.length c64), (56, .tuple #[.slice A64 rs.length c64, .int .i64 (L : Int), .int .i64 (er : Int)])] (by kernel_rfl) rfl ?_; clear HF; intro a HF
  refine from_done rfl ?_
  replace HF := HF.sub (σ' := [(15, .int .i64 (er : Int)), (14, .int .i64 (L : Int)), (13, .slice A64 rs.length c64), (12, .int .i64 (writeErr b es : Int)), (11, .slice A53 ((writeOut b es).length) c53), (10, .int .i64 (writeErr b es : Int)), (9, .slice A44 ((writeOut b es).length) c44), (8, .int .i64 (rer : Int)), (7, .int .i64 ri), (6, .int .i64 (rer : Int)), (5, .int .i64 ri), (3, .slice A24 n c24), (4, .slice A27 n2 c27), (2, .bool false), (1, .pointer (some ⟨g1, 0, none⟩))]) (by kernel_rfl)
  refine wp_seq ?_
  refine from_start ?_
  refine from_pures HF 1 0 (j := 1) [(69, .pointer (some ⟨g1, 0, none⟩))] (by kernel_rfl) rfl ?_; clear HF; intro a HF
  refine from_yl (S := fun wS => Mem w wS _) HF HM (i := 1) rfl rfl (d := 70) rfl (by decide) (v := .agg b.cells) (Yl.loadS rfl rfl ⟨(by kernel_rfl), (by kernel_rfl)⟩ rfl (fun _ h => h.sub (i := 5) rfl 0 rfl)) ?_; clear HF; intro a HF
  refine from_pures HF 1 2 (j := 3) [(71, .pointer (some ⟨g1, 3, none⟩))] (by kernel_rfl) rfl ?_; clear HF; intro a HF
  refine from_yl (S := fun wS => Mem w wS _) HF HM (i := 3) rfl rfl (d := 72) rfl (by decide) (v := .int .u8 (cpu : Int)) (Yl.load1 rfl rfl (by kernel_rfl) (fun _ h => h.cell (i := 5) rfl rfl)) ?_; clear HF; intro a HF
  refine from_pures HF 1 4 (j := 5) [(73, .pointer (some ⟨g1, 4, none⟩))] (by kernel_rfl) rfl ?_; clear HF; intro a HF
  refine from_yl (S := fun wS => Mem w wS _) HF HM (i := 5) rfl rfl (d := 74) rfl (by decide) (v := .int .i64 m) (Yl.load1 rfl rfl (by kernel_rfl) (fun _ h => h.cell (i := 5) rfl rfl)) ?_; clear HF; intro a HF
  refine from_pures HF 1 6 (j := 7) [(75, .pointer (some ⟨g1, 5, none⟩))] (by kernel_rfl) rfl ?_; clear HF; intro a HF
  refine from_yl (S := fun wS => Mem w wS _) HF HM (i := 7) rfl rfl (d := 76) rfl (by decide) (v := .slice A2 n2 c2) (Yl.load1 rfl rfl (by kernel_rfl) (fun _ h => h.cell (i := 5) rfl rfl)) ?_; clear HF; intro a HF
  refine from_op HF (i := 8) rfl rfl ?_
  refine e_call HF (vs := [.agg b.cells, .int .u8 (cpu : Int), .int .i64 m, .slice A2 n2 c2]) rfl (by kernel_rfl) (by kernel_rfl) rfl (by decide) (read07_is b cpu hcpu m hm _ n2 _ l _ (HM.old hr2) hc2 hl (by omega) hln2 hq) ?_
  rintro _ w77 ⟨⟨A77, c77, rfl, ho, hc77⟩, hbw⟩
  refine ⟨_, rfl, ?_⟩
  replace HM := HM.callRow hbw ho
  clear HF; intro a HF
  refine from_pures HF 7 9 (j := 16) [(18, .int .i64 (er : Int)), (17, .int .i64 (L : Int)), (16, .slice A77 rs.length c77), (80, .int .i64 (er : Int)), (79, .int .i64 (L : Int)), (78, .slice A77 rs.length c77), (68, .tuple #[.slice A77 rs.length c77, .int .i64 (L : Int), .int .i64 (er : Int)])] (by kernel_rfl) rfl ?_; clear HF; intro a HF
  refine from_done rfl ?_
  replace HF := HF.sub (σ' := [(18, .int .i64 (er : Int)), (17, .int .i64 (L : Int)), (16, .slice A77 rs.length c77), (15, .int .i64 (er : Int)), (14, .int .i64 (L : Int)), (13, .slice A64 rs.length c64), (12, .int .i64 (writeErr b es : Int)), (11, .slice A53 ((writeOut b es).length) c53), (10, .int .i64 (writeErr b es : Int)), (9, .slice A44 ((writeOut b es).length) c44), (8, .int .i64 (rer : Int)), (7, .int .i64 ri), (6, .int .i64 (rer : Int)), (5, .int .i64 ri), (3, .slice A24 n c24), (4, .slice A27 n2 c27), (2, .bool false), (1, .pointer (some ⟨g1, 0, none⟩))]) (by kernel_rfl)
  refine wp_seq ?_
  refine wp_seq ?_
  refine from_start ?_
  refine from_pures HF 3 0 (j := 3) [(83, .bool ((ri : Int) != (ri : Int))), (82, .int .i64 ri), (81, .int .i64 ri)] (by kernel_rfl) rfl ?_; clear HF; intro a HF
  replace HF := HF.as (t := 83) (u := .bool false) rfl (by simp)
  refine from_pures HF 4 3 (j := 7) [(87, .bool (((rer : Int) : Int) != ((rer : Int) : Int))), (86, .int .i64 (rer : Int)), (85, .int .i64 (rer : Int)), (84, .bool false)] (by kernel_rfl) rfl ?_; clear HF; intro a HF
  replace HF := HF.as (t := 87) (u := .bool false) rfl (by simp)
  refine from_pures HF 5 7 (j := 12) [(92, .bool (((writeErr b es : Int) : Int) != ((writeErr b es : Int) : Int))), (91, .int .i64 (writeErr b es : Int)), (90, .int .i64 (writeErr b es : Int)), (89, .bool false), (88, .bool false)] (by kernel_rfl) rfl ?_; clear HF; intro a HF
  replace HF := HF.as (t := 92) (u := .bool false) rfl (by simp)
  refine from_pures HF 5 12 (j := 17) [(97, .bool (((er : Int) : Int) != ((er : Int) : Int))), (96, .int .i64 (er : Int)), (95, .int .i64 (er : Int)), (94, .bool false), (93, .bool false)] (by kernel_rfl) rfl ?_; clear HF; intro a HF
  replace HF := HF.as (t := 97) (u := .bool false) rfl (by simp)
  refine from_pures HF 3 17 (j := 20) [(100, .slice A44 ((writeOut b es).length) c44), (99, .bool false), (98, .bool false)] (by kernel_rfl) rfl ?_; clear HF; intro a HF
  refine from_yl (S := fun wS => Mem w wS _) HF HM (i := 20) rfl rfl (d := 101) rfl (by decide) (v := .string (bstr (writeOut b es))) (Yl.str rfl rfl (fun _ h => h.rd (i := 3) rfl)) ?_; clear HF; intro a HF
  refine from_pures HF 1 21 (j := 22) [(102, .slice A53 ((writeOut b es).length) c53)] (by kernel_rfl) rfl ?_; clear HF; intro a HF
  refine from_yl (S := fun wS => Mem w wS _) HF HM (i := 22) rfl rfl (d := 103) rfl (by decide) (v := .string (bstr (writeOut b es))) (Yl.str rfl rfl (fun _ h => h.rd (i := 2) rfl)) ?_; clear HF; intro a HF
  refine from_pures HF 1 23 (j := 24) [(104, .bool (!(((bstr (writeOut b es))).toList == ((bstr (writeOut b es))).toList)))] (by kernel_rfl) rfl ?_; clear HF; intro a HF
  replace HF := HF.as (t := 104) (u := .bool false) rfl (by simp)
  refine from_pures HF 5 24 (j := 29) [(109, .bool (((L : Int) : Int) != ((L : Int) : Int))), (108, .int .i64 (L : Int)), (107, .int .i64 (L : Int)), (106, .bool false), (105, .bool false)] (by kernel_rfl) rfl ?_; clear HF; intro a HF
  replace HF := HF.as (t := 109) (u := .bool false) rfl (by simp)
  refine from_pures HF 4 29 (j := 33) [(113, .slice A77 rs.length c77), (112, .slice A64 rs.length c64), (111, .bool false), (110, .bool false)] (by kernel_rfl) rfl ?_; clear HF; intro a HF
  refine from_op HF (i := 33) rfl rfl ?_
  refine e_call HF (vs := [.slice A64 rs.length c64, .slice A77 rs.length c77]) rfl (by kernel_rfl) (by kernel_rfl) rfl (by decide) (same_any _ _ rs.length _ _ rs _ (HM.rd (i := 1) rfl) (HM.rd (i := 0) rfl) (by omega) rfl) ?_
  rintro _ w114 ⟨rfl, hbw⟩
  refine ⟨_, rfl, ?_⟩
  replace HM := HM.call hbw
  clear HF; intro a HF
  refine from_pures HF 2 34 (j := 36) [(116, .bool false), (115, .bool false)] (by kernel_rfl) rfl ?_; clear HF; intro a HF
  refine from_done rfl ?_
  replace HF := HF.sub (σ' := [(116, .bool false), (13, .slice A64 rs.length c64), (9, .slice A44 ((writeOut b es).length) c44), (3, .slice A24 n c24), (4, .slice A27 n2 c27), (2, .bool false), (1, .pointer (some ⟨g1, 0, none⟩))]) (by kernel_rfl)
  replace HM := HM.picks (fs' := [.row (.slice A64 rs.length c64) rs.length (rs.flatMap evL) 37 11, .row (.slice A44 ((writeOut b es).length) c44) ((writeOut b es).length) ((writeOut b es).map B8) 5 1, .row (.slice A27 (n2 + 12) c27) (n2 + 12) ((l ++ marks 12).map B8) 5 1, .row (.slice A24 n c24) n (es.flatMap evL) 37 11, .blk g1 (rowsCells b A n c cpu m A2 n2 c2) 27]) [1, 3, 4, 5, 6] (by decide) rfl
  refine cond_false HF rfl ?_
  refine wp_skip ?_
  refine wp_seq ?_
  refine wp_seq ?_
  refine from_start ?_
  refine from_pures HF 1 0 (j := 1) [(117, .slice A44 ((writeOut b es).length) c44)] (by kernel_rfl) rfl ?_; clear HF; intro a HF
  refine from_yl (S := fun wS => Mem w wS _) HF HM (i := 1) rfl rfl (d := 118) rfl (by decide) (v := .int .i64 (((writeOut b es).length : Nat) : Int)) (Yl.len rfl rfl (by kernel_rfl)) ?_; clear HF; intro a HF
  refine from_pures HF 1 2 (j := 3) [(119, .int .i64 0)] (by kernel_rfl) rfl ?_; clear HF; intro a HF
  refine from_done rfl ?_
  replace HF := HF.sub (σ' := [(119, .int .i64 0), (118, .int .i64 (((writeOut b es).length : Nat) : Int)), (116, .bool false), (13, .slice A64 rs.length c64), (9, .slice A44 ((writeOut b es).length) c44), (3, .slice A24 n c24), (4, .slice A27 n2 c27), (2, .bool false), (1, .pointer (some ⟨g1, 0, none⟩))]) (by kernel_rfl)
  refine wp_block ?_
  refine loop_nat (fun mS aS wS => ∃ (k : Nat) (zs : List Nat), (k ≤ (writeOut b es).length) ∧ (zs.length = (writeOut b es).length) ∧ mS = (writeOut b es).length - k ∧ Fr aS 150 [] [(119, .int .i64 (k : Int)), (118, .int .i64 (((writeOut b es).length : Nat) : Int)), (116, .bool false), (13, .slice A64 rs.length c64), (9, .slice A44 ((writeOut b es).length) c44), (3, .slice A24 n c24), (4, .slice A27 n2 c27), (2, .bool false), (1, .pointer (some ⟨g1, 0, none⟩))] ∧ Mem w wS [.row (.slice A64 rs.length c64) rs.length (rs.flatMap evL) 37 11, .row (.slice A44 ((writeOut b es).length) c44) ((writeOut b es).length) (zs.map B8) 5 1, .row (.slice A27 (n2 + 12) c27) (n2 + 12) ((l ++ marks 12).map B8) 5 1, .row (.slice A24 n c24) n (es.flatMap evL) 37 11, .blk g1 (rowsCells b A n c cpu m A2 n2 c2) 27]) (m := (writeOut b es).length - 0) ⟨0, (writeOut b es), Nat.zero_le _, rfl, rfl, HF.sub (by kernel_rfl), HM.picks [0, 1, 2, 3, 4] (by decide) rfl⟩ ?_
  clear HF HM; rintro mS a w_ ⟨k, zs, hk, hzs, rfl, HF, HM⟩
  refine wp_seq ?_
  refine from_start ?_
  refine from_pures HF 1 0 (j := 1) [(120, .bool (decide (((k : Int) : Int) < ((((writeOut b es).length : Nat) : Int) : Int))))] (by kernel_rfl) rfl ?_; clear HF; intro a HF
  refine from_done rfl ?_
  refine wp_seq ?_
  rcases Bool.eq_false_or_eq_true (decide (((k : Int) : Int) < ((((writeOut b es).length : Nat) : Int) : Int))) with hb120 | hb120
  · have HF := HF.as (t := 120) (u := .bool true) rfl (by rw [hb120])
    have hk120 : k < (writeOut b es).length := by have := of_decide_eq_true hb120; omega
    obtain ⟨z, hz⟩ : ∃ z, zs[k]? = some z := ⟨_, List.getElem?_eq_getElem (by omega)⟩
    refine cond_true HF rfl ?_
    refine wp_skip ?_
    refine wp_seq ?_
    refine wp_block ?_
    refine wp_seq ?_
    refine from_start ?_
    refine from_pures HF 2 0 (j := 2) [(19, .int .i64 (k : Int)), (121, .int .i64 (k : Int))] (by kernel_rfl) rfl ?_; clear HF; intro a HF
    refine from_done rfl ?_
    replace HF := HF.sub (σ' := [(19, .int .i64 (k : Int)), (120, .bool true), (119, .int .i64 (k : Int)), (118, .int .i64 (((writeOut b es).length : Nat) : Int)), (116, .bool false), (13, .slice A64 rs.length c64), (9, .slice A44 ((writeOut b es).length) c44), (3, .slice A24 n c24), (4, .slice A27 n2 c27), (2, .bool false), (1, .pointer (some ⟨g1, 0, none⟩))]) (by kernel_rfl)
    refine from_start ?_
    refine from_pures HF 2 0 (j := 2) [(123, .int .i64 (k : Int)), (122, .slice A44 ((writeOut b es).length) c44)] (by kernel_rfl) rfl ?_; clear HF; intro a HF
    obtain ⟨gA44, rfl⟩ := own_some (HM.own (i := 1) rfl) (Nat.lt_of_le_of_lt (Nat.zero_le _) (show k < (writeOut b es).length from hk120))
    refine from_yl (S := fun wS => Mem w wS _) HF HM (i := 2) rfl rfl (d := 124) rfl (by decide) (v := .pointer (some ⟨gA44, k * 1, none⟩)) ((Yl.indexAddr (ad := ⟨gA44, 0, none⟩) (y := k) (sz := 1) rfl rfl rfl (hk120) (by kernel_rfl)).as (by rw [Addr.add_mid, Nat.zero_add])) ?_; clear HF; intro a HF
    refine from_yl (S := fun wS => Mem w wS _) HF HM (i := 3) rfl rfl (d := 125) rfl (by decide) (v := .int .u8 (z : Int)) (Yl.load1 rfl rfl (by kernel_rfl) (fun _ h => h.rowOne (i := 1) rfl (k := k) (map_at (F := B8) (k := k) (x := z) (hz)))) ?_; clear HF; intro a HF
    refine from_pures HF 1 4 (j := 5) [(126, .int .u8 (IntKind.u8.wrap ((z : Int) + 1)))] (by kernel_rfl) rfl ?_; clear HF; intro a HF
    replace HF := HF.as (t := 126) (u := .int .u8 (((z + 1) % 256 : Nat) : Int)) rfl (by rw [IntKind.wrap_u8]; congr 1)
    refine from_yl (S := fun wS => Mem w wS _) HF HM (i := 5) rfl rfl (d := 127) rfl (by decide) (v := .pointer (some ⟨gA44, k * 1, none⟩)) ((Yl.indexAddr (ad := ⟨gA44, 0, none⟩) (y := k) (sz := 1) rfl rfl rfl (hk120) (by kernel_rfl)).as (by rw [Addr.add_mid, Nat.zero_add])) ?_; clear HF; intro a HF
    refine from_op HF (i := 6) rfl rfl ?_
    refine e_storeRow HF HM (i := 1) rfl rfl rfl rfl (by kernel_rfl) rfl rfl (by simp only [List.length_map]; omega) ?_
    clear HM; intro w13_6 HM
    replace HM := HM.asRow (i := 1) (ys := (zs.set k ((z + 1) % 256)).map B8) rfl (putAt_one B8 zs k _ (by omega))
    refine from_done rfl ?_
    replace HF := HF.sub (σ' := [(19, .int .i64 (k : Int)), (120, .bool true), (119, .int .i64 (k : Int)), (118, .int .i64 (((writeOut b es).length : Nat) : Int)), (116, .bool false), (13, .slice A64 rs.length c64), (9, .slice (some ⟨gA44, 0, none⟩) ((writeOut b es).length) c44), (3, .slice A24 n c24), (4, .slice A27 n2 c27), (2, .bool false), (1, .pointer (some ⟨g1, 0, none⟩))]) (by kernel_rfl)
    refine from_start ?_
    refine from_pures HF 1 0 (j := 1) [(128, .int .i64 (IntKind.i64.wrap ((k : Int) + 1)))] (by kernel_rfl) rfl ?_; clear HF; intro a HF
    replace HF := HF.as (t := 128) (u := .int .i64 ((k + 1 : Nat) : Int)) rfl (by rw [IntWalk.i64_in _ (by omega)]; simp)
    refine from_pures HF 1 1 (j := 2) [(119, .int .i64 ((k + 1 : Nat) : Int))] (by kernel_rfl) rfl ?_; clear HF; intro a HF
    refine from_done rfl ?_
    replace HF := HF.sub (σ' := [(119, .int .i64 ((k + 1 : Nat) : Int)), (19, .int .i64 (k : Int)), (120, .bool true), (118, .int .i64 (((writeOut b es).length : Nat) : Int)), (116, .bool false), (13, .slice A64 rs.length c64), (9, .slice (some ⟨gA44, 0, none⟩) ((writeOut b es).length) c44), (3, .slice A24 n c24), (4, .slice A27 n2 c27), (2, .bool false), (1, .pointer (some ⟨g1, 0, none⟩))]) (by kernel_rfl)
    exact ⟨_, (by omega), k + 1, zs.set k ((z + 1) % 256), hk120, (by rw [List.length_set]; exact hzs), rfl, HF.sub (by kernel_rfl), HM.picks [0, 1, 2, 3, 4] (by decide) rfl⟩
  · have HF := HF.as (t := 120) (u := .bool false) rfl (by rw [hb120])
    refine cond_false HF rfl ?_
    refine wp_exit ?_
    refine wp_seq ?_
    refine wp_seq ?_
    refine from_start ?_
    refine from_pures HF 1 0 (j := 1) [(129, .slice A64 rs.length c64)] (by kernel_rfl) rfl ?_; clear HF; intro a HF
    refine from_yl (S := fun wS => Mem w wS _) HF HM (i := 1) rfl rfl (d := 130) rfl (by decide) (v := .int .i64 ((rs.length : Nat) : Int)) (Yl.len rfl rfl (by kernel_rfl)) ?_; clear HF; intro a HF
    refine from_pures HF 1 2 (j := 3) [(131, .int .i64 0)] (by kernel_rfl) rfl ?_; clear HF; intro a HF
    refine from_done rfl ?_
    replace HF := HF.sub (σ' := [(131, .int .i64 0), (130, .int .i64 ((rs.length : Nat) : Int)), (120, .bool false), (119, .int .i64 (k : Int)), (118, .int .i64 (((writeOut b es).length : Nat) : Int)), (116, .bool false), (13, .slice A64 rs.length c64), (9, .slice A44 ((writeOut b es).length) c44), (3, .slice A24 n c24), (4, .slice A27 n2 c27), (2, .bool false), (1, .pointer (some ⟨g1, 0, none⟩))]) (by kernel_rfl)
    refine wp_block ?_
    refine loop_nat (fun mS aS wS => ∃ (j : Nat) (qs : List Ev), (j ≤ rs.length) ∧ (qs.length = rs.length) ∧ mS = rs.length - j ∧ Fr aS 150 [] [(131, .int .i64 (j : Int)), (130, .int .i64 ((rs.length : Nat) : Int)), (120, .bool false), (119, .int .i64 (k : Int)), (118, .int .i64 (((writeOut b es).length : Nat) : Int)), (116, .bool false), (13, .slice A64 rs.length c64), (9, .slice A44 ((writeOut b es).length) c44), (3, .slice A24 n c24), (4, .slice A27 n2 c27), (2, .bool false), (1, .pointer (some ⟨g1, 0, none⟩))] ∧ Mem w wS [.row (.slice A64 rs.length c64) rs.length (qs.flatMap evL) 37 11, .row (.slice A44 ((writeOut b es).length) c44) ((writeOut b es).length) (zs.map B8) 5 1, .row (.slice A27 (n2 + 12) c27) (n2 + 12) ((l ++ marks 12).map B8) 5 1, .row (.slice A24 n c24) n (es.flatMap evL) 37 11, .blk g1 (rowsCells b A n c cpu m A2 n2 c2) 27]) (m := rs.length - 0) ⟨0, rs, Nat.zero_le _, rfl, rfl, HF.sub (by kernel_rfl), HM.picks [0, 1, 2, 3, 4] (by decide) rfl⟩ ?_
    clear HF HM; rintro mS a w_ ⟨j, qs, hj, hqs, rfl, HF, HM⟩
    refine wp_seq ?_
    refine from_start ?_
    refine from_pures HF 1 0 (j := 1) [(132, .bool (decide (((j : Int) : Int) < (((rs.length : Nat) : Int) : Int))))] (by kernel_rfl) rfl ?_; clear HF; intro a HF
    refine from_done rfl ?_
    refine wp_seq ?_
    rcases Bool.eq_false_or_eq_true (decide (((j : Int) : Int) < (((rs.length : Nat) : Int) : Int))) with hb132 | hb132
    · have HF := HF.as (t := 132) (u := .bool true) rfl (by rw [hb132])
      have hj132 : j < rs.length := by have := of_decide_eq_true hb132; omega
      obtain ⟨q, hq1⟩ : ∃ q, qs[j]? = some q := ⟨_, List.getElem?_eq_getElem (by omega)⟩
      refine cond_true HF rfl ?_
      refine wp_skip ?_
      refine wp_seq ?_
      refine wp_block ?_
      refine wp_seq ?_
      refine from_start ?_
      refine from_pures HF 2 0 (j := 2) [(20, .int .i64 (j : Int)), (133, .int .i64 (j : Int))] (by kernel_rfl) rfl ?_; clear HF; intro a HF
      refine from_done rfl ?_
      replace HF := HF.sub (σ' := [(20, .int .i64 (j : Int)), (132, .bool true), (131, .int .i64 (j : Int)), (130, .int .i64 ((rs.length : Nat) : Int)), (120, .bool false), (119, .int .i64 (k : Int)), (118, .int .i64 (((writeOut b es).length : Nat) : Int)), (116, .bool false), (13, .slice A64 rs.length c64), (9, .slice A44 ((writeOut b es).length) c44), (3, .slice A24 n c24), (4, .slice A27 n2 c27), (2, .bool false), (1, .pointer (some ⟨g1, 0, none⟩))]) (by kernel_rfl)
      refine from_start ?_
      refine from_pures HF 2 0 (j := 2) [(135, .int .i64 (j : Int)), (134, .slice A64 rs.length c64)] (by kernel_rfl) rfl ?_; clear HF; intro a HF
      obtain ⟨gA64, rfl⟩ := own_some (HM.own (i := 0) rfl) (Nat.lt_of_le_of_lt (Nat.zero_le _) (show j < rs.length from hj132))
      refine from_yl (S := fun wS => Mem w wS _) HF HM (i := 2) rfl rfl (d := 136) rfl (by decide) (v := .pointer (some ⟨gA64, j * 11, none⟩)) ((Yl.indexAddr (ad := ⟨gA64, 0, none⟩) (y := j) (sz := 11) rfl rfl rfl (hj132) (by kernel_rfl)).as (by rw [Addr.add_mid, Nat.zero_add])) ?_; clear HF; intro a HF
      refine from_pures HF 1 3 (j := 4) [(137, .pointer (some ⟨gA64, j * 11, none⟩))] (by kernel_rfl) rfl ?_; clear HF; intro a HF
      refine from_op HF (i := 4) rfl rfl ?_
      refine e_storeRow HF HM (i := 0) rfl rfl rfl rfl (by kernel_rfl) rfl rfl (by simp only [flat_len evL 11 evL_len]; omega) ?_
      clear HM; intro w18_4 HM
      replace HM := HM.asRow (i := 0) (ys := (qs.set j { q with seq := -1 }).flatMap evL) rfl (putAt_cell0 evL 11 evL_len qs j q { q with seq := -1 } hq1 (by decide) _ rfl)
      refine from_done rfl ?_
      replace HF := HF.sub (σ' := [(20, .int .i64 (j : Int)), (132, .bool true), (131, .int .i64 (j : Int)), (130, .int .i64 ((rs.length : Nat) : Int)), (120, .bool false), (119, .int .i64 (k : Int)), (118, .int .i64 (((writeOut b es).length : Nat) : Int)), (116, .bool false), (13, .slice (some ⟨gA64, 0, none⟩) rs.length c64), (9, .slice A44 ((writeOut b es).length) c44), (3, .slice A24 n c24), (4, .slice A27 n2 c27), (2, .bool false), (1, .pointer (some ⟨g1, 0, none⟩))]) (by kernel_rfl)
      refine from_start ?_
      refine from_pures HF 1 0 (j := 1) [(138, .int .i64 (IntKind.i64.wrap ((j : Int) + 1)))] (by kernel_rfl) rfl ?_; clear HF; intro a HF
      replace HF := HF.as (t := 138) (u := .int .i64 ((j + 1 : Nat) : Int)) rfl (by rw [IntWalk.i64_in _ (by omega)]; simp)
      refine from_pures HF 1 1 (j := 2) [(131, .int .i64 ((j + 1 : Nat) : Int))] (by kernel_rfl) rfl ?_; clear HF; intro a HF
      refine from_done rfl ?_
      replace HF := HF.sub (σ' := [(131, .int .i64 ((j + 1 : Nat) : Int)), (20, .int .i64 (j : Int)), (132, .bool true), (130, .int .i64 ((rs.length : Nat) : Int)), (120, .bool false), (119, .int .i64 (k : Int)), (118, .int .i64 (((writeOut b es).length : Nat) : Int)), (116, .bool false), (13, .slice (some ⟨gA64, 0, none⟩) rs.length c64), (9, .slice A44 ((writeOut b es).length) c44), (3, .slice A24 n c24), (4, .slice A27 n2 c27), (2, .bool false), (1, .pointer (some ⟨g1, 0, none⟩))]) (by kernel_rfl)
      exact ⟨_, (by omega), j + 1, qs.set j { q with seq := -1 }, hj132, (by rw [List.length_set]; exact hqs), rfl, HF.sub (by kernel_rfl), HM.picks [0, 1, 2, 3, 4] (by decide) rfl⟩
    · have HF := HF.as (t := 132) (u := .bool false) rfl (by rw [hb132])
      refine cond_false HF rfl ?_
      refine wp_exit ?_
      refine wp_seq ?_
      refine from_start ?_
      refine from_pures HF 2 0 (j := 2) [(140, .pointer (some ⟨g1, 2, none⟩)), (139, .slice A24 n c24)] (by kernel_rfl) rfl ?_; clear HF; intro a HF
      refine from_yl (S := fun wS => Mem w wS _) HF HM (i := 2) rfl rfl (d := 141) rfl (by decide) (v := .slice A n c) (Yl.load1 rfl rfl (by kernel_rfl) (fun _ h => h.cell (i := 4) rfl rfl)) ?_; clear HF; intro a HF
      refine from_op HF (i := 3) rfl rfl ?_
      refine e_call HF (vs := [.slice A n c]) rfl (by kernel_rfl) (by kernel_rfl) rfl (by decide) (turned_is _ n _ es _ (HM.old hr) (by omega) hln) ?_
      rintro _ w142 ⟨⟨A142, c142, rfl, ho, hc142⟩, hbw⟩
      refine ⟨_, rfl, ?_⟩
      replace HM := HM.callRow hbw ho
      clear HF; intro a HF
      refine from_op HF (i := 4) rfl rfl ?_
      refine e_call HF (vs := [.slice A24 n c24, .slice A142 n c142]) rfl (by kernel_rfl) (by kernel_rfl) rfl (by decide) (same_any _ _ n _ _ es _ (HM.rd (i := 4) rfl) (HM.rd (i := 0) rfl) (by omega) hln) ?_
      rintro _ w143 ⟨rfl, hbw⟩
      refine ⟨_, rfl, ?_⟩
      replace HM := HM.call hbw
      clear HF; intro a HF
      refine from_pures HF 3 5 (j := 8) [(146, .pointer (some ⟨g1, 5, none⟩)), (145, .slice A27 n2 c27), (144, .bool true)] (by kernel_rfl) rfl ?_; clear HF; intro a HF
      refine from_yl (S := fun wS => Mem w wS _) HF HM (i := 8) rfl rfl (d := 147) rfl (by decide) (v := .slice A2 n2 c2) (Yl.load1 rfl rfl (by kernel_rfl) (fun _ h => h.cell (i := 5) rfl rfl)) ?_; clear HF; intro a HF
      refine from_op HF (i := 9) rfl rfl ?_
      refine e_call HF (vs := [.slice A27 n2 c27, .slice A2 n2 c2]) rfl (by kernel_rfl) (by kernel_rfl) rfl (by decide) (kept_any _ _ n2 _ _ l _ (HM.rd (i := 3) rfl) hc27 (HM.old hr2) (by omega) hln2) ?_
      rintro _ w148 ⟨rfl, hbw⟩
      refine ⟨_, rfl, ?_⟩
      replace HM := HM.call hbw
      clear HF; intro a HF
      refine from_pures HF 2 10 (j := 12) [(2, .bool true), (149, .bool true)] (by kernel_rfl) rfl ?_; clear HF; intro a HF
      refine from_done rfl ?_
      replace HF := HF.sub (σ' := [(2, .bool true), (132, .bool false), (131, .int .i64 (j : Int)), (130, .int .i64 ((rs.length : Nat) : Int)), (120, .bool false), (119, .int .i64 (k : Int)), (118, .int .i64 (((writeOut b es).length : Nat) : Int)), (116, .bool false), (13, .slice A64 rs.length c64), (9, .slice A44 ((writeOut b es).length) c44), (3, .slice A24 n c24), (4, .slice A27 n2 c27), (1, .pointer (some ⟨g1, 0, none⟩))]) (by kernel_rfl)
      replace HM := HM.picks (fs' := [.row (.slice A64 rs.length c64) rs.length (qs.flatMap evL) 37 11, .row (.slice A44 ((writeOut b es).length) c44) ((writeOut b es).length) (zs.map B8) 5 1, .row (.slice A27 (n2 + 12) c27) (n2 + 12) ((l ++ marks 12).map B8) 5 1, .row (.slice A24 n c24) n (es.flatMap evL) 37 11, .blk g1 (rowsCells b A n c cpu m A2 n2 c2) 27]) [1, 2, 3, 4, 5] (by decide) rfl
      refine wp_ret ?_
      exact ret1 rfl HF (.tmp HF rfl) (⟨rfl, HM.below⟩)
end Go.Proofs.YtpekelggcmgnnaaDoor

/- quantumlaw07.CodecRows answers true. -/
set_option linter.all false
namespace Go.Proofs.YtpekelggcmgnnaaDoor
open Go.RowKit
theorem rows_any (b : Bs) (A : Option Addr) (n c cpu : Nat) (m : Int) (A2 : Option Addr) (n2 c2 : Nat) (es : List Ev) (l : List Nat) (hcpu : cpu < 256) (hm : I64 m) (hok : ∀ x ∈ es, x.Ok) (hc2 : n2 ≤ c2) (hl : ∀ b ∈ l, b < 256) (hn : n ≤ 1000000) (hn2 : n2 ≤ 1000000)
    (B : Nat) (w : World) (hL : Laid B w) (hB : B ≤ w.heap.size) (hr : Rd w w.heap.size 11 A n (es.flatMap evL)) (hr2 : Rd w w.heap.size 1 A2 n2 (l.map B8)) :
    Calls Tryd.prog 11 #[.agg (rowsCells b A n c cpu m A2 n2 c2)] w (BoolPost w true) :=
  rows_walk b A n c cpu m A2 n2 c2 es l hcpu hm hok hc2 hl _ _ rfl _ _ _ rfl (readR_most (b := b) (cpu := cpu) (m := m) rfl) (writeOut_most b es) (by have := hr.len; rw [flat_len evL 11 evL_len] at this; omega) (by simpa using hr2.len) hn hn2 B w hL hB hr hr2
set_option maxRecDepth 100000 in
set_option maxHeartbeats 4000000 in
theorem codecRows_any (b : Bs) (A : Option Addr) (n c cpu : Nat) (m : Int) (A2 : Option Addr) (n2 c2 : Nat) (es : List Ev) (l : List Nat) (hcpu : cpu < 256) (hm : I64 m) (hok : ∀ x ∈ es, x.Ok) (hc2 : n2 ≤ c2) (hl : ∀ b ∈ l, b < 256)
    (B : Nat) (w : World) (hL : Laid B w) (hB : B ≤ w.heap.size) (hr : Rd w w.heap.size 11 A n (es.flatMap evL)) (hr2 : Rd w w.heap.size 1 A2 n2 (l.map B8)) :
    Calls Tryd.prog 3 #[.agg (rowsCells b A n c cpu m A2 n2 c2)] w (TruePost w) := by
  refine calls_enter (vs := [.agg (rowsCells b A n c cpu m A2 n2 c2)]) Tryd.func3 rfl rfl (by kernel_rfl) (σ0 := [(0, .agg (rowsCells b A n c cpu m A2 n2 c2))]) rfl ?_
  intro a HF
  have HM := Mem.start w
  refine wp_seq ?_
  refine from_start ?_
  refine from_op HF (i := 0) rfl rfl ?_
  refine e_box HF HM (cs := (rowsCells b A n c cpu m A2 n2 c2)) rfl rfl rfl rfl (by decide) ?_
  clear HF HM; intro a w1 g1 HF HM
  refine from_pures HF 1 1 (j := 2) [(2, .bool false)] (by kernel_rfl) rfl ?_; clear HF; intro a HF
  refine from_done rfl ?_
  replace HF := HF.sub (σ' := [(2, .bool false), (1, .pointer (some ⟨g1, 0, none⟩))]) (by kernel_rfl)
  refine wp_seq ?_
  refine from_start ?_
  refine from_pures HF 1 0 (j := 1) [(3, .pointer (some ⟨g1, 2, none⟩))] (by kernel_rfl) rfl ?_; clear HF; intro a HF
  refine from_yl (S := fun wS => Mem w wS _) HF HM (i := 1) rfl rfl (d := 4) rfl (by decide) (v := .slice A n c) (Yl.load1 rfl rfl (by kernel_rfl) (fun _ h => h.cell (i := 0) rfl rfl)) ?_; clear HF; intro a HF
  refine from_yl (S := fun wS => Mem w wS _) HF HM (i := 2) rfl rfl (d := 5) rfl (by decide) (v := .int .i64 ((n : Nat) : Int)) (Yl.len rfl rfl (by kernel_rfl)) ?_; clear HF; intro a HF
  refine from_pures HF 2 3 (j := 5) [(7, .bool (decide ((((n : Nat) : Int) : Int) > (100 : Int)))), (6, .bool (decide ((((n : Nat) : Int) : Int) > (100 : Int))))] (by kernel_rfl) rfl ?_; clear HF; intro a HF
  rcases Bool.eq_false_or_eq_true (decide ((((n : Nat) : Int) : Int) > (100 : Int))) with hb7 | hb7
  · have HF := HF.as (t := 7) (u := .bool true) rfl (by rw [hb7])
    have hsz7 := of_decide_eq_true hb7
    refine from_pures HF 10 5 (j := 15) [(17, .bool true), (16, .bool true), (15, undef), (14, undef), (13, .bool true), (12, .bool true), (11, undef), (10, undef), (9, undef), (8, undef)] (by kernel_rfl) rfl ?_; clear HF; intro a HF
    refine from_op HF (i := 15) rfl rfl ?_
    refine e_call HF (vs := []) rfl (by kernel_rfl) (by kernel_rfl) rfl (by decide) (awake_any B _ (hL.mem HM hB) (HM.le hB)) ?_
    rintro _ w18 ⟨rfl, hbw⟩
    refine ⟨_, rfl, ?_⟩
    replace HM := HM.call hbw
    clear HF; intro a HF
    refine from_pures HF 2 16 (j := 18) [(2, .bool true), (19, .bool true)] (by kernel_rfl) rfl ?_; clear HF; intro a HF
    refine from_done rfl ?_
    replace HF := HF.sub (σ' := [(2, .bool true)]) (by kernel_rfl)
    replace HM := HM.picks (fs' := []) [] (by decide) rfl
    refine wp_ret ?_
    exact ret1 rfl HF (.tmp HF rfl) (⟨rfl, HM.below⟩)
  · have HF := HF.as (t := 7) (u := .bool false) rfl (by rw [hb7])
    have hsz7 := of_decide_eq_false hb7
    refine from_pures HF 1 5 (j := 6) [(8, .pointer (some ⟨g1, 5, none⟩))] (by kernel_rfl) rfl ?_; clear HF; intro a HF
    refine from_yl (S := fun wS => Mem w wS _) HF HM (i := 6) rfl rfl (d := 9) rfl (by decide) (v := .slice A2 n2 c2) (Yl.load1 rfl rfl (by kernel_rfl) (fun _ h => h.cell (i := 0) rfl rfl)) ?_; clear HF; intro a HF
    refine from_yl (S := fun wS => Mem w wS _) HF HM (i := 7) rfl rfl (d := 10) rfl (by decide) (v := .int .i64 ((n2 : Nat) : Int)) (Yl.len rfl rfl (by kernel_rfl)) ?_; clear HF; intro a HF
    refine from_pures HF 3 8 (j := 11) [(13, .bool (decide ((((n2 : Nat) : Int) : Int) > (2000 : Int)))), (12, .bool (decide ((((n2 : Nat) : Int) : Int) > (2000 : Int)))), (11, .bool (decide ((((n2 : Nat) : Int) : Int) > (2000 : Int))))] (by kernel_rfl) rfl ?_; clear HF; intro a HF
    rcases Bool.eq_false_or_eq_true (decide ((((n2 : Nat) : Int) : Int) > (2000 : Int))) with hb13 | hb13
    · have HF := HF.as (t := 13) (u := .bool true) rfl (by rw [hb13])
      have hsz13 := of_decide_eq_true hb13
      refine from_pures HF 4 11 (j := 15) [(17, .bool true), (16, .bool true), (15, undef), (14, undef)] (by kernel_rfl) rfl ?_; clear HF; intro a HF
      refine from_op HF (i := 15) rfl rfl ?_
      refine e_call HF (vs := []) rfl (by kernel_rfl) (by kernel_rfl) rfl (by decide) (awake_any B _ (hL.mem HM hB) (HM.le hB)) ?_
      rintro _ w18 ⟨rfl, hbw⟩
      refine ⟨_, rfl, ?_⟩
      replace HM := HM.call hbw
      clear HF; intro a HF
      refine from_pures HF 2 16 (j := 18) [(2, .bool true), (19, .bool true)] (by kernel_rfl) rfl ?_; clear HF; intro a HF
      refine from_done rfl ?_
      replace HF := HF.sub (σ' := [(2, .bool true)]) (by kernel_rfl)
      replace HM := HM.picks (fs' := []) [] (by decide) rfl
      refine wp_ret ?_
      exact ret1 rfl HF (.tmp HF rfl) (⟨rfl, HM.below⟩)
    · have HF := HF.as (t := 13) (u := .bool false) rfl (by rw [hb13])
      have hsz13 := of_decide_eq_false hb13
      refine from_yl (S := fun wS => Mem w wS _) HF HM (i := 11) rfl rfl (d := 14) rfl (by decide) (v := .agg (rowsCells b A n c cpu m A2 n2 c2)) (Yl.loadS rfl rfl ⟨(by kernel_rfl), (by kernel_rfl)⟩ rfl (fun _ h => range_of_block (h.blk (i := 0) rfl))) ?_; clear HF; intro a HF
      refine from_op HF (i := 12) rfl rfl ?_
      refine e_call HF (vs := [.agg (rowsCells b A n c cpu m A2 n2 c2)]) rfl (by kernel_rfl) (by kernel_rfl) rfl (by decide) (rows_any b A n c cpu m A2 n2 c2 es l hcpu hm hok hc2 hl (by omega) (by omega) B _ (hL.mem HM hB) (HM.le hB) (HM.old hr) (HM.old hr2)) ?_
      rintro _ w15 ⟨rfl, hbw⟩
      refine ⟨_, rfl, ?_⟩
      replace HM := HM.call hbw
      clear HF; intro a HF
      refine from_pures HF 2 13 (j := 15) [(17, .bool true), (16, .bool true)] (by kernel_rfl) rfl ?_; clear HF; intro a HF
      refine from_op HF (i := 15) rfl rfl ?_
      refine e_call HF (vs := []) rfl (by kernel_rfl) (by kernel_rfl) rfl (by decide) (awake_any B _ (hL.mem HM hB) (HM.le hB)) ?_
      rintro _ w18 ⟨rfl, hbw⟩
      refine ⟨_, rfl, ?_⟩
      replace HM := HM.call hbw
      clear HF; intro a HF
      refine from_pures HF 2 16 (j := 18) [(2, .bool true), (19, .bool true)] (by kernel_rfl) rfl ?_; clear HF; intro a HF
      refine from_done rfl ?_
      replace HF := HF.sub (σ' := [(2, .bool true)]) (by kernel_rfl)
      replace HM := HM.picks (fs' := []) [] (by decide) rfl
      refine wp_ret ?_
      exact ret1 rfl HF (.tmp HF rfl) (⟨rfl, HM.below⟩)
end Go.Proofs.YtpekelggcmgnnaaDoor

