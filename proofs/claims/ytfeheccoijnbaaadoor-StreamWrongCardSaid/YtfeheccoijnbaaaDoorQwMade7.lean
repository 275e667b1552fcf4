/- A part of the proof. -/
import Derived.Test.YtfeheccoijnbaaaDoorQwSmall
import Derived.Test.YtfeheccoijnbaaaDoorQwCodR
import Derived.Deep.CutRange
namespace Go.Proofs.YtfeheccoijnbaaaDoor
open Go.RowKit
theorem qki {α : Type} (f : α → List Value) (sz : Nat) (hf : ∀ x, (f x).length = sz) : ∀ (l : List α) (k : Nat), (l.flatMap f).take (k * sz) = (l.take k).flatMap f
 | [], _ => by simp
 | _ :: _, 0 => by simp
 | x :: l, k + 1 => by
  rw [List.flatMap_cons, List.take_succ_cons, List.flatMap_cons, List.take_append, List.take_of_length_le (by rw [hf, Nat.succ_mul]; omega), hf, ← qki f sz hf l k]
  congr 2
  rw [Nat.succ_mul]; omega
def smL (x : Sm) : List Value := x.cells.toList
theorem qiv (x : Sm) : (smL x).length = 11 := rfl
theorem si_sm : SI Tryd.prog 124 11 := ⟨by kernel_rfl, by kernel_rfl⟩
theorem qh1 (x : Sm) : x.cells.size = 11 := rfl
theorem qv5 (x : Sm) : ∀ v ∈ x.cells.toList, v.oneCell' = true := by intro v hv; simp [Sm.cells] at hv; rcases hv with rfl | rfl | rfl | rfl | rfl | rfl | rfl | rfl | rfl | rfl | rfl <;> rfl
structure RowsPost (w : World) (es : List Ev) (r : Ending) (w' : World) : Prop where
 ret : ∃ v, r = .returned v ∧ w'.ownsRow w.heap.size 45 11 v es.length (es.flatMap evL)
 below : Below w.heap.size w w'
theorem qkj {w W : World} {B g gy ge : Nat} {c0 c1 : Value} {tb : TypeId} {Oy Oe : Obj} (hB : Below B w W) (hBW : B ≤ W.heap.size) (hg : B ≤ g) (hbg : W.heap[g]? = some (.cells #[c0, c1] tb (0, 0))) (hby : W.heap[gy]? = some Oy) (hbe : W.heap[ge]? = some Oe) (hn1 : gy ≠ g) (hn2 : ge ≠ g) (o : Nat) (v : Value) (O : Obj) :
  (((W.setCell ⟨g, o, none⟩ v).alloc O).drew).heap[g]? = some (.cells (#[c0, c1].setIfInBounds o v) tb (0, 0)) ∧ (((W.setCell ⟨g, o, none⟩ v).alloc O).drew).heap[gy]? = some Oy ∧ (((W.setCell ⟨g, o, none⟩ v).alloc O).drew).heap[ge]? = some Oe ∧ Below B w (((W.setCell ⟨g, o, none⟩ v).alloc O).drew) ∧ W.heap.size + 1 ≤ (((W.setCell ⟨g, o, none⟩ v).alloc O).drew).heap.size ∧ W.grownBy (((W.setCell ⟨g, o, none⟩ v).alloc O).drew) (some g) := by
 have hs : (W.setCell ⟨g, o, none⟩ v).heap.size = W.heap.size := by simp [World.setCell]
 have h1 : ∀ k, k < W.heap.size → (((W.setCell ⟨g, o, none⟩ v).alloc O).drew).heap[k]? = (W.setCell ⟨g, o, none⟩ v).heap[k]? := fun k hk => Below.heap_alloc _ _ _ (by rw [hs]; exact hk)
 refine ⟨(h1 g (zf hbg)).trans ?_, (h1 gy (zf hby)).trans ((Below.heap_setCell _ _ _ _ hn1).trans hby), (h1 ge (zf hbe)).trans ((Below.heap_setCell _ _ _ _ hn2).trans hbe), ?_, ?_, ?_⟩
 ·simp [World.setCell, Array.getElem?_modify, hbg]
 ·exact ((hB.setCell hg _).alloc (by rw [hs]; exact hBW) _).drew
 ·show _ ≤ ((W.setCell ⟨g, o, none⟩ v).alloc O).heap.size
  rw [World.size_alloc, hs]; omega
 ·refine ⟨rfl, rfl, rfl, ?_, fun k hk hn => ?_⟩
  ·show W.heap.size ≤ ((W.setCell ⟨g, o, none⟩ v).alloc O).heap.size
   rw [World.size_alloc, hs]; omega
  ·exact (h1 k hk).trans (Below.heap_setCell _ _ _ _ (fun e => hn (by rw [e])))
theorem qnp {w W : World} {B g ge : Nat} {e : Ev} {te : TypeId} {Og : Obj} (hB : Below B w W) (hge : B ≤ ge) (hbg : W.heap[g]? = some Og) (hbe : W.heap[ge]? = some (.cells e.cells te (0, 0))) (hn : g ≠ ge) (s t : Int) (W' : World)
  (hW : W' = ((W.setCell ⟨ge, 0, none⟩ (.int .i64 s)).setCell ⟨ge, 1, none⟩ (.int .i64 t)).drew ∨ W' = ((W.setCell ⟨ge, 1, none⟩ (.int .i64 t)).setCell ⟨ge, 0, none⟩ (.int .i64 s)).drew) :
  W'.heap[g]? = some Og ∧ W'.heap[ge]? = some (.cells (e.moved s t).cells te (0, 0)) ∧ Below B w W' ∧ W.grownBy W' (some ge) := by
 have key : ∀ (i j : Nat) (u v : Value), ((e.cells.setIfInBounds i u).setIfInBounds j v) = (e.moved s t).cells →
   (((W.setCell ⟨ge, i, none⟩ u).setCell ⟨ge, j, none⟩ v).drew).heap[g]? = some Og ∧ (((W.setCell ⟨ge, i, none⟩ u).setCell ⟨ge, j, none⟩ v).drew).heap[ge]? = some (.cells (e.moved s t).cells te (0, 0)) ∧ Below B w (((W.setCell ⟨ge, i, none⟩ u).setCell ⟨ge, j, none⟩ v).drew) ∧ W.grownBy (((W.setCell ⟨ge, i, none⟩ u).setCell ⟨ge, j, none⟩ v).drew) (some ge) := by
  intro i j u v h
  have hsame : (((W.setCell ⟨ge, i, none⟩ u).setCell ⟨ge, j, none⟩ v).drew).heap[ge]? = some (.cells (e.moved s t).cells te (0, 0)) := by
   rw [← h]; simp [World.setCell, World.drew, Array.getElem?_modify, hbe]
  refine ⟨?_, hsame, ((hB.setCell hge _).setCell hge _).drew, ⟨rfl, rfl, rfl, by simp [World.setCell, World.drew], fun k hk hnk => ?_⟩⟩
  ·exact (Below.heap_setCell _ _ _ _ hn).trans ((Below.heap_setCell _ _ _ _ hn).trans hbg)
  ·exact (Below.heap_setCell _ _ _ _ (fun e => hnk (by rw [e]))).trans (Below.heap_setCell _ _ _ _ (fun e => hnk (by rw [e])))
 rcases hW with rfl | rfl
 ·exact key 0 1 _ _ rfl
 ·exact key 1 0 _ _ rfl
theorem Rd.qvd (w : World) (cs : List Value) (t : TypeId) (sz b : Nat) (hb : w.heap.size = b) (hs : cs.length = sz) : Rd (w.alloc (.cells cs.toArray t)).drew (b + 1) sz (some ⟨b, 0, none⟩) 1 cs := by subst hb; exact Rd.block w cs t sz hs
theorem qu0 {cpu : Nat} {x y : Sm} {a : Bs} {z : Ev} {S1 R1 S2 R2 : Nat} (hyx : ({ x with cpu := cpu } : Sm) = y) (h1 : stepS x.kind = S1) (h2 : x.seq % S1 = R1) (h3 : stepT x.kind = S2) (h4 : x.time % S2 = R2) (hz : y.ev.moved (a.seq + (1 + (R1 : Int))) (a.time + (R2 : Int)) = z) (r : List Sm) :
  qbx cpu a (x :: r) = z :: qbx cpu ⟨a.seq + (1 + (R1 : Int)), a.time + (R2 : Int)⟩ r := by
 subst hyx h1 h2 h3 h4 hz
 rw [qbx]
 have hs : a.step x = ⟨a.seq + (1 + ((x.seq % stepS x.kind : Nat) : Int)), a.time + ((x.time % stepT x.kind : Nat) : Int)⟩ := by
  unfold Bs.step
  simp
 rw [hs]
theorem qnq {X : World} {base : Nat} {e : TypeId} {size : Nat} {v : Value} {n : Nat} {xs : List Value} (h : X.drew.ownsRow base e size v n xs) : X.ownsRow base e size v n xs := h
theorem qqq (W : World) (p q : Addr) (u v : Value) : ((W.setCell p u).setCell q v).heap.size = W.heap.size := by simp [World.setCell]
def qmm (w : World) (g : Nat) (cpu : Nat) (b : Bs) (l : List Sm) (m : Nat) (v i : Value) (wr : World) : Prop :=
 ∃ (k : Nat) (pre : List Ev) (a : Bs), k ≤ m ∧ i = .int .i64 (k : Int) ∧ qbx cpu b.start l = pre ++ qbx cpu a (l.drop k) ∧ pre.length = k ∧
  wr.ownsRow w.heap.size 45 11 v k (pre.flatMap evL) ∧ (∀ h, v.ownBlock = some h → h ≠ g) ∧
  wr.heap[g]? = some (.cells a.cells 26 (0, 0)) ∧
  0 ≤ a.seq ∧ a.seq ≤ 1099511627776 + 4294967296 * (k : Int) ∧ 0 ≤ a.time ∧ a.time ≤ 1099511627776 + 4294967296 * (k : Int) ∧ Below w.heap.size w wr
theorem qnr {w X : World} {B g : Nat} {Og : Obj} (hg : X.drew.heap[g]? = some Og) (hB : Below B w X.drew) (hBX : B ≤ X.heap.size) (O : Obj) :
  B ≤ ((X.alloc O).drew).heap.size ∧ g < ((X.alloc O).drew).heap.size ∧ ((X.alloc O).drew).heap[g]? = some Og ∧ Below B w ((X.alloc O).drew) := by
 have hs : ((X.alloc O).drew).heap.size = X.heap.size + 1 := by show (X.alloc O).heap.size = _; rw [World.size_alloc]
 have hl : g < X.heap.size := zf (show X.heap[g]? = some Og from hg)
 have hB' : Below B w X := ⟨hB.os, hB.tape, hB.output, hB.size, hB.block⟩
 exact ⟨by omega, by omega, (Below.heap_alloc X O g hl).trans hg, (hB'.alloc hBX O).drew⟩
theorem qns {w Wx w5 : World} {g cpu M k : Nat} {b a a' : Bs} {l : List Sm} {x : Sm} {pre : List Ev} {z : Ev} {A1 A2 : Option Addr} {c1 c2 : Nat}
  (hlt : k < M) (hsp : qbx cpu b.start l = pre ++ qbx cpu a (l.drop k)) (hdr : l.drop k = x :: l.drop (k + 1)) (hst : qbx cpu a (x :: l.drop (k + 1)) = z :: qbx cpu a' (l.drop (k + 1))) (hpl : pre.length = k)
  (hne : ∀ h, (Value.slice A1 k c1).ownBlock = some h → h ≠ g) (hbase : ∀ h, (Value.slice A1 k c1).ownBlock = some h → w.heap.size ≤ h)
  (hf : w.heap.size ≤ Wx.heap.size ∧ g < Wx.heap.size ∧ Wx.heap[g]? = some (.cells a'.cells 26 (0, 0)) ∧ Below w.heap.size w Wx)
  (hown5 : w5.ownsRow w.heap.size 45 11 (.slice A2 (k + 1) c2) (k + 1) (pre.flatMap evL ++ evL z)) (hgr5 : Wx.grownBy w5 (Value.slice A1 k c1).ownBlock)
  (hbl5 : (Value.slice A2 (k + 1) c2).ownBlock = (Value.slice A1 k c1).ownBlock ∨ (Value.slice A2 (k + 1) c2).ownBlock = some Wx.heap.size)
  (ha1 : 0 ≤ a'.seq) (ha2 : a'.seq ≤ 1099511627776 + 4294967296 * ((k : Int) + 1)) (ha3 : 0 ≤ a'.time) (ha4 : a'.time ≤ 1099511627776 + 4294967296 * ((k : Int) + 1)) :
  qmm w g cpu b l M (.slice A2 (k + 1) c2) (.int .i64 ((k : Int) + 1)) w5 := by
 obtain ⟨f1, f2, f3, f4⟩ := hf
 refine ⟨k + 1, pre ++ [z], a', by omega, by go_num, ?_, by simp [hpl], ?_, ?_, ?_, ha1, by omega, ha3, by omega, ?_⟩
 ·rw [hsp, hdr, hst, List.append_assoc]; rfl
 ·rw [List.flatMap_append]; simpa using hown5
 ·intro h hh
  rcases hbl5 with h1 | h1
  ·exact hne h (h1.symm.trans hh)
  ·have h3 := h1.symm.trans hh
   injection h3 with h3
   omega
 ·exact (hgr5.block g f2 (fun e => hne g e.symm rfl)).trans f3
 ·exact f4.grown hgr5 f1 hbase
set_option maxRecDepth 100000 in
set_option maxHeartbeats 4000000 in
theorem qqr (cpu : Nat) (hcpu : cpu < 256) (b : Bs) (hb : b.Ok) (A : Option Addr) (n c : Nat) (l : List Sm) (hl : ∀ x ∈ l, x.Ok) (w : World) (hr : Rd w w.heap.size 11 A n (l.flatMap smL)) (hc : n ≤ c) (hn : n ≤ 9223372036854775807) :
  Calls Tryd.prog 33 #[.int .u8 (cpu : Int), .agg b.cells, .slice A n c] w (RowsPost w (madeL cpu b l)) := by
 have hlen : l.length = n := by have := hr.len; rw [zw smL 11 qiv] at this; omega
 obtain ⟨_, hs1, hs2, ht1, ht2⟩ := qgp b
 obtain ⟨s, hs⟩ : ∃ s, b.based.seq = s := ⟨_, rfl⟩
 obtain ⟨t, ht⟩ : ∃ t, b.based.time = t := ⟨_, rfl⟩
 have hbc : b.based.cells = #[.int .i64 s, .int .i64 t] := by rw [← hs, ← ht]; rfl
 have HST := hide (show b.start = ⟨s - 1, t⟩ by rw [← hs, ← ht]; rfl)
 have HBA := hide (fun W => (qqo b hb W).mono (R' := fun r w' => r = .returned (.agg #[.int .i64 s, .int .i64 t]) ∧ Below W.heap.size W w') fun r w' h => ⟨by rw [h.ret, hbc], h.below⟩)
 rw [hs] at hs1 hs2
 rw [ht] at ht1 ht2
 have HX := hide (qd (World.alloc_heap_new w (.cells b.cells 26)))
 have HB2 := hide (zq b)
 have hb1 : Below w.heap.size w (w.alloc (.cells b.cells 26)) := (Below.refl _ _).alloc (Nat.le_refl _) _
 have HLN := hide hlen
 obtain ⟨M, hM⟩ : ∃ M, min n 200 = M := ⟨_, rfl⟩
 have hM1 : M ≤ n := by omega
 have hM2 : M ≤ 200 := by omega
 have hm1 : min (n : Int) 200 = (M : Int) := by omega
 have hm2 : (if (n : Int) ≤ 200 then (n : Int) else 200) = (M : Int) := by split <;> omega
 have hm3 : (if (n : Int) < 200 then (n : Int) else 200) = (M : Int) := by split <;> omega
 have hm4 : (if (200 : Int) < (n : Int) then (200 : Int) else (n : Int)) = (M : Int) := by split <;> omega
 have HM := hide hM
 clear hM
 have hnl : 0 ≤ (n : Int) := by omega
 clear hs ht hbc hlen
 generalize b.cells = ds at *
 go_enter Tryd.func33, Tryd.ntmps33
 go_wp2_with (first
  | (with_reducible refine zd HX.out rfl rfl rfl si_bs HB2.out ?_)
  | (go_at_call 53; refine (HBA.out _).mono ?_; rintro r w1 ⟨rfl, hb2⟩))
 clear hm1 hm2 hm3 hm4
 have hb3 : Below w.heap.size w w1 := hb1.trans (hb2.mono (by simp))
 have hg : w.heap.size < w1.heap.size := by have := hb2.size; simp at this; omega
 have HRT := hr.upto (k := M) (by omega)
 rw [qki smL 11 qiv] at HRT
 have HRT := hide HRT
 go_loopw [8, 24] (qmm w w1.heap.size cpu b (l.take M) M) (fun _ i _ => M - (intOf i).toNat)
 case atStart =>
  refine ⟨0, [], ⟨s - 1, t⟩, by omega, rfl, by rw [HST.out]; rfl, rfl, World.ownsRow_nil _ _ _ _, (fun h hh => by cases hh), World.alloc_heap_new w1 _, ?_, ?_, ?_, ?_, hb3.alloc (by omega) _⟩
  all_goals simp; omega
 case round =>
  obtain ⟨k, pre, a, hk, rfl, hsp, hpl, hown, hne, hbx, ha1, ha2, ha3, ha4, hB⟩ := hrel
  have hkl : (l.take M).length = M := by rw [List.length_take, HLN.out]; omega
  have hz := hB.size
  obtain ⟨A1, c1, rfl⟩ := qam hown
  by_cases hlt : k < M
  ·have h0M : 0 < M := by omega
   obtain ⟨gA, oA, hA, hgb, _, hcells⟩ := (HRT.out.below hB).struct qiv (by omega) h0M
   subst hA
   have hE0 := hcells k (by omega)
   have hx := hl _ (List.mem_of_mem_take (List.getElem_mem (by omega : k < (l.take M).length)))
   have HDR := hide (List.drop_eq_getElem_cons (by omega : k < (l.take M).length))
   obtain ⟨x, hxe⟩ : ∃ x, (l.take M)[k] = x := ⟨_, rfl⟩
   rw [hxe] at hE0 hx HDR
   have hE := hide (show wr.rangeAt gA (oA + k * 11) x.cells.toList from hE0)
   obtain ⟨y, hyx⟩ : ∃ y : Sm, ({ x with cpu := cpu } : Sm) = y := ⟨_, rfl⟩
   have hy : y.Ok := by rw [← hyx]; exact ⟨hx.kind, hcpu, hx.seq, hx.time, hx.task, hx.group, hx.to, hx.weight, hx.ticks, hx.got, hx.mask⟩
   have HXC := hide (qh1 x)
   have HYC := hide (qh1 y)
   have HX1 := hide (qv5 x)
   have hS : x.cells.setIfInBounds 1 (.int .u8 (cpu : Int)) = y.cells := by rw [← hyx]; rfl
   have HSM := hide (fun W => (qqp y hy W).mono (R' := fun r w' => r = .returned (.agg y.ev.cells) ∧ Below W.heap.size W w') fun r w' h => ⟨h.ret, h.below⟩)
   have HEC := hide (qq y.ev)
   have HE1 := hide (zz y.ev)
   have p1 : x.cells[1]? = some (.int .u8 (x.cpu : Int)) := rfl
   have q0 : y.cells[0]? = some (.int .u8 (x.kind : Int)) := by rw [← hyx]; rfl
   have q2 : y.cells[2]? = some (.int .u32 (x.seq : Int)) := by rw [← hyx]; rfl
   have q3 : y.cells[3]? = some (.int .u32 (x.time : Int)) := by rw [← hyx]; rfl
   have HYX := hide hyx
   have HXO := hide hx
   clear hyx hx
   generalize hxs : x.cells = xs at *
   generalize hys : y.cells = ys at *
   generalize hes : y.ev.cells = es at *
   have HES := hide hes
   clear hcells hxe hE0 hxs hys hes
   go_wp2_with (first
    | (with_reducible refine zd hE.out rfl rfl rfl si_sm HXC.out ?_)
    | (refine qax rfl rfl rfl rfl si_sm rfl HXC.out HX1.out ?_)
    | (with_reducible refine zd (qd (World.alloc_heap_new wr (.cells ys 124))) rfl rfl rfl si_sm HYC.out ?_)
    | (go_at_call 54; refine (HSM.out _).mono ?_; rintro r w3 ⟨rfl, hb4⟩)
    | (refine qax rfl rfl rfl rfl si_ev rfl HEC.out HE1.out ?_))
   have z4 : wr.heap.size + 1 ≤ w3.heap.size := by have := hb4.size; simpa using this
   have hgr : w1.heap.size < wr.heap.size := zf hbx
   have hb5 : Below (wr.heap.size + 1) (wr.alloc (.cells ys 124)) (w3.alloc (.cells es 45)) := (hb4.mono (by simp)).alloc z4 _
   have hbg : (w3.alloc (.cells es 45)).heap[w1.heap.size]? = some (.cells a.cells 26 (0, 0)) := (hb5.block _ (by omega)).trans ((Below.heap_alloc _ _ _ hgr).trans hbx)
   have hby : (w3.alloc (.cells es 45)).heap[wr.heap.size]? = some (.cells ys 124 (0, 0)) := (hb5.block _ (by omega)).trans (World.alloc_heap_new wr _)
   have hbe : (w3.alloc (.cells es 45)).heap[w3.heap.size]? = some (.cells es 45 (0, 0)) := World.alloc_heap_new w3 _
   have hz2 : w3.heap.size < (w3.alloc (.cells es 45)).heap.size := by simp
   have hB2 : Below w.heap.size w (w3.alloc (.cells es 45)) := (hB.alloc hz _).trans (hb5.mono (by omega))
   obtain ⟨W2, hW2⟩ : ∃ W2, w3.alloc (.cells es 45) = W2 := ⟨_, rfl⟩
   rw [hW2] at hbg hby hbe hz2 hb5 hB2 ⊢
   have HW2 := hide hW2
   have g0 : W2.cell? ⟨w1.heap.size, 0, none⟩ = some (.int .i64 a.seq) := by simp [World.cell?, hbg, Bs.cells]
   have g1 : W2.cell? ⟨w1.heap.size, 1, none⟩ = some (.int .i64 a.time) := by simp [World.cell?, hbg, Bs.cells]
   have gf : ∀ o, W2.frozen? ⟨w1.heap.size, o, none⟩ = false := fun o => by simp [World.frozen?, hbg]
   have y0 : W2.cell? ⟨wr.heap.size, 0, none⟩ = some (.int .u8 (x.kind : Int)) := by simp [World.cell?, hby, q0]
   have y2 : W2.cell? ⟨wr.heap.size, 2, none⟩ = some (.int .u32 (x.seq : Int)) := by simp [World.cell?, hby, q2]
   have y3 : W2.cell? ⟨wr.heap.size, 3, none⟩ = some (.int .u32 (x.time : Int)) := by simp [World.cell?, hby, q3]
   have hk1 := HXO.out.kind
   have hk2 := HXO.out.seq
   have hk3 := HXO.out.time
   have z5 : w1.heap.size < w3.heap.size := by omega
   have z6 : wr.heap.size < W2.heap.size := by omega
   have z7 : w1.heap.size < W2.heap.size := by omega
   have g0' : ∀ o, (W2.alloc o).cell? ⟨w1.heap.size, 0, none⟩ = some (.int .i64 a.seq) := fun o => (World.cell?_alloc_lt W2 o ⟨w1.heap.size, 0, none⟩ z7).trans g0
   have gf' : ∀ o i, (W2.alloc o).frozen? ⟨w1.heap.size, i, none⟩ = false := fun o i => (World.frozen?_alloc_old W2 o ⟨w1.heap.size, i, none⟩ (Nat.ne_of_lt z7)).trans (gf i)
   have y0' : ∀ o, (W2.alloc o).cell? ⟨wr.heap.size, 0, none⟩ = some (.int .u8 (x.kind : Int)) := fun o => (World.cell?_alloc_lt W2 o ⟨wr.heap.size, 0, none⟩ z6).trans y0
   have y2' : ∀ o, (W2.alloc o).cell? ⟨wr.heap.size, 2, none⟩ = some (.int .u32 (x.seq : Int)) := fun o => (World.cell?_alloc_lt W2 o ⟨wr.heap.size, 2, none⟩ z6).trans y2
   obtain ⟨J, hJ⟩ : ∃ J, x.kind / 16 % 4 = J := ⟨_, rfl⟩
   obtain ⟨S1, hS1⟩ : ∃ J, stepS x.kind = J := ⟨_, rfl⟩
   obtain ⟨R1, hR1⟩ : ∃ J, x.seq % S1 = J := ⟨_, rfl⟩
   have hJ4 : J < 4 := by omega
   have hSJ : (#[.int .i64 1, .int .i64 3, .int .i64 200, .int .i64 4294967296] : Array Value)[J]? = some (.int .i64 (S1 : Int)) ∧ 0 < S1 := by
    unfold stepS at hS1
    rw [hJ] at hS1
    have h4 : J = 0 ∨ J = 1 ∨ J = 2 ∨ J = 3 := by omega
    rcases h4 with rfl | rfl | rfl | rfl <;> (subst hS1; exact ⟨rfl, by decide⟩)
   have hlit : (W2.alloc (.cells #[.int .i64 1, .int .i64 3, .int .i64 200, .int .i64 4294967296] 3)).cell? ⟨W2.heap.size, J, none⟩ = some (.int .i64 (S1 : Int)) := by rw [World.cell?_alloc_new]; exact hSJ.1
   have hS0 : (0 : Int) < (S1 : Int) := by have := hSJ.2; omega
   have hS0' : ((S1 : Int) == 0) = false := by rw [beq_eq_false_iff_ne]; omega
   have hS0'' : (S1 : Int) ≠ 0 := by omega
   have htm : ((x.kind : Int) / 16).tmod 4 = (J : Int) := by rw [Int.tmod_eq_emod_of_nonneg (by omega), ← hJ]; simp
   have htr : ((x.seq : Int)).tmod (S1 : Int) = (R1 : Int) := by rw [Int.tmod_eq_emod_of_nonneg (by omega), ← hR1]; simp
   have hRb : R1 ≤ x.seq := by rw [← hR1]; exact Nat.mod_le _ _
   have HR1 := hide hR1
   have HS1 := hide hS1
   have hJi : 0 ≤ (J : Int) := by omega
   have hJi4 : (J : Int) < 4 := by omega
   have hR0 : 0 ≤ (R1 : Int) := by omega
   have hRm : (R1 : Int) ≤ 4294967296 := by omega
   have ha2' : a.seq ≤ 1958505087000000 := by omega
   have HQ := hide (And.intro q0 q3)
   clear hW2 hb5 q0 q2 q3 p1 hS hr hR1 hS1 hJ hSJ
   have hbs := qkj hB2 hB2.size (by omega : w.heap.size ≤ w1.heap.size) hbg hby hbe (by omega) (by omega) 0 (.int .i64 (a.seq + (1 + (R1 : Int)))) (.cells #[.int .i64 1, .int .i64 3, .int .i64 200, .int .i64 4294967296] 3)
   have HBS := hide hbs
   clear hbs hbg hby hbe
   go_frame
   go_cut [] from 32 to 47 (fun wx => Hid ((((W2.setCell ⟨w1.heap.size, 0, none⟩ (.int .i64 (a.seq + (1 + (R1 : Int))))).alloc (.cells #[.int .i64 1, .int .i64 3, .int .i64 200, .int .i64 4294967296] 3)).drew) = wx))
   case first =>
    go_region
    all_goals (go_wp2_with fail; go_meet; exact hide rfl)
   clear g0' gf' y0' y2' hlit g0 g1 gf y0 y2 y3 hS0 hS0' hS0'' htm htr hJi hJi4 hJ4
   have hW3 := hcut.out
   obtain ⟨b31, b32, b33, b34, b35, b36⟩ := HBS.out
   rw [hW3] at b31 b32 b33 b34 b35 b36
   clear hcut
   obtain ⟨W3, hWW⟩ : ∃ W3, wc = W3 := ⟨_, rfl⟩
   rw [hWW] at b31 b32 b33 b34 b35 b36 ⊢
   clear hWW
   go_wp2
   clear hW3 HBS
   have b31' : W3.heap[w1.heap.size]? = some (.cells #[.int .i64 (a.seq + (1 + (R1 : Int))), .int .i64 a.time] 26 (0, 0)) := b31
   clear b31
   have z8 : wr.heap.size < W3.heap.size := by omega
   have z9 : w1.heap.size < W3.heap.size := by omega
   have g0 : W3.cell? ⟨w1.heap.size, 0, none⟩ = some (.int .i64 (a.seq + (1 + (R1 : Int)))) := by simp [World.cell?, b31']
   have g1 : W3.cell? ⟨w1.heap.size, 1, none⟩ = some (.int .i64 a.time) := by simp [World.cell?, b31']
   have gf : ∀ o, W3.frozen? ⟨w1.heap.size, o, none⟩ = false := fun o => by simp [World.frozen?, b31']
   have y0 : W3.cell? ⟨wr.heap.size, 0, none⟩ = some (.int .u8 (x.kind : Int)) := by simp [World.cell?, b32, HQ.out.1]
   have y3 : W3.cell? ⟨wr.heap.size, 3, none⟩ = some (.int .u32 (x.time : Int)) := by simp [World.cell?, b32, HQ.out.2]
   have g1' : ∀ o, (W3.alloc o).cell? ⟨w1.heap.size, 1, none⟩ = some (.int .i64 a.time) := fun o => (World.cell?_alloc_lt W3 o ⟨w1.heap.size, 1, none⟩ z9).trans g1
   have gf' : ∀ o i, (W3.alloc o).frozen? ⟨w1.heap.size, i, none⟩ = false := fun o i => (World.frozen?_alloc_old W3 o ⟨w1.heap.size, i, none⟩ (Nat.ne_of_lt z9)).trans (gf i)
   have y0' : ∀ o, (W3.alloc o).cell? ⟨wr.heap.size, 0, none⟩ = some (.int .u8 (x.kind : Int)) := fun o => (World.cell?_alloc_lt W3 o ⟨wr.heap.size, 0, none⟩ z8).trans y0
   have y3' : ∀ o, (W3.alloc o).cell? ⟨wr.heap.size, 3, none⟩ = some (.int .u32 (x.time : Int)) := fun o => (World.cell?_alloc_lt W3 o ⟨wr.heap.size, 3, none⟩ z8).trans y3
   obtain ⟨J2, hJ⟩ : ∃ J, x.kind / 64 = J := ⟨_, rfl⟩
   obtain ⟨S2, hS2⟩ : ∃ J, stepT x.kind = J := ⟨_, rfl⟩
   obtain ⟨R2, hR2⟩ : ∃ J, x.time % S2 = J := ⟨_, rfl⟩
   have hJ4 : J2 < 4 := by omega
   have hSJ : (#[.int .i64 1, .int .i64 300, .int .i64 100000, .int .i64 4294967296] : Array Value)[J2]? = some (.int .i64 (S2 : Int)) ∧ 0 < S2 := by
    unfold stepT at hS2
    rw [hJ] at hS2
    have h4 : J2 = 0 ∨ J2 = 1 ∨ J2 = 2 ∨ J2 = 3 := by omega
    rcases h4 with rfl | rfl | rfl | rfl <;> (subst hS2; exact ⟨rfl, by decide⟩)
   have hlit : (W3.alloc (.cells #[.int .i64 1, .int .i64 300, .int .i64 100000, .int .i64 4294967296] 3)).cell? ⟨W3.heap.size, J2, none⟩ = some (.int .i64 (S2 : Int)) := by rw [World.cell?_alloc_new]; exact hSJ.1
   have hS0 : (0 : Int) < (S2 : Int) := by have := hSJ.2; omega
   have hS0' : ((S2 : Int) == 0) = false := by rw [beq_eq_false_iff_ne]; omega
   have hS0'' : (S2 : Int) ≠ 0 := by omega
   have htm : (x.kind : Int) / 64 = (J2 : Int) := by rw [← hJ]; simp
   have htr : ((x.time : Int)).tmod (S2 : Int) = (R2 : Int) := by rw [Int.tmod_eq_emod_of_nonneg (by omega), ← hR2]; simp
   have hRb2 : R2 ≤ x.time := by rw [← hR2]; exact Nat.mod_le _ _
   have HR2 := hide hR2
   have HS2 := hide hS2
   have hJi : 0 ≤ (J2 : Int) := by omega
   have hJi4 : (J2 : Int) < 4 := by omega
   have hR20 : 0 ≤ (R2 : Int) := by omega
   have hR2m : (R2 : Int) ≤ 4294967296 := by omega
   have ha4' : a.time ≤ 1958505087000000 := by omega
   have hbs := qkj b34 b34.size (by omega : w.heap.size ≤ w1.heap.size) b31' b32 b33 (by omega) (by omega) 1 (.int .i64 (a.time + (R2 : Int))) (.cells #[.int .i64 1, .int .i64 300, .int .i64 100000, .int .i64 4294967296] 3)
   have HBS := hide hbs
   clear hJ4 hR2 hS2 hJ hSJ hbs b31' b32 b33
   go_cut [] from 48 to 61 (fun wx => Hid ((((W3.setCell ⟨w1.heap.size, 1, none⟩ (.int .i64 (a.time + (R2 : Int)))).alloc (.cells #[.int .i64 1, .int .i64 300, .int .i64 100000, .int .i64 4294967296] 3)).drew) = wx))
   case first =>
    go_region
    all_goals (go_wp2_with fail; go_meet; exact hide rfl)
   clear gf' y0' y3' hlit g1 g0 gf y0 y3 hS0 hS0' hS0'' htm htr hJi hJi4 g1'
   have hW4 := hcut.out
   obtain ⟨b41, b42, b43, b44, b45, b46⟩ := HBS.out
   rw [hW4] at b41 b42 b43 b44 b45 b46
   clear hcut
   obtain ⟨W4, hWW⟩ : ∃ W4, wc = W4 := ⟨_, rfl⟩
   rw [hWW] at b41 b42 b43 b44 b45 b46 ⊢
   clear hWW
   go_wp2
   clear hW4 HBS
   have b41' : W4.heap[w1.heap.size]? = some (.cells #[.int .i64 (a.seq + (1 + (R1 : Int))), .int .i64 (a.time + (R2 : Int))] 26 (0, 0)) := b41
   clear b41
   have g0 : W4.cell? ⟨w1.heap.size, 0, none⟩ = some (.int .i64 (a.seq + (1 + (R1 : Int)))) := by simp [World.cell?, b41']
   have g1 : W4.cell? ⟨w1.heap.size, 1, none⟩ = some (.int .i64 (a.time + (R2 : Int))) := by simp [World.cell?, b41']
   have z10 : w3.heap.size ≠ w1.heap.size := by omega
   have e0 : W4.cell? ⟨w3.heap.size, 0, none⟩ = some (.int .i64 y.ev.seq) := by simp [World.cell?, b43, ← HES.out, Ev.cells]
   have e1 : W4.cell? ⟨w3.heap.size, 1, none⟩ = some (.int .i64 y.ev.time) := by simp [World.cell?, b43, ← HES.out, Ev.cells]
   have ef : ∀ o, W4.frozen? ⟨w3.heap.size, o, none⟩ = false := fun o => by simp [World.frozen?, b43]
   have HZ1 := hide (qq (y.ev.moved (a.seq + (1 + (R1 : Int))) (a.time + (R2 : Int))))
   have HZ2 := hide (zz (y.ev.moved (a.seq + (1 + (R1 : Int))) (a.time + (R2 : Int))))
   have hmv := qnp b44 (by omega : w.heap.size ≤ w3.heap.size) b41' (by rw [HES.out]; exact b43) (by omega) (a.seq + (1 + (R1 : Int))) (a.time + (R2 : Int)) _ (Or.inl rfl)
   obtain ⟨z, hz'⟩ : ∃ z, y.ev.moved (a.seq + (1 + (R1 : Int))) (a.time + (R2 : Int)) = z := ⟨_, rfl⟩
   rw [hz'] at HZ1 HZ2 hmv
   have hcz : z.cells = #[.int .i64 z.seq, .int .i64 z.time, .int .u8 (z.cpu : Int), .int .u8 (z.kind : Int), .int .i64 z.task, .int .i64 z.group, .int .i64 z.to, .int .i64 z.weight, .int .i64 z.ticks, .int .u64 (z.mask : Int), .int .i64 z.got] := rfl
   rw [hcz] at HZ1 HZ2 hmv
   have HMV := hide hmv
   have HZE := hide hz'
   clear hmv hz' hcz
   have HEV1 := hide (zz z)
   have HZC := hide (qd HMV.out.2.1)
   have hch : Chg [w1.heap.size] wr W4 := (((((Chg.refl _ wr).alloc (.cells ys 124)).qn3 hb4).alloc (.cells es 45)).qfc (HW2.out ▸ b36) (fun g hg => by cases hg; simp)).qfc b46 (fun g hg => by cases hg; simp)
   have hch2 := hch.qfc HMV.out.2.2.2 (fun g hg => by cases hg; exact .inr (by omega))
   have HOX := hide (qnq ((hch2.keep (Nat.zero_le _)).ownsRow hown (fun g hg => by have := hne g hg; simpa using this)))
   have HSX := hide (qqq W4 ⟨w3.heap.size, 0, none⟩ ⟨w3.heap.size, 1, none⟩ (.int .i64 (a.seq + (1 + (R1 : Int)))) (.int .i64 (a.time + (R2 : Int))))
   have HTF := hide (qnr (Og := .cells (Bs.cells ⟨a.seq + (1 + (R1 : Int)), a.time + (R2 : Int)⟩) 26 (0, 0)) HMV.out.1 HMV.out.2.2.1 (by rw [HSX.out]; omega))
   have hc1 : (k + 1) * 80 ≤ 140737488355328 := by omega
   have hc2 : k + 1 ≤ 9223372036854775807 := by omega
   have z11 : w.heap.size ≤ W4.heap.size := by omega
   have z12 : k + 1 ≤ 1000 := by omega
   go_region
   all_goals
    clear e0 e1 ef g0 g1
    go_wp2_with (first
     | (with_reducible refine zd HZC.out rfl rfl rfl si_ev HZ1.out ?_)
     | (at_builtin; refine qc0 rfl rfl ei_ev ((HOX.out.alloc _).drew) rfl (Rd.qvd _ (evL z) _ 11 W4.heap.size HSX.out rfl) rfl HEV1.out hc1 hc2 (HTF.out _).1 ?_; intro A2 c2 w5 hown5 hgr5 hbl5))
    refine ⟨qns hlt hsp HDR.out (qu0 HYX.out HS1.out HR1.out HS2.out HR2.out HZE.out _) hpl hne (fun h hh => (hown.lt h hh).1) (HTF.out _) hown5 hgr5 hbl5 ?_ ?_ ?_ ?_, by simp [intOf]; omega⟩
    ·show 0 ≤ a.seq + (1 + (R1 : Int)); omega
    ·show a.seq + (1 + (R1 : Int)) ≤ _; omega
    ·show 0 ≤ a.time + (R2 : Int); omega
    ·show a.time + (R2 : Int) ≤ _; omega
  ·obtain rfl : k = M := by omega
   have h1 : List.drop k (List.take k l) = [] := by rw [List.drop_eq_nil_of_le]; omega
   rw [h1] at hsp
   have h2 : List.take 200 l = List.take k l := by
    have h3 := HM.out
    have h4 := HLN.out
    rcases Nat.lt_or_ge n 200 with h5 | h5
    ·rw [List.take_of_length_le (by omega), List.take_of_length_le (by omega)]
    ·rw [show k = 200 by omega]
   have h3 : madeL cpu b l = pre := by
    unfold madeL
    rw [h2, hsp]
    simp [qbx]
   have H3 := hide h3
   clear h1 h2 h3 hsp
   go_wp2
   go_ret
   refine ⟨⟨_, rfl, ?_⟩, hB⟩
   rw [H3.out, hpl]
   exact hown
end Go.Proofs.YtfeheccoijnbaaaDoor
