/- A part of the proof. -/
import Derived.Test.YtpklccgmjhikeaaGreatDoorQaFields
namespace Go.Proofs.YtpklccgmjhikeaaGreatDoor
open Go.RowKit
def Ev.zero : Ev := ⟨0, 0, 0, 0, 0, 0, 0, 0, 0, 0, 0⟩
def Ev.base (e : Ev) : Ev := { Ev.zero with seq := e.seq, time := e.time, cpu := e.cpu, kind := e.kind }
def Ev.putV (e : Ev) (i : Nat) (v : Int) (m : Nat) : Ev :=
 match i with
 | 0 => { e with task := v }
 | 1 => { e with group := v }
 | 2 => { e with to := v }
 | 3 => { e with weight := v }
 | 4 => { e with ticks := v }
 | 5 => { e with mask := m }
 | _ => { e with got := v }
def Ev.put (e : Ev) (i x : Nat) : Ev := e.putV i (wrap64 (x : Int)) x
def Ev.fill (e : Ev) (l : List (Nat × Nat)) : Ev := l.foldl (fun e p => e.put p.1 p.2) e
def Ev.made (e : Ev) (vs : List Nat) : Ev := e.base.fill ((usesL e.kind).zip vs)
def Ev.qm (e : Ev) (vs : List Nat) : Nat :=
 if e.kind = 0 ∨ 10 < e.kind then 60 else if vs.length ≠ (usesL e.kind).length then 2 else if (e.made vs).check ≠ 0 then 61 else 0
def Ev.ze (e : Ev) (vs : List Nat) : Ev := if e.qm vs = 0 then e.made vs else Ev.zero
theorem qtb (e : Ev) (i x : Nat) (hi : i < 7) : e.cells.setIfInBounds (4 + i) (Ev.qs2 i x) = (e.put i x).cells := by
 obtain rfl | rfl | rfl | rfl | rfl | rfl | rfl : i = 0 ∨ i = 1 ∨ i = 2 ∨ i = 3 ∨ i = 4 ∨ i = 6 ∨ i = 5 := by omega
 all_goals simp [Ev.cells, Ev.put, Ev.putV, Ev.qs2, Array.setIfInBounds]
theorem qcf (x : Int) : I64 (wrap64 x) := by unfold I64; rw [← IntWalk.i64_left, IntKind.wrap_i64]; omega
theorem q14 {e : Ev} (h : e.Ok) (i x : Nat) (hx : x < 18446744073709551616) : (e.put i x).Ok := by
 unfold Ev.put Ev.putV
 split
 ·exact { h with task := qcf _ }
 ·exact { h with group := qcf _ }
 ·exact { h with to := qcf _ }
 ·exact { h with weight := qcf _ }
 ·exact { h with ticks := qcf _ }
 ·exact { h with mask := hx }
 ·exact { h with got := qcf _ }
theorem zq : I64 0 := ⟨by omega, by omega⟩
theorem qk3 {e : Ev} (h : e.Ok) : e.base.Ok := ⟨h.seq, h.time, h.cpu, h.kind, zq, zq, zq, zq, zq, by show 0 < 18446744073709551616; omega, zq⟩
theorem qh8 {e : Ev} (h : e.Ok) : ∀ (l : List (Nat × Nat)), (∀ p ∈ l, p.2 < 18446744073709551616) → (e.fill l).Ok
 | [], _ => h
 | p :: l, hl => qh8 (q14 h p.1 p.2 (hl p (by simp))) l (fun q hq => hl q (by simp [hq]))
def EvBlk (w : World) (b : Nat) (e : Ev) : Prop := w.heap[b]? = some (.cells e.cells 35 (0, 0))
theorem EvBlk.at {w : World} {b : Nat} {e : Ev} (h : EvBlk w b e) : EvAt w b e := by
 unfold EvBlk at h
 constructor <;> (unfold World.cell?; rw [h]; rfl)
theorem EvBlk.frozen {w : World} {b : Nat} {e : Ev} (h : EvBlk w b e) (o : Nat) : w.frozen? ⟨b, o, none⟩ = false := by
 unfold EvBlk at h; unfold World.frozen?; rw [h]; simp
theorem EvBlk.put {w : World} {b : Nat} {e : Ev} (h : EvBlk w b e) (i x : Nat) (hi : i < 7) : EvBlk (w.setCell ⟨b, 4 + i, none⟩ (Ev.qs2 i x)) b (e.put i x) := by
 unfold EvBlk at h ⊢
 rw [← qtb e i x hi]
 simp [World.setCell, Array.getElem?_modify, h]
theorem EvBlk.fld {w : World} {b : Nat} {e : Ev} (h : EvBlk w b e) (i : Nat) (hi : i < 7) : ∃ u, w.cell? ⟨b, 4 + i, none⟩ = some u := by
 unfold EvBlk at h
 refine ⟨e.cells[4 + i]'(by show 4 + i < 11; omega), ?_⟩
 unfold World.cell?; rw [h]
 exact Array.getElem?_eq_getElem _
def qoe (e : Ev) (vs : List Nat) (b : Nat) (W1 : World) (ok i : Value) (wr : World) : Prop :=
 ∃ k, k ≤ (usesL e.kind).length ∧ i = .int .i64 (k : Int) ∧ ok = .bool ((((usesL e.kind).zip vs).take k).all fun p => Ev.fits p.1 p.2) ∧ EvBlk wr b (e.base.fill (((usesL e.kind).zip vs).take k)) ∧ Below b W1 wr
structure WithPost (w : World) (e : Ev) (err : Nat) (r : Ending) (w' : World) : Prop where
 ret : r = .returned (.tuple #[.agg e.cells, .int .i64 (err : Int)])
 below : Below w.heap.size w w'
set_option maxRecDepth 100000 in
set_option maxHeartbeats 1000000 in
theorem qxb (e : Ev) (V : Value) (w : World) (hk : e.kind = 0 ∨ 10 < e.kind) :
  Calls Tryz.prog 136 #[.agg e.cells, V] w (WithPost w Ev.zero 60) := by
 have c3 : e.cells[3]? = some (.int .u8 (e.kind : Int)) := rfl
 generalize e.cells = cs at c3 ⊢
 have hk' : (e.kind : Int) = 0 ∨ 10 < (e.kind : Int) := by omega
 clear hk
 rcases Decidable.em ((e.kind : Int) = 0) with hk0 | hk0
 ·have hkb : ((e.kind : Int) == 0) = true := by rw [beq_iff_eq]; omega
  clear hk' hk0
  go_enter Tryz.func136, Tryz.ntmps136
  go_wp2
  refine bodyPost_ret (v := .tuple #[.agg Ev.zero.cells, .int .i64 60]) ?_ rfl ⟨rfl, ((Below.refl _ _).alloc (Nat.le_refl _) _).alloc (by simp) _⟩
  simp [results, Tryz.results136, go_sem, Ev.cells, Ev.zero]
 ·have hkb : ((e.kind : Int) == 0) = false := by rw [beq_eq_false_iff_ne]; omega
  have hkl : 10 < (e.kind : Int) := by omega
  clear hk' hk0
  go_enter Tryz.func136, Tryz.ntmps136
  go_wp2
  refine bodyPost_ret (v := .tuple #[.agg Ev.zero.cells, .int .i64 60]) ?_ rfl ⟨rfl, ((Below.refl _ _).alloc (Nat.le_refl _) _).alloc (by simp) _⟩
  simp [results, Tryz.results136, go_sem, Ev.cells, Ev.zero]
set_option maxRecDepth 100000 in
set_option maxHeartbeats 1000000 in
theorem qxc (e : Ev) (A : Option Addr) (n c B : Nat) (w : World) (hL : Laid B w) (hB : B ≤ w.heap.size) (hk : ¬ (e.kind = 0 ∨ 10 < e.kind)) (hn : n ≠ (usesL e.kind).length) :
  Calls Tryz.prog 136 #[.agg e.cells, .slice A n c] w (WithPost w Ev.zero 2) := by
 have c3 : e.cells[3]? = some (.int .u8 (e.kind : Int)) := rfl
 generalize e.cells = cs at c3 ⊢
 have hkb : ((e.kind : Int) == 0) = false := by rw [beq_eq_false_iff_ne]; omega
 have hkl : (e.kind : Int) ≤ 10 := by omega
 obtain ⟨A1, c1, hu, hru⟩ := hL.uses e.kind (by omega)
 have hg : 1 < w.heap.size := Nat.lt_of_lt_of_le hL.big hB
 have hnb : ((n : Int) != ((usesL e.kind).length : Int)) = true := by rw [bne_iff_ne]; omega
 clear hk hn hru
 have hcc : ∀ o1 o2, ((w.alloc o1).alloc o2).cell? ⟨1, e.kind, none⟩ = some (.slice A1 (usesL e.kind).length c1) := fun o1 o2 => by
  rw [World.cell?_alloc_lt _ _ _ (by show 1 < (w.alloc o1).heap.size; simp only [World.size_alloc]; omega), World.cell?_alloc_lt _ _ _ hg]; exact hu
 have hg2 : ¬ 1 = w.heap.size := by omega
 have hg3 : ¬ 1 = w.heap.size + 1 := by omega
 go_enter Tryz.func136, Tryz.ntmps136
 go_wp2
 refine bodyPost_ret (v := .tuple #[.agg Ev.zero.cells, .int .i64 2]) ?_ rfl ⟨rfl, ((Below.refl _ _).alloc (Nat.le_refl _) _).alloc (by simp) _⟩
 simp [results, Tryz.results136, go_sem, Ev.cells, Ev.zero]
theorem qh9 (e : Ev) (l : List (Nat × Nat)) (p : Nat × Nat) : e.fill (l ++ [p]) = (e.fill l).put p.1 p.2 := by unfold Ev.fill; rw [List.foldl_append]; rfl
theorem EvBlk.new (w : World) (e : Ev) : EvBlk (w.alloc (.cells e.cells 35)) w.heap.size e := World.alloc_heap_new w _
theorem EvBlk.below {w w' : World} {b B : Nat} {e : Ev} (h : EvBlk w b e) (hb : Below B w w') (hlt : b < B) : EvBlk w' b e := (hb.block b hlt).trans h
theorem EvBlk.lt {w : World} {b : Nat} {e : Ev} (h : EvBlk w b e) : b < w.heap.size := zt h
def set11 (w : World) (b : Nat) (e' : Ev) : World :=
 (((((((((((w.setCell ⟨b, 0, none⟩ (.int .i64 e'.seq)).setCell ⟨b, 1, none⟩ (.int .i64 e'.time)).setCell ⟨b, 2, none⟩ (.int .u8 (e'.cpu : Int))).setCell ⟨b, 3, none⟩ (.int .u8 (e'.kind : Int))).setCell ⟨b, 4, none⟩ (.int .i64 e'.task)).setCell ⟨b, 5, none⟩ (.int .i64 e'.group)).setCell ⟨b, 6, none⟩ (.int .i64 e'.to)).setCell ⟨b, 7, none⟩ (.int .i64 e'.weight)).setCell ⟨b, 8, none⟩ (.int .i64 e'.ticks)).setCell ⟨b, 9, none⟩ (.int .u64 (e'.mask : Int))).setCell ⟨b, 10, none⟩ (.int .i64 e'.got))
theorem EvBlk.storeAll {w : World} {b : Nat} {e : Ev} (h : EvBlk w b e) (e' : Ev) : EvBlk (set11 w b e') b e' := by
 unfold EvBlk at h ⊢
 unfold set11
 simp [World.setCell, Array.getElem?_modify, h, Ev.cells]
theorem qa6 {B : Nat} {a w : World} {b : Nat} (h : Below B a w) (hb : B ≤ b) (e' : Ev) : Below B a (set11 w b e') := by
 unfold set11
 exact ((((((((((h.setCell (p := ⟨b, 0, none⟩) hb _).setCell (p := ⟨b, 1, none⟩) hb _).setCell (p := ⟨b, 2, none⟩) hb _).setCell (p := ⟨b, 3, none⟩) hb _).setCell (p := ⟨b, 4, none⟩) hb _).setCell (p := ⟨b, 5, none⟩) hb _).setCell (p := ⟨b, 6, none⟩) hb _).setCell (p := ⟨b, 7, none⟩) hb _).setCell (p := ⟨b, 8, none⟩) hb _).setCell (p := ⟨b, 9, none⟩) hb _).setCell (p := ⟨b, 10, none⟩) hb _
theorem qgr {P : Program} {fn : Func} {t u : Tmp} {ty : TypeId} {tmps : Array Value} {w : World} {b : Nat} {e : Ev} (h : fn.results = #[.cell t ty, .tmp u]) (ht : tmps.getD t undef = .pointer (some ⟨b, 0, none⟩))
  (hagg : (isAgg ty).run P w = .ok true w) (hsz : (sizeOf ty).run P w = .ok 11 w) (hE : EvAt w b e) : (results fn tmps).run P w = .ok (.tuple #[.agg e.cells, tmps.getD u undef]) w := by
 obtain ⟨h0, h1, h2, h3, h4, h5, h6, h7, h8, h9, h10⟩ := hE
 simp at ht
 simp [results, h, ht, hagg, hsz, go_sem, h0, h1, h2, h3, h4, h5, h6, h7, h8, h9, h10, Ev.cells]
end Go.Proofs.YtpklccgmjhikeaaGreatDoor
