/- A part of the proof. -/
import Derived.Test.YtcajpeiobkcliaaGreatDoorQwSta
import Derived.Test.YtcajpeiobkcliaaGreatDoorQwTail
import Derived.Test.YtcajpeiobkcliaaGreatDoorQwIs
namespace Go.Proofs.YtcajpeiobkcliaaGreatDoor
open Go.RowKit
def grL (x : Gr) : List Value := [.int .i64 x.parent, .int .i64 x.weight]
def tkL (x : Tk) : List Value := [.int .i64 x.id, .int .i64 x.group, .int .i64 x.weight, .int .i64 x.cpu, .int .u64 (x.mask : Int), .bool x.ready, .int .u64 (x.v : Int), .int .u32 (x.r : Int)]
def spL (x : Sp) : List Value := [.int .u64 (x.v : Int), .int .u32 (x.r : Int), .int .u64 (x.floor : Int)]
def Gr.cells (x : Gr) : Array Value := #[.int .i64 x.parent, .int .i64 x.weight]
def Tk.cells (x : Tk) : Array Value := #[.int .i64 x.id, .int .i64 x.group, .int .i64 x.weight, .int .i64 x.cpu, .int .u64 (x.mask : Int), .bool x.ready, .int .u64 (x.v : Int), .int .u32 (x.r : Int)]
def Sp.cells (x : Sp) : Array Value := #[.int .u64 (x.v : Int), .int .u32 (x.r : Int), .int .u64 (x.floor : Int)]
theorem zj (x : Gr) : (grL x).length = 2 := rfl
theorem qe (x : Tk) : (tkL x).length = 8 := rfl
theorem qch (x : Sp) : (spL x).length = 3 := rfl
theorem qxk (x : Gr) : ∀ v ∈ x.cells.toList, v.oneCell' = true := by simp [Gr.cells, Value.oneCell']
theorem qj7 (x : Tk) : ∀ v ∈ x.cells.toList, v.oneCell' = true := by simp [Tk.cells, Value.oneCell']
theorem qxl (x : Sp) : ∀ v ∈ x.cells.toList, v.oneCell' = true := by simp [Sp.cells, Value.oneCell']
structure Rw where
 A : Option Addr
 c : Nat
 l : List Sp
def Rw.zero : Rw := ⟨none, 0, []⟩
def Rw.val (x : Rw) : Value := .slice x.A x.l.length x.c
def Rw.own (x : Rw) : Own := ⟨x.A, x.l.length, x.c, x.l.flatMap spL⟩
structure Stm where
 cpus : Int
 credit : Nat
 gA : Option Addr
 gc : Nat
 gs : List Gr
 lA : Option Addr
 lc : Nat
 cl : List Int
 uA : Option Addr
 uc : Nat
 cu : List Int
 tA : Option Addr
 tc : Nat
 ts : List Tk
 sA : Option Addr
 sc : Nat
 rs : List Rw
def Stm.sta (x : Stm) : Sta := ⟨x.cpus, x.credit, x.gs, x.cl, x.cu, x.ts, x.rs.map Rw.l⟩
def Stm.cells (x : Stm) : Array Value := #[.int .i64 x.cpus, .int .u64 (x.credit : Int), .slice x.gA x.gs.length x.gc, .slice x.lA x.cl.length x.lc, .slice x.uA x.cu.length x.uc, .slice x.tA x.ts.length x.tc, .slice x.sA x.rs.length x.sc]
theorem qe5 (x : Stm) : ∀ v ∈ x.cells.toList, v.oneCell' = true := by simp [Stm.cells, Value.oneCell']
structure StRd (w : World) (x : Stm) : Prop where
 g : Rd w w.heap.size 2 x.gA x.gs.length (x.gs.flatMap grL)
 l : Rd w w.heap.size 1 x.lA x.cl.length (x.cl.map I64i)
 u : Rd w w.heap.size 1 x.uA x.cu.length (x.cu.map I64i)
 t : Rd w w.heap.size 8 x.tA x.ts.length (x.ts.flatMap tkL)
 s : Rd w w.heap.size 1 x.sA x.rs.length (x.rs.map Rw.val)
 r : ∀ y ∈ x.rs, Rd w w.heap.size 3 y.A y.l.length (y.l.flatMap spL)
structure StCap (x : Stm) : Prop where
 g : x.gs.length ≤ x.gc
 l : x.cl.length ≤ x.lc
 u : x.cu.length ≤ x.uc
 t : x.ts.length ≤ x.tc
 s : x.rs.length ≤ x.sc
 r : ∀ y ∈ x.rs, y.l.length ≤ y.c
structure StFew (x : Stm) : Prop where
 g : x.gs.length ≤ 1000000
 l : x.cl.length ≤ 1000000
 u : x.cu.length ≤ 1000000
 t : x.ts.length ≤ 1000000
 s : x.rs.length ≤ 1000000
 r : ∀ y ∈ x.rs, y.l.length ≤ 1000000
theorem StRd.old {W w : World} {fs : List Fact} {x : Stm} (h : StRd W x) (I : Mem W w fs) : StRd w x := ⟨I.old h.g, I.old h.l, I.old h.u, I.old h.t, I.old h.s, fun y hy => I.old (h.r y hy)⟩
theorem rs_at {x : Stm} {g : Nat} (h : g < x.rs.length) : x.sta.sp.getD g [] = (x.rs.getD g Rw.zero).l := by
 show (x.rs.map Rw.l).getD g [] = _
 rw [List.getD_eq_getElem?_getD, List.getD_eq_getElem?_getD, List.getElem?_map, List.getElem?_eq_getElem h]
 rfl
theorem StRd.row {w : World} {x : Stm} (h : StRd w x) {g : Nat} (hg : g < x.rs.length) : Rd w w.heap.size 3 (x.rs.getD g Rw.zero).A (x.rs.getD g Rw.zero).l.length ((x.rs.getD g Rw.zero).l.flatMap spL) := h.r _ (qc Rw.zero hg)
theorem si_gr : SI Tryz.prog 110 2 := ⟨by kernel_rfl, by kernel_rfl⟩
theorem si_tk : SI Tryz.prog 61 8 := ⟨by kernel_rfl, by kernel_rfl⟩
theorem si_sp : SI Tryz.prog 63 3 := ⟨by kernel_rfl, by kernel_rfl⟩
theorem qeg : SI Tryz.prog 33 3 := ⟨by kernel_rfl, by kernel_rfl⟩
theorem si_st : SI Tryz.prog 38 7 := ⟨by kernel_rfl, by kernel_rfl⟩
theorem qi : SI Tryz.prog 168 3 := ⟨by kernel_rfl, by kernel_rfl⟩
theorem qr : SI Tryz.prog 40 8 := ⟨by kernel_rfl, by kernel_rfl⟩
theorem ei_gr : EI Tryz.prog 31 110 (.agg Gr.zero.cells) 2 16 := ⟨by kernel_rfl, by kernel_rfl, rfl, by omega⟩
theorem ei_tk : EI Tryz.prog 35 61 (.agg Tk.zero.cells) 8 64 := ⟨by kernel_rfl, by kernel_rfl, rfl, by omega⟩
theorem ei_sp : EI Tryz.prog 64 63 (.agg Sp.zero.cells) 3 24 := ⟨by kernel_rfl, by kernel_rfl, rfl, by omega⟩
theorem ei_rw : EI Tryz.prog 36 64 (.slice none 0 0) 1 24 := ⟨by kernel_rfl, by kernel_rfl, rfl, by omega⟩
end Go.Proofs.YtcajpeiobkcliaaGreatDoor
