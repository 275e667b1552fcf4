/- Parts. -/
import Derived.Test.YtggpmlaappaopaaGreatDoorQtSep18
import Derived.Test.YtggpmlaappaopaaGreatDoorQtSep7
import Derived.Test.YtggpmlaappaopaaGreatDoorQtSep10
import Derived.Test.YtggpmlaappaopaaGreatDoorQtSta
import Derived.Test.YtggpmlaappaopaaGreatDoorQtTail
import Derived.Test.YtggpmlaappaopaaGreatDoorQtIs
import Derived.Test.YtggpmlaappaopaaGreatDoorQtRnd1
import Derived.Test.YtggpmlaappaopaaGreatDoorQtSep16
import Derived.Test.YtggpmlaappaopaaGreatDoorQtSep19
import Derived.Test.YtggpmlaappaopaaGreatDoorQtLst
import Derived.Test.YtggpmlaappaopaaGreatDoorQtMark
import Derived.Test.YtggpmlaappaopaaGreatDoorQtSep6
import Derived.Test.YtggpmlaappaopaaGreatDoorQtDoorIt
import Derived.Test.YtggpmlaappaopaaGreatDoorRows
import Derived.Test.YtggpmlaappaopaaGreatDoorQtRnd2
set_option linter.all false
set_option maxRecDepth 100000
set_option maxHeartbeats 1000000
namespace Go.Proofs.YtggpmlaappaopaaGreatDoor
open Go.RowKit
section
variable {P : Program} {ops : Array Oper} {Q : Exit → Act → World → Prop} {a : Act} {W w : World} {n i j d fuel : Nat} {D : List Deferred} {σ σ' : List (Nat × Value)} {o : Oper} {v : Value} {md : Region.Mode} {S : World → Prop} {K : Act → World → Prop} {listed : Array Bool} {fs fs' : List Fact} {ex : List Nat}
theorem s_d0 (h : Q .normal a w) (hi : ops.size = i := by exact rfl) : qz P ops Q i a w := qa7 hi h
theorem s_fs1 {id : Nat} {c : Code} {o2 : Array Oper} (h : qz P o2 (Exit.then (fun a w => c.wp P Q a w) Q) 0 a w) : (Code.seq (.region id o2 false) c).wp P Q a w := wp_seq (qa h)
theorem s_ct {c : Operand} {x y : Code} (HF : Fr a n D σ) (h : x.wp P Q a w) (hc : look σ c = some (.bool true) := by exact rfl) : (Code.cond c x y).wp P Q a w := qqh HF hc h
theorem s_cf {c : Operand} {x y : Code} (HF : Fr a n D σ) (h : y.wp P Q a w) (hc : look σ c = some (.bool false) := by exact rfl) : (Code.cond c x y).wp P Q a w := qen HF hc h
theorem s_fz (HF : Fr a n D σ) (HM : Mem W w fs) (i : Nat) (ho : ops[i]? = some o) (hy : Yl P (fun wS => Mem W wS fs) σ o v) (k : ∀ a', Fr a' n D ((d, v) :: σ) → qz P ops Q (i + 1) a' w) (hw : wantB ops σ o = some true := by exact rfl) (hd : o.dst = some d := by exact rfl) (hdn : d < n := by decide) : qz P ops Q i a w := fy HF HM i ho hw hd hy k hdn
theorem s_fc {t : TypeId} {x : Operand} {g off : Nat} {cs : Array Value} {tb : TypeId} (HF : Fr a n D σ) (HM : Mem W w fs) (i j : Nat) (k : ∀ a', Fr a' n D ((d, v) :: σ) → qz P ops Q (i + 1) a' w) (ho : ops[i]? = some o := by exact rfl) (hop : o.op = .load t x := by exact rfl) (hx : look σ x = some (.pointer (some ⟨g, off, none⟩)) := by exact rfl) (hi : fs[j]? = some (.blk g cs tb) := by exact rfl) (hv : cs[off]? = some v := by exact rfl) (hw : wantB ops σ o = some true := by exact rfl) (hd : o.dst = some d := by exact rfl) (ht : isOne P t = true := by kernel_rfl) (hdn : d < n := by decide) : qz P ops Q i a w := fy HF HM i ho hw hd (Yl.qd hop hx ht fun _ h => h.cell hi hv) k hdn
theorem s_fl {t : TypeId} {x : Operand} {A : Option Addr} {m c : Nat} (HF : Fr a n D σ) (i : Nat) (k : ∀ a', Fr a' n D ((d, .int .i64 (m : Int)) :: σ) → qz P ops Q (i + 1) a' w) (ho : ops[i]? = some o := by exact rfl) (hop : o.op = .call { callee := .builtin .len, args := #[x], argTypes := #[t] } := by exact rfl) (hx : look σ x = some (.slice A m c) := by exact rfl) (hw : wantB ops σ o = some true := by exact rfl) (hd : o.dst = some d := by exact rfl) (ht : isSl P t = true := by kernel_rfl) (hdn : d < n := by decide) : qz P ops Q i a w := qig (S := fun _ => True) HF trivial ho hw hd hdn (Yl.len hop hx ht) k
theorem s_fk {x : Operand} {p : Addr} (HF : Fr a n D σ) (i : Nat) (k : ∀ a', Fr a' n D ((d, .pointer (some p)) :: σ) → qz P ops Q (i + 1) a' w) (ho : ops[i]? = some o := by exact rfl) (hop : o.op = .nilCheck x := by exact rfl) (hx : look σ x = some (.pointer (some p)) := by exact rfl) (hw : wantB ops σ o = some true := by exact rfl) (hd : o.dst = some d := by exact rfl) (hdn : d < n := by decide) : qz P ops Q i a w := qig (S := fun _ => True) HF trivial ho hw hd hdn (Yl.nilCheck hop hx) k
theorem Yl.o1 {α : Type} {F : α → Value} {l : List α} {g of m : Nat} {t : TypeId} {x : Operand} (hr : Rd W W.heap.size 1 (some ⟨g, of, none⟩) m (l.map F)) (kk : Nat) (dd : α) (hk : kk < l.length) (hop : o.op = .load t x) (hx : look σ x = some (.pointer (some ⟨g, of + kk * 1, none⟩))) (ht : isOne P t = true := by kernel_rfl) (hv : F (l.getD kk dd) = v := by exact rfl) : Yl P (fun wS => Mem W wS fs) σ o v := by
 subst hv
 exact Yl.qd hop hx ht fun _ h => (h.old hr).zn (k := kk) (zk (getD_at dd hk))
theorem Yl.r1 {α : Type} {F : α → Value} {l : List α} {g m c : Nat} {t e : TypeId} {x : Operand} (j kk : Nat) (dd : α) (hk : kk < l.length) (hop : o.op = .load t x) (hx : look σ x = some (.pointer (some ⟨g, kk * 1, none⟩))) (hi : fs[j]? = some (.row (.slice (some ⟨g, 0, none⟩) m c) m (l.map F) e 1)) (ht : isOne P t = true := by kernel_rfl) (hv : F (l.getD kk dd) = v := by exact rfl) : Yl P (fun wS => Mem W wS fs) σ o v := by
 subst hv
 exact Yl.qd hop hx ht fun _ h => h.q11 hi (zk (getD_at dd hk))
def bt (n : Nat) (l : List Nat) : Array Bool := ((List.range n).map fun i => !l.contains i).toArray
def bf (n : Nat) (l : List Nat) : Array Bool := ((List.range n).map fun i => l.contains i).toArray
theorem s_az (HF : Fr a n D σ) (hS : S w) (i : Nat) (ho : ops[i]? = some o) (hy : Yl P S σ o v) (k : ∀ a', Fr a' n D ((d, v) :: σ) → zg P md ops Q S ex fuel (listed.setIfInBounds i true) a' w) (hw : wantB ops σ o = some true := by exact rfl) (hd : o.dst = some d := by exact rfl)
  (hdn : d < n := by decide) (hok : qjp md ops ex listed i = true := by kernel_rfl) (hQ : ∀ c (a : Act) w, Q (.panic c) (a.put o.dst v) w → Q (.panic c) a w := by intro _ _ _ h; exact h) : zg P md ops Q S ex (fuel + 1) listed a w := qqg HF hS ho hw hd hdn hok hQ hy k
theorem s_ac {t : TypeId} {x : Operand} {g off : Nat} {cs : Array Value} {tb : TypeId} (HF : Fr a n D σ) (hS : Mem W w fs) (i j : Nat) (k : ∀ a', Fr a' n D ((d, v) :: σ) → zg P md ops Q (fun wS => Mem W wS fs) ex fuel (listed.setIfInBounds i true) a' w) (ho : ops[i]? = some o := by exact rfl) (hop : o.op = .load t x := by exact rfl) (hx : look σ x = some (.pointer (some ⟨g, off, none⟩)) := by exact rfl) (hi : fs[j]? = some (.blk g cs tb) := by exact rfl) (hv : cs[off]? = some v := by exact rfl) (hw : wantB ops σ o = some true := by exact rfl) (hd : o.dst = some d := by exact rfl)
  (ht : isOne P t = true := by kernel_rfl) (hdn : d < n := by decide) (hok : qjp md ops ex listed i = true := by kernel_rfl) (hQ : ∀ c (a : Act) w, Q (.panic c) (a.put o.dst v) w → Q (.panic c) a w := by intro _ _ _ h; exact h) : zg P md ops Q (fun wS => Mem W wS fs) ex (fuel + 1) listed a w := qqg HF hS ho hw hd hdn hok hQ (Yl.qd hop hx ht fun _ h => h.cell hi hv) k
theorem s_al {t : TypeId} {x : Operand} {A : Option Addr} {m c : Nat} (HF : Fr a n D σ) (hS : S w) (i : Nat) (k : ∀ a', Fr a' n D ((d, .int .i64 (m : Int)) :: σ) → zg P md ops Q S ex fuel (listed.setIfInBounds i true) a' w) (ho : ops[i]? = some o := by exact rfl) (hop : o.op = .call { callee := .builtin .len, args := #[x], argTypes := #[t] } := by exact rfl) (hx : look σ x = some (.slice A m c) := by exact rfl) (hw : wantB ops σ o = some true := by exact rfl) (hd : o.dst = some d := by exact rfl)
  (ht : isSl P t = true := by kernel_rfl) (hdn : d < n := by decide) (hok : qjp md ops ex listed i = true := by kernel_rfl) (hQ : ∀ c (a : Act) w, Q (.panic c) (a.put o.dst (.int .i64 (m : Int))) w → Q (.panic c) a w := by intro _ _ _ h; exact h) : zg P md ops Q S ex (fuel + 1) listed a w := qqg HF hS ho hw hd hdn hok hQ (Yl.len hop hx ht) k
theorem s_ek {f : FuncId} {xs : Array Operand} {ts : Array TypeId} {V : Option Addr → Nat → Value} {m sz : Nat} {e : TypeId} {ys : List Value} (HF : Fr a n D σ) (HM : Mem W w fs) (vs : List Value) (hC : Calls P f vs.toArray w (fun r w' => (∃ A c, r = .returned (V A c) ∧ w'.ownsRow w.heap.size e sz (.slice A m c) m ys ∧ m ≤ c) ∧ Below w.heap.size w w'))
  (k : ∀ A c w', m ≤ c → Mem W w' (.row (.slice A m c) m ys e sz :: fs) → ∀ a', Fr a' n D ((d, V A c) :: σ) → K a' w') (hop : o.op = .call { callee := .value (.func f), args := xs, argTypes := ts } := by exact rfl) (hd : o.dst = some d := by exact rfl) (hv : looks σ xs.toList = some vs := by kernel_rfl) (hf : callable P f = true := by kernel_rfl) (hdn : d < n := by decide) : o.wp P a w K Q :=
 e_cl HF vs hop hd hC (fun e w' ⟨⟨A, c, h1, h2, h3⟩, h4⟩ => ⟨_, h1, fun a' HF => k A c w' h3 (HM.callRow h4 h2) a' HF⟩) hv hf hdn
theorem s_em {f : FuncId} {xs : Array Operand} {ts : Array TypeId} (HF : Fr a n D σ) (vs : List Value) (hC : Calls P f vs.toArray w (fun r w' => r = .returned v ∧ Mem W w' fs')) (k : ∀ w', Mem W w' fs' → ∀ a', Fr a' n D ((d, v) :: σ) → K a' w') (hop : o.op = .call { callee := .value (.func f), args := xs, argTypes := ts } := by exact rfl) (hd : o.dst = some d := by exact rfl) (hv : looks σ xs.toList = some vs := by kernel_rfl) (hf : callable P f = true := by kernel_rfl) (hdn : d < n := by decide) : o.wp P a w K Q :=
 e_cl HF vs hop hd hC (fun e w' ⟨h1, h2⟩ => ⟨_, h1, k w' h2⟩) hv hf hdn
theorem s_ce {f N : Nat} {fn : Func} {c : Code} {R : Ending → World → Prop} (hf : P.funcs[f]? = some fn) (vs : List Value) (σ0 : List (Nat × Value)) (k : ∀ a, Fr a N [] σ0 → c.wp P (bodyPost P fn R) a w) (hb : fn.body = some c := by exact rfl) (hn : fn.ntmps = N := by exact rfl) (hl : decide (vs.length ≤ N) = true := by kernel_rfl) (h0 : qbh 0 vs = σ0 := by exact rfl) : Calls P f vs.toArray w R := qf1 hf hb hn hl h0 k
theorem Mem.pk (h : Mem W w fs) (is : List Nat) (hn : is.Nodup := by decide) (he : Go.Proofs.YtggpmlaappaopaaGreatDoor.picks fs is = fs' := by exact rfl) : Mem W w fs' := h.picks is hn he
theorem Mem.pt (h : Mem W w fs) (n : Nat) (is : List Nat) (hn : is.Nodup := by decide) (hlt : (is.all (· < n)) = true := by decide) (he : Go.Proofs.YtggpmlaappaopaaGreatDoor.picks fs is ++ fs.drop n = fs' := by exact rfl) : Mem W w fs' := h.qxz n is hn hlt he
theorem s_ea (HF : Fr a n D σ) (HM : Mem W w fs) {e : TypeId} (cs : Array Value) (k : ∀ a' w' g, Fr a' n D ((d, .pointer (some ⟨g, 0, none⟩)) :: σ) → Mem W w' (.blk g cs e :: fs) → K a' w') (hop : o.op = .alloc e := by exact rfl) (hz : qae P e = some cs := by kernel_rfl) (hd : o.dst = some d := by exact rfl) (hdn : d < n := by decide) : o.wp P a w K Q := qx2 HF HM hop hz hd hdn k
theorem s_eb (HF : Fr a n D σ) (HM : Mem W w fs) {e : TypeId} {x : Operand} (cs : Array Value) (k : ∀ a' w' g, Fr a' n D ((d, .pointer (some ⟨g, 0, none⟩)) :: σ) → Mem W w' (.blk g cs e :: fs) → K a' w') (hop : o.op = .box e x := by exact rfl) (hx : look σ x = some v := by exact rfl) (hc : v.cells = cs := by exact rfl) (hd : o.dst = some d := by exact rfl) (hdn : d < n := by decide) : o.wp P a w K Q := e_box HF HM hop hx hc hd hdn k
theorem s_es (HF : Fr a n D σ) (HM : Mem W w fs) (i : Nat) {t : TypeId} {x y : Operand} {g off : Nat} {cs : Array Value} {tb : TypeId} (k : ∀ w', Mem W w' (fs.set i (.blk g (cs.setIfInBounds off v) tb)) → K a w') (hop : o.op = .store t x y := by exact rfl) (hd : o.dst = none := by exact rfl) (hx : look σ x = some (.pointer (some ⟨g, off, none⟩)) := by exact rfl) (hy : look σ y = some v := by exact rfl) (hs : (P.info? t).map (·.size) = some 1 := by kernel_rfl) (hv : v.oneCell' = true := by exact rfl) (hi : fs[i]? = some (.blk g cs tb) := by exact rfl) (ho : off < cs.size := by simp) : o.wp P a w K Q := qlf HF HM hop hd hx hy hs hv hi ho k
theorem s_el {t len e : Nat} {ps : Array (Nat × Operand)} {z : Value} {size bytes : Nat} (HF : Fr a n D σ) (HM : Mem W w fs) (ei : EI P t e z size bytes) (vs : List (Nat × Value)) (cs : Array Value) (k : ∀ a' w' g, Fr a' n D ((d, .slice (some ⟨g, 0, none⟩) len len) :: σ) → Mem W w' (.blk g cs e :: fs) → K a' w') (hop : o.op = .buildSlice t len ps := by exact rfl) (hl : decide (0 < len ∧ len * size ≤ 16777216) = true := by decide) (hv : qbg σ ps.toList = some vs := by exact rfl)
  (hf : Instr.fill (fun i => some (i * size, size)) (qem z.cells (len * size)) vs = some cs := by kernel_rfl) (hd : o.dst = some d := by exact rfl) (hdn : d < n := by decide) : o.wp P a w K Q := qx3 HF HM hop ei hl hv hf hd hdn k
section
variable {fn : Func} {R : Ending → World → Prop} {t1 t2 t3 : Nat} {v1 v2 v3 : Value}
theorem s_rt1 (hr : fn.results = #[.tmp t1]) (HF : Fr a n [] σ) (h1 : σ.lookup t1 = some v1) (hR : R (.returned v1) w) : bodyPost P fn R .ret a w := ret1 hr HF (.tmp HF h1) hR
theorem s_rt2 (hr : fn.results = #[.tmp t1, .tmp t2]) (HF : Fr a n [] σ) (h1 : σ.lookup t1 = some v1) (h2 : σ.lookup t2 = some v2) (hR : R (.returned (.tuple #[v1, v2])) w) : bodyPost P fn R .ret a w := ret2 hr HF (.tmp HF h1) (.tmp HF h2) hR
theorem s_rt3 (hr : fn.results = #[.tmp t1, .tmp t2, .tmp t3]) (HF : Fr a n [] σ) (h1 : σ.lookup t1 = some v1) (h2 : σ.lookup t2 = some v2) (h3 : σ.lookup t3 = some v3) (hR : R (.returned (.tuple #[v1, v2, v3])) w) : bodyPost P fn R .ret a w := ret3 hr HF (.tmp HF h1) (.tmp HF h2) (.tmp HF h3) hR
end
end
def grL (x : Gr) : List Value := [.int .i64 x.parent, .int .i64 x.weight]
def tkL (x : Tk) : List Value := [.int .i64 x.id, .int .i64 x.group, .int .i64 x.weight, .int .i64 x.cpu, .int .u64 (x.mask : Int), .bool x.ready, .int .u64 (x.v : Int), .int .u32 (x.r : Int)]
def spL (x : Sp) : List Value := [.int .u64 (x.v : Int), .int .u32 (x.r : Int), .int .u64 (x.floor : Int)]
def Gr.cells (x : Gr) : Array Value := #[.int .i64 x.parent, .int .i64 x.weight]
def Tk.cells (x : Tk) : Array Value := #[.int .i64 x.id, .int .i64 x.group, .int .i64 x.weight, .int .i64 x.cpu, .int .u64 (x.mask : Int), .bool x.ready, .int .u64 (x.v : Int), .int .u32 (x.r : Int)]
def Sp.cells (x : Sp) : Array Value := #[.int .u64 (x.v : Int), .int .u32 (x.r : Int), .int .u64 (x.floor : Int)]
theorem zo (x : Gr) : (grL x).length = 2 := rfl
theorem zw (x : Tk) : (tkL x).length = 8 := rfl
theorem qak (x : Sp) : (spL x).length = 3 := rfl
theorem qjz (x : Tk) : ∀ v ∈ x.cells.toList, v.oneCell' = true := by simp [Tk.cells, Value.oneCell']
theorem qwy (x : Sp) : ∀ v ∈ x.cells.toList, v.oneCell' = true := by simp [Sp.cells, Value.oneCell']
structure Rw where
 A : Option Addr
 c : Nat
 l : List Sp
def Rw.zero : Rw := ⟨none, 0, []⟩
def Rw.val (x : Rw) : Value := .slice x.A x.l.length x.c
def Rw.own (x : Rw) : Own := ⟨x.A, x.l.length, x.c, x.l.flatMap spL⟩
structure Stm where
 cpus : Int
 credit : Nat
 gA : Option Addr
 gc : Nat
 gs : List Gr
 lA : Option Addr
 lc : Nat
 cl : List Int
 uA : Option Addr
 uc : Nat
 cu : List Int
 tA : Option Addr
 tc : Nat
 ts : List Tk
 sA : Option Addr
 sc : Nat
 rs : List Rw
def Stm.sta (x : Stm) : Sta := ⟨x.cpus, x.credit, x.gs, x.cl, x.cu, x.ts, x.rs.map Rw.l⟩
def Stm.cells (x : Stm) : Array Value := #[.int .i64 x.cpus, .int .u64 (x.credit : Int), .slice x.gA x.gs.length x.gc, .slice x.lA x.cl.length x.lc, .slice x.uA x.cu.length x.uc, .slice x.tA x.ts.length x.tc, .slice x.sA x.rs.length x.sc]
theorem qgb (x : Stm) : ∀ v ∈ x.cells.toList, v.oneCell' = true := by simp [Stm.cells, Value.oneCell']
structure StRd (w : World) (x : Stm) : Prop where
 g : Rd w w.heap.size 2 x.gA x.gs.length (x.gs.flatMap grL)
 l : Rd w w.heap.size 1 x.lA x.cl.length (x.cl.map I64i)
 u : Rd w w.heap.size 1 x.uA x.cu.length (x.cu.map I64i)
 t : Rd w w.heap.size 8 x.tA x.ts.length (x.ts.flatMap tkL)
 s : Rd w w.heap.size 1 x.sA x.rs.length (x.rs.map Rw.val)
 r : ∀ y ∈ x.rs, Rd w w.heap.size 3 y.A y.l.length (y.l.flatMap spL)
structure StCap (x : Stm) : Prop where
 g : x.gs.length ≤ x.gc
 l : x.cl.length ≤ x.lc
 u : x.cu.length ≤ x.uc
 t : x.ts.length ≤ x.tc
 s : x.rs.length ≤ x.sc
 r : ∀ y ∈ x.rs, y.l.length ≤ y.c
structure StFew (x : Stm) : Prop where
 g : x.gs.length ≤ 1000000
 l : x.cl.length ≤ 1000000
 u : x.cu.length ≤ 1000000
 t : x.ts.length ≤ 1000000
 s : x.rs.length ≤ 1000000
 r : ∀ y ∈ x.rs, y.l.length ≤ 1000000
theorem StRd.old {W w : World} {fs : List Fact} {x : Stm} (h : StRd W x) (HM : Mem W w fs) : StRd w x := ⟨HM.old h.g, HM.old h.l, HM.old h.u, HM.old h.t, HM.old h.s, fun y hy => HM.old (h.r y hy)⟩
theorem rs_at {x : Stm} {g : Nat} (h : g < x.rs.length) : x.sta.sp.getD g [] = (x.rs.getD g Rw.zero).l := by
 show (x.rs.map Rw.l).getD g [] = _
 rw [List.getD_eq_getElem?_getD, List.getD_eq_getElem?_getD, List.getElem?_map, List.getElem?_eq_getElem h]
 rfl
theorem StRd.row {w : World} {x : Stm} (h : StRd w x) {g : Nat} (hg : g < x.rs.length) : Rd w w.heap.size 3 (x.rs.getD g Rw.zero).A (x.rs.getD g Rw.zero).l.length ((x.rs.getD g Rw.zero).l.flatMap spL) := h.r _ (qu Rw.zero hg)
theorem si_gr : SI Tryz.prog 40 2 := ⟨by kernel_rfl, by kernel_rfl⟩
theorem si_tk : SI Tryz.prog 46 8 := ⟨by kernel_rfl, by kernel_rfl⟩
theorem si_sp : SI Tryz.prog 43 3 := ⟨by kernel_rfl, by kernel_rfl⟩
theorem qa9 : SI Tryz.prog 25 3 := ⟨by kernel_rfl, by kernel_rfl⟩
theorem si_st : SI Tryz.prog 30 7 := ⟨by kernel_rfl, by kernel_rfl⟩
theorem qwz : SI Tryz.prog 183 3 := ⟨by kernel_rfl, by kernel_rfl⟩
theorem qqx : SI Tryz.prog 200 3 := ⟨by kernel_rfl, by kernel_rfl⟩
theorem z4 : SI Tryz.prog 32 8 := ⟨by kernel_rfl, by kernel_rfl⟩
theorem zi : SI Tryz.prog 56 8 := ⟨by kernel_rfl, by kernel_rfl⟩
theorem ei_gr : EI Tryz.prog 23 40 (.agg Gr.zero.cells) 2 16 := ⟨by kernel_rfl, by kernel_rfl, rfl, by omega⟩
theorem ei_tk : EI Tryz.prog 27 46 (.agg Tk.zero.cells) 8 64 := ⟨by kernel_rfl, by kernel_rfl, rfl, by omega⟩
theorem ei_sp : EI Tryz.prog 44 43 (.agg Sp.zero.cells) 3 24 := ⟨by kernel_rfl, by kernel_rfl, rfl, by omega⟩
theorem ei_rw : EI Tryz.prog 28 44 (.slice none 0 0) 1 24 := ⟨by kernel_rfl, by kernel_rfl, rfl, by omega⟩
section
variable {w w' : World} {p q : Prop} [Decidable p] [Decidable q]
theorem qhj (h : q ↔ p) (hb : Below w.heap.size w w') : Is w (.bool (decide p)) (.returned (.bool (decide q))) w' := ⟨by rw [decide_eq_decide.2 h], hb⟩
theorem qhk (h : p) (hb : Below w.heap.size w w') : Is w (.bool (decide p)) (.returned (.bool true)) w' := ⟨by rw [decide_eq_true h], hb⟩
theorem is_no (h : ¬ p) (hb : Below w.heap.size w w') : Is w (.bool (decide p)) (.returned (.bool false)) w' := ⟨by rw [decide_eq_false h], hb⟩
theorem is_as {a b : Bool} (h : a = b) (hb : Below w.heap.size w w') : Is w (.bool b) (.returned (.bool a)) w' := h ▸ ⟨rfl, hb⟩
end
theorem qb7 {l : List Gr} (h : ¬ (1 ≤ l.length ∧ l.length ≤ 256 ∧ l.getD 0 Gr.zero = ⟨0, 1⟩)) : gsOk l = false := by unfold gsOk; rw [decide_eq_false h, Bool.false_and]
theorem qeq {l : List Gr} {g : Nat} (hg : g < l.length) (h : gOk l g = false) : gsOk l = false := by unfold gsOk; rw [qy hg h, Bool.and_false]
theorem qmt {l : List Gr} (h : 1 ≤ l.length ∧ l.length ≤ 256 ∧ l.getD 0 Gr.zero = ⟨0, 1⟩) (hu : UpTo l.length (gOk l)) : gsOk l = true := by unfold gsOk; rw [decide_eq_true h, hu.all]; rfl
theorem qmu (l : List Gr) : gOk l 0 = true := rfl
theorem qhl {l : List Gr} {g : Nat} (h0 : 0 < g) (h : ¬ (0 ≤ (l.getD g Gr.zero).parent ∧ (l.getD g Gr.zero).parent < g ∧ (1 ≤ (l.getD g Gr.zero).weight ∧ (l.getD g Gr.zero).weight ≤ 65536) ∧ depG l g ≤ 4)) : gOk l g = false := by
 unfold gOk wOk
 rw [Bool.or_eq_false_iff, beq_eq_false_iff_ne, decide_eq_false_iff_not, decide_eq_true_eq]
 exact ⟨by omega, h⟩
theorem qqy {l : List Gr} {g : Nat} (h : 0 ≤ (l.getD g Gr.zero).parent ∧ (l.getD g Gr.zero).parent < g ∧ (1 ≤ (l.getD g Gr.zero).weight ∧ (l.getD g Gr.zero).weight ≤ 65536) ∧ depG l g ≤ 4) : gOk l g = true := by
 unfold gOk wOk
 rw [Bool.or_eq_true, decide_eq_true_eq, decide_eq_true_eq]
 exact .inr h
theorem qqz {l : List Gr} {g : Nat} (hu : UpTo g (gOk l)) (h : 0 ≤ (l.getD g Gr.zero).parent ∧ (l.getD g Gr.zero).parent < g) : ∀ i, 0 < i → i ≤ g → ParB l i := fun i h0 hi => by
 rcases Nat.lt_or_ge i g with h1 | h1
 ·exact qid (hu i h1) h0
 ·obtain rfl : i = g := by omega
  exact h
theorem qmv (x y : Gr) : zm Tryz.prog 4 40 (.agg x.cells) (.agg y.cells) = some (decide (x = y)) := by
 have h : zm Tryz.prog 4 40 (.agg x.cells) (.agg y.cells) = some ((x.parent == y.parent) && ((x.weight == y.weight) && true)) := by kernel_rfl
 refine h.trans (congrArg some ?_)
 obtain ⟨a, b⟩ := x
 obtain ⟨c, d⟩ := y
 rw [Bool.eq_iff_iff]
 simp only [Bool.and_eq_true, beq_iff_eq, decide_eq_true_eq, Gr.mk.injEq, and_true]
theorem qya {m n : Nat} (h : 1 ≤ n) : (((m / 2 ^ (n - 1) / 2 : Nat) : Int) != (0 : Int)) = decide (2 ^ n ≤ m) := by
 have e : m / 2 ^ (n - 1) / 2 = m / 2 ^ n := by rw [Nat.div_div_eq_div_mul, ← Nat.pow_succ, show (n - 1).succ = n by omega]
 rw [e, Bool.eq_iff_iff, bne_iff_ne, decide_eq_true_eq]
 have h1 := @Nat.div_pos_iff m (2 ^ n)
 have h2 : 0 < 2 ^ n := Nat.two_pow_pos n
 generalize m / 2 ^ n = q at *
 constructor
 ·intro h3
  exact (h1.1 (by omega)).2
 ·intro h3
  have := h1.2 ⟨h2, h3⟩
  omega
section
variable {x : Stm} {t : Tk}
theorem qcf (h : ¬ (1 ≤ t.id ∧ t.id ≤ 65535 ∧ 0 ≤ t.group ∧ t.group < x.rs.length ∧ 0 ≤ t.cpu ∧ t.cpu < x.cpus)) : tkOk1 x.sta t = false := by
 unfold tkOk1
 rw [decide_eq_false (by rwa [show x.sta.sp.length = x.rs.length from List.length_map ..]), Bool.false_and]
theorem qq0 (h : ¬ (1 ≤ t.weight ∧ t.weight ≤ 65536)) : tkOk1 x.sta t = false := by unfold tkOk1 wOk; rw [decide_eq_false h, Bool.false_and, Bool.and_false]
theorem qw1 (h : 2 ^ x.cpus.toNat ≤ t.mask) : tkOk1 x.sta t = false := by
 unfold tkOk1 qp9
 rw [show decide (2 ^ x.sta.cpus.toNat ≤ t.mask) = true from decide_eq_true h]
 simp
theorem qw2 (h : ¬ t.mask / 2 ^ t.cpu.toNat % 2 = 1) : tkOk1 x.sta t = false := by unfold tkOk1; rw [decide_eq_false h]; simp
theorem qq1 (h : 1 ≤ t.id ∧ t.id ≤ 65535 ∧ 0 ≤ t.group ∧ t.group < x.rs.length ∧ 0 ≤ t.cpu ∧ t.cpu < x.cpus) (h2 : 1 ≤ t.weight ∧ t.weight ≤ 65536) (h3 : ¬ 2 ^ x.cpus.toNat ≤ t.mask) (h4 : t.mask / 2 ^ t.cpu.toNat % 2 = 1) : tkOk1 x.sta t = entOk t.v t.r t.weight := by
 unfold tkOk1 wOk qp9
 rw [decide_eq_true (by rwa [show x.sta.sp.length = x.rs.length from List.length_map ..]), decide_eq_true h2, show decide (2 ^ x.sta.cpus.toNat ≤ t.mask) = false from decide_eq_false h3, decide_eq_true h4]
 simp
theorem qhm (h : ¬ (1 ≤ x.cpus ∧ x.cpus ≤ 64 ∧ x.credit ≤ 1099511627776)) : cfgOk x.sta = false := by unfold cfgOk; rw [show decide (1 ≤ x.sta.cpus ∧ x.sta.cpus ≤ 64 ∧ x.sta.credit ≤ 1099511627776) = false from decide_eq_false h]; rfl
theorem qq2 (h : 1 ≤ x.cpus ∧ x.cpus ≤ 64 ∧ x.credit ≤ 1099511627776) : cfgOk x.sta = gsOk x.gs := by unfold cfgOk; rw [show decide (1 ≤ x.sta.cpus ∧ x.sta.cpus ≤ 64 ∧ x.sta.credit ≤ 1099511627776) = true from decide_eq_true h]; rfl
theorem qc2 (h : cfgOk x.sta = true) : 1 ≤ x.cpus ∧ x.cpus ≤ 64 ∧ x.credit ≤ 1099511627776 ∧ gsOk x.gs = true := by
 unfold cfgOk at h
 rw [Bool.and_eq_true, decide_eq_true_eq] at h
 exact ⟨h.1.1, h.1.2.1, h.1.2.2, h.2⟩
end
def BadAt (w : World) (n : Nat) (p : Nat → Bool) (r : Ending) (w' : World) : Prop := (∃ i : Int, r = .returned (.int .i64 i) ∧ decide (i ≥ 0) = !allN n p) ∧ Below w.heap.size w w'
theorem qou {w w' : World} {n k : Nat} {p : Nat → Bool} (hk : k < n) (h : p k = false) (hb : Below w.heap.size w w') : BadAt w n p (.returned (.int .i64 (k : Int))) w' := ⟨⟨k, rfl, by rw [qy hk h, decide_eq_true (by omega)]; rfl⟩, hb⟩
theorem qov {w w' : World} {n : Nat} {p : Nat → Bool} (hu : UpTo n p) (hb : Below w.heap.size w w') : BadAt w n p (.returned (.int .i64 (-1))) w' := ⟨⟨-1, rfl, by rw [hu.all]; rfl⟩, hb⟩
def qgg (w : World) (l : List Gr) (r : Ending) (w' : World) : Prop := (∃ i e : Int, r = .returned (.tuple #[.int .i64 i, .int .i64 e]) ∧ ((e == 0) = gsOk l)) ∧ Below w.heap.size w w'
theorem qat {w w' : World} {l : List Gr} {i e : Int} (h : gsOk l = false) (he : e ≠ 0) (hb : Below w.heap.size w w') : qgg w l (.returned (.tuple #[.int .i64 i, .int .i64 e])) w' := ⟨⟨i, e, rfl, by rw [h]; exact beq_false_of_ne he⟩, hb⟩
theorem qln {w w' : World} {l : List Gr} {i : Int} (h : gsOk l = true) (hb : Below w.heap.size w w') : qgg w l (.returned (.tuple #[.int .i64 i, .int .i64 0])) w' := ⟨⟨i, 0, rfl, by rw [h]; rfl⟩, hb⟩
section
variable {x : Stm} {g c i : Nat}
theorem qaq : x.sta.sp.length = x.rs.length := List.length_map ..
theorem qer : qmm x.sta = decide ((x.cl.length : Int) = x.cpus ∧ (x.cu.length : Int) = x.cpus ∧ x.rs.length = x.gs.length) := by unfold qmm; rw [qaq]; rfl
theorem q0n (h : cfgOk x.sta = false) : zb x.sta = false := by unfold zb; rw [h]; rfl
theorem qq3 (h : ¬ ((x.cl.length : Int) = x.cpus ∧ (x.cu.length : Int) = x.cpus ∧ x.rs.length = x.gs.length)) : zb x.sta = false := by unfold zb; rw [qer, decide_eq_false h, Bool.and_false, Bool.false_and]
theorem sh_cl (h : allN x.cl.length (fun c => clOk (x.cl.getD c 0)) = false) : zb x.sta = false := by unfold zb; rw [show allN x.sta.cl.length (fun c => clOk (x.sta.cl.getD c 0)) = false from h]; simp
theorem qw3 (hg : g < x.rs.length) (h : rowOk x.sta g = false) : zb x.sta = false := by unfold zb; rw [qy (n := x.sta.sp.length) (by rwa [qaq]) h]; simp
theorem sh_tk (hi : i < x.ts.length) (h : tkAt x.sta i = false) : zb x.sta = false := by unfold zb; rw [qy (n := x.sta.ts.length) hi h]; simp
theorem q0o (h1 : cfgOk x.sta = true) (h2 : (x.cl.length : Int) = x.cpus ∧ (x.cu.length : Int) = x.cpus ∧ x.rs.length = x.gs.length) (h3 : allN x.cl.length (fun c => clOk (x.cl.getD c 0)) = true) (h4 : UpTo x.rs.length (rowOk x.sta)) (h5 : UpTo x.ts.length (tkAt x.sta)) : zb x.sta = true := by
 unfold zb
 rw [h1, qer, decide_eq_true h2, show allN x.sta.cl.length (fun c => clOk (x.sta.cl.getD c 0)) = true from h3, qaq, h4.all, show allN x.sta.ts.length (tkAt x.sta) = true from h5.all]
 rfl
structure ShAt (x : Stm) : Prop where
 cfg : cfgOk x.sta = true
 cl : (x.cl.length : Int) = x.cpus
 cu : (x.cu.length : Int) = x.cpus
 rs : x.rs.length = x.gs.length
 cls : ∀ c, c < x.cl.length → clOk (x.cl.getD c 0) = true
 row : ∀ g, g < x.rs.length → rowOk x.sta g = true
 tk : ∀ i, i < x.ts.length → tkAt x.sta i = true
theorem sh_at (h : zb x.sta = true) : ShAt x := by
 unfold zb at h
 simp only [Bool.and_eq_true] at h
 obtain ⟨⟨h1, h2⟩, h3, h4, h5⟩ := h
 rw [qer, decide_eq_true_eq] at h2
 rw [qaq] at h4
 exact ⟨h1, h2.1, h2.2.1, h2.2.2, fun c hc => qb0 h3 hc, fun g hg => qb0 h4 hg, fun i hi => qb0 h5 hi⟩
theorem qmw (hg : g < x.rs.length) : rowOk x.sta g = (decide (((x.rs.getD g Rw.zero).l.length : Int) = x.cpus) && allN (x.rs.getD g Rw.zero).l.length fun c => spOk x.sta g ((x.rs.getD g Rw.zero).l.getD c Sp.zero)) := by
 unfold rowOk Sta.spot
 rw [rs_at hg]
 rfl
theorem qq4 (hg : g < x.rs.length) (h : ((x.rs.getD g Rw.zero).l.length : Int) ≠ x.cpus) : rowOk x.sta g = false := by rw [qmw hg, decide_eq_false h]; rfl
theorem qq5 (hg : g < x.rs.length) (hc : c < (x.rs.getD g Rw.zero).l.length) (h : spOk x.sta g ((x.rs.getD g Rw.zero).l.getD c Sp.zero) = false) : rowOk x.sta g = false := by rw [qmw hg, qy hc h, Bool.and_false]
theorem qq6 (hg : g < x.rs.length) (h : ((x.rs.getD g Rw.zero).l.length : Int) = x.cpus) (hu : UpTo (x.rs.getD g Rw.zero).l.length (fun c => spOk x.sta g ((x.rs.getD g Rw.zero).l.getD c Sp.zero))) : rowOk x.sta g = true := by rw [qmw hg, decide_eq_true h, hu.all]; rfl
theorem qgh (hg : g < x.rs.length) (h : rowOk x.sta g = true) : ((x.rs.getD g Rw.zero).l.length : Int) = x.cpus ∧ ∀ c, c < (x.rs.getD g Rw.zero).l.length → spOk x.sta g ((x.rs.getD g Rw.zero).l.getD c Sp.zero) = true := by
 rw [qmw hg, Bool.and_eq_true, decide_eq_true_eq] at h
 exact ⟨h.1, fun c hc => qb0 h.2 hc⟩
variable {z : Sp}
theorem qw4 (h : entOk z.v z.r (x.gs.getD g Gr.zero).weight = false) : spOk x.sta g z = false := by unfold spOk; rw [show entOk z.v z.r (x.sta.gs.getD g Gr.zero).weight = false from h]; rfl
theorem qw5 (h0 : g = 0) (h : ¬ (z.v = 0 ∧ z.r = 0)) : spOk x.sta g z = false := by unfold spOk; rw [decide_eq_false h, h0]; simp
theorem qq7 (h : entOk z.v z.r (x.gs.getD g Gr.zero).weight = true) (h0 : g ≠ 0) : spOk x.sta g z = true := by unfold spOk; rw [show entOk z.v z.r (x.sta.gs.getD g Gr.zero).weight = true from h]; simp [h0]
theorem qq8 (h : entOk z.v z.r (x.gs.getD g Gr.zero).weight = true) (h0 : g = 0) (hv : z.v = 0) : ((z.r : Int) != (0 : Int)) = !spOk x.sta g z := by
 unfold spOk
 rw [show entOk z.v z.r (x.sta.gs.getD g Gr.zero).weight = true from h, h0, hv]
 rw [Bool.eq_iff_iff, bne_iff_ne]
 simp
theorem qq9 (h0 : i = 0 ∨ (x.ts.getD (i - 1) Tk.zero).id < (x.ts.getD i Tk.zero).id) : tkAt x.sta i = tkOk1 x.sta (x.ts.getD i Tk.zero) := by
 unfold tkAt
 rw [show (i == 0 || decide ((x.sta.ts.getD (i - 1) Tk.zero).id < (x.sta.ts.getD i Tk.zero).id)) = true from by rw [Bool.or_eq_true, beq_iff_eq, decide_eq_true_eq]; exact h0]
 rfl
theorem qmx (h0 : 0 < i) (h : ¬ (x.ts.getD (i - 1) Tk.zero).id < (x.ts.getD i Tk.zero).id) : tkAt x.sta i = false := by
 unfold tkAt
 rw [show decide ((x.sta.ts.getD (i - 1) Tk.zero).id < (x.sta.ts.getD i Tk.zero).id) = false from decide_eq_false h, show (i == 0) = false from by rw [beq_eq_false_iff_ne]; omega]
 rfl
theorem qmy (h : tkOk1 x.sta (x.ts.getD i Tk.zero) = false) : tkAt x.sta i = false := by unfold tkAt; rw [show tkOk1 x.sta (x.sta.ts.getD i Tk.zero) = false from h, Bool.and_false]
theorem qux (h0 : i = 0 ∨ (x.ts.getD (i - 1) Tk.zero).id < (x.ts.getD i Tk.zero).id) (h : tkOk1 x.sta (x.ts.getD i Tk.zero) = true) : tkAt x.sta i = true := by
 unfold tkAt
 rw [show tkOk1 x.sta (x.sta.ts.getD i Tk.zero) = true from h, Bool.and_true, Bool.or_eq_true, beq_iff_eq, decide_eq_true_eq]
 exact h0
theorem qin (h : tkAt x.sta i = true) : (i = 0 ∨ (x.ts.getD (i - 1) Tk.zero).id < (x.ts.getD i Tk.zero).id) ∧ tkOk1 x.sta (x.ts.getD i Tk.zero) = true := by
 unfold tkAt at h
 rw [Bool.and_eq_true, Bool.or_eq_true, beq_iff_eq, decide_eq_true_eq] at h
 exact h
end
theorem wt_at {l : List Gr} (h : gsOk l = true) {g : Nat} (hg : g < l.length) : 1 ≤ (l.getD g Gr.zero).weight ∧ (l.getD g Gr.zero).weight ≤ 65536 := by
 obtain ⟨_, _, h3, h4⟩ := qft h
 rcases Nat.eq_zero_or_pos g with h0 | h0
 ·subst h0; rw [h3]; decide
 ·have := h4 g hg
  unfold gOk wOk at this
  rw [Bool.or_eq_true, beq_iff_eq, decide_eq_true_eq, decide_eq_true_eq] at this
  rcases this with h | h
  ·omega
  ·exact h.2.2.1
def cmpI (a b : Int) : Int := if a < b then -1 else if b < a then 1 else 0
theorem qra {a b : Int} : decide (cmpI a b < 0) = decide (a < b) := by
 unfold cmpI
 split
 ·rename_i h; rw [decide_eq_true h]; rfl
 ·rename_i h; rw [decide_eq_false h]; split <;> rfl
theorem qrb {a b : Int} : (cmpI a b == 0) = decide (a = b) := by
 unfold cmpI
 split
 ·rename_i h; rw [decide_eq_false (by omega)]; rfl
 ·split
  ·rw [decide_eq_false (by omega)]; rfl
  ·rw [decide_eq_true (by omega)]; rfl
theorem qyb {a b : Int} : (cmpI a b != 0) = decide (a ≠ b) := by
 rw [bne, qrb, decide_not]
def SortT (l : List Tk) : Prop := ∀ i j, i < j → j < l.length → (l.getD i Tk.zero).id < (l.getD j Tk.zero).id
theorem qyc {x : Stm} (h : ShAt x) : SortT x.ts := by
 have step : ∀ i, i + 1 < x.ts.length → (x.ts.getD i Tk.zero).id < (x.ts.getD (i + 1) Tk.zero).id := fun i hi => by
  have := (qin (h.tk (i + 1) hi)).1
  rw [Nat.add_sub_cancel] at this
  rcases this with h | h
  ·omega
  ·exact h
 intro i j hij
 induction j with
 | zero => omega
 | succ j ih =>
  intro hj
  have h1 := step j hj
  rcases Nat.lt_or_ge i j with h2 | h2
  ·have := ih h2 (by omega); omega
  ·obtain rfl : i = j := by omega
   exact h1
theorem qj5 {l : List Tk} {id : Int} {i : Nat} (hi : i < l.length) (h : (l.getD i Tk.zero).id = id) (hn : ∀ k, k < i → (l.getD k Tk.zero).id ≠ id) : findS l id = some i := by
 unfold findS
 rw [List.findIdx?_eq_some_iff_getElem]
 have e : ∀ k (hk : k < l.length), l.getD k Tk.zero = l[k] := fun k hk => by rw [List.getD_eq_getElem?_getD, List.getElem?_eq_getElem hk]; rfl
 refine ⟨hi, by rw [← e i hi]; exact beq_iff_eq.2 h, fun k hk => ?_⟩
 have := hn k hk
 rw [e k (by omega)] at this
 simpa using this
theorem qgi {l : List Tk} {id : Int} (hn : ∀ k, k < l.length → (l.getD k Tk.zero).id ≠ id) : findS l id = none := by
 unfold findS
 rw [List.findIdx?_eq_none_iff]
 intro t ht
 obtain ⟨k, hk, rfl⟩ := List.getElem_of_mem ht
 have := hn k hk
 rw [List.getD_eq_getElem?_getD, List.getElem?_eq_getElem hk] at this
 simpa using this
theorem qrc {l : List Tk} {id : Int} {i : Nat} (h : findS l id = some i) : i < l.length ∧ (l.getD i Tk.zero).id = id := by
 unfold findS at h
 rw [List.findIdx?_eq_some_iff_getElem] at h
 obtain ⟨hi, h1, _⟩ := h
 exact ⟨hi, by rw [List.getD_eq_getElem?_getD, List.getElem?_eq_getElem hi]; exact beq_iff_eq.1 h1⟩
def fidx (l : List Tk) (id : Int) : Int := match findS l id with
 | some i => (i : Int)
 | none => -1
def qfj (w : World) (l : List Tk) (id : Int) (r : Ending) (w' : World) : Prop := (∃ (i : Nat) (b : Bool), r = .returned (.tuple #[.int .i64 (i : Int), .bool b]) ∧ i ≤ l.length ∧ (if b = true then (i : Int) else -1) = fidx l id) ∧ Below w.heap.size w w'
theorem qrd {w w' : World} {l : List Tk} {id : Int} {i : Nat} (hs : SortT l) (hi : i < l.length) (h1 : ∀ k, k < i → (l.getD k Tk.zero).id < id) (h2 : ∀ k, i ≤ k → k < l.length → id ≤ (l.getD k Tk.zero).id) (hb : Below w.heap.size w w') : qfj w l id (.returned (.tuple #[.int .i64 (i : Int), .bool (decide ((l.getD i Tk.zero).id = id))])) w' := by
 refine ⟨⟨i, _, rfl, by omega, ?_⟩, hb⟩
 unfold fidx
 by_cases h : (l.getD i Tk.zero).id = id
 ·rw [decide_eq_true h, if_pos rfl, qj5 hi h (fun k hk => by have := h1 k hk; omega)]
 ·rw [decide_eq_false h, if_neg (by decide), qgi (fun k hk => ?_)]
  rcases Nat.lt_or_ge k i with h3 | h3
  ·have := h1 k h3; omega
  ·have h4 := h2 i (Nat.le_refl _) hi
   rcases Nat.lt_or_ge i k with h5 | h5
   ·have := hs i k h5 hk; omega
   ·obtain rfl : k = i := by omega
    exact h
theorem search_end {w w' : World} {l : List Tk} {id : Int} (h1 : ∀ k, k < l.length → (l.getD k Tk.zero).id < id) (hb : Below w.heap.size w w') : qfj w l id (.returned (.tuple #[.int .i64 (l.length : Int), .bool false])) w' := by
 refine ⟨⟨_, _, rfl, Nat.le_refl _, ?_⟩, hb⟩
 unfold fidx
 rw [if_neg (by decide), qgi (fun k hk => by have := h1 k hk; omega)]
theorem qds {x : Stm} {c : Nat} (h0 : x.cu.getD c 0 ≠ 0) {i : Nat} (hi : findS x.ts (x.cu.getD c 0) = some i) : curOk x.sta c = ((x.ts.getD i Tk.zero).ready && decide ((x.ts.getD i Tk.zero).cpu = c)) := by
 unfold curOk
 rw [show findS x.sta.ts (x.sta.cu.getD c 0) = some i from hi, show decide (x.sta.cu.getD c 0 = 0) = false from decide_eq_false h0]
 rfl
theorem qhn {x : Stm} {c : Nat} (h0 : x.cu.getD c 0 ≠ 0) (hi : findS x.ts (x.cu.getD c 0) = none) : curOk x.sta c = false := by
 unfold curOk
 rw [show findS x.sta.ts (x.sta.cu.getD c 0) = none from hi, show decide (x.sta.cu.getD c 0 = 0) = false from decide_eq_false h0]
 rfl
theorem qho {x : Stm} {c : Nat} (h0 : x.cu.getD c 0 = 0) : curOk x.sta c = true := by
 unfold curOk
 rw [show decide (x.sta.cu.getD c 0 = 0) = true from decide_eq_true h0]
 rfl
theorem qhp (l : List Tk) (id : Int) : (fidx l id = -1 ∧ findS l id = none) ∨ ∃ i : Nat, fidx l id = i ∧ findS l id = some i ∧ i < l.length ∧ (l.getD i Tk.zero).id = id := by
 unfold fidx
 cases h : findS l id with
 | none => exact .inl ⟨rfl, rfl⟩
 | some i => exact .inr ⟨i, rfl, rfl, qrc h⟩
def Mb.nums (m : Mb) : List Nat := [m.v, m.k, m.id]
def Mb.cells (m : Mb) : Array Value := #[.int .u64 (m.v : Int), .int .u64 (m.k : Int), .int .u64 (m.id : Int)]
def Mb.Ok (m : Mb) : Prop := m.v < 18446744073709551616 ∧ m.k < 18446744073709551616 ∧ m.id < 18446744073709551616
theorem qm1 (x : Mb) : ∀ v ∈ x.cells.toList, v.oneCell' = true := by simp [Mb.cells, Value.oneCell']
theorem quy {a b : Mb} {k : Nat} (hk : k < 3) (he : ∀ i, i < k → a.nums.getD i 0 = b.nums.getD i 0) (hn : a.nums.getD k 0 ≠ b.nums.getD k 0) : decide (cmpI (a.nums.getD k 0 : Int) (b.nums.getD k 0 : Int) < 0) = a.lt b := by
 rw [qra]
 obtain ⟨a0, a1, a2⟩ := a
 obtain ⟨b0, b1, b2⟩ := b
 unfold Mb.lt
 rw [decide_eq_decide]
 dsimp only
 rcases k with _ | _ | _ | k
 ·simp [Mb.nums] at hn ⊢; omega
 ·have h0 := he 0 (by omega)
  simp [Mb.nums] at hn h0 ⊢; omega
 ·have h0 := he 0 (by omega)
  have h1 := he 1 (by omega)
  simp [Mb.nums] at hn h0 h1 ⊢; omega
 ·omega
theorem quz {a b : Mb} (he : ∀ i, i < 3 → a.nums.getD i 0 = b.nums.getD i 0) : a.lt b = false := by
 obtain ⟨a0, a1, a2⟩ := a
 obtain ⟨b0, b1, b2⟩ := b
 have h0 := he 0 (by omega)
 have h1 := he 1 (by omega)
 have h2 := he 2 (by omega)
 simp [Mb.nums] at h0 h1 h2
 subst h0; subst h1; subst h2
 unfold Mb.lt
 rw [decide_eq_false_iff_not]
 simp
def MbCmp (w : World) (a b : Mb) (r : Ending) (w' : World) : Prop := (∃ c : Int, r = .returned (.int .i64 c) ∧ decide (c < 0) = a.lt b) ∧ Below w.heap.size w w'
theorem qhq (b : Mb) (l : List Mb) (m : Mb) : bestM b (l ++ [m]) = if m.lt (bestM b l) then m else bestM b l := by unfold bestM; rw [List.foldl_append]; rfl
theorem z5 {α β : Type} {f : α → Option β} {l : List α} {k : Nat} (d : α) (hk : k < l.length) : (l.take (k + 1)).filterMap f = (l.take k).filterMap f ++ (f (l.getD k d)).toList := by
 rw [takeSnoc' d hk, List.filterMap_append]
 congr 1
where
 takeSnoc' {α : Type} {l : List α} {k : Nat} (d : α) (hk : k < l.length) : l.take (k + 1) = l.take k ++ [l.getD k d] := by
  rw [List.take_add_one, List.getElem?_eq_getElem hk, List.getD_eq_getElem?_getD, List.getElem?_eq_getElem hk]
  rfl
theorem qu0 {w w' : World} {a b : Mb} {k : Nat} (hk : k < 3) (he : ∀ i, i < k → a.nums.getD i 0 = b.nums.getD i 0) (hn : a.nums.getD k 0 ≠ b.nums.getD k 0) (hb : Below w.heap.size w w') : MbCmp w a b (.returned (.int .i64 (cmpI (a.nums.getD k 0 : Int) (b.nums.getD k 0 : Int)))) w' := ⟨⟨_, rfl, quy hk he hn⟩, hb⟩
theorem qu1 {w w' : World} {a b : Mb} (he : ∀ i, i < 3 → a.nums.getD i 0 = b.nums.getD i 0) (hb : Below w.heap.size w w') : MbCmp w a b (.returned (.int .i64 0)) w' := ⟨⟨_, rfl, by rw [quz he]; rfl⟩, hb⟩
theorem qlo {n g h : Nat} (h1 : g + 1 ≤ h) (h2 : h < n) : ((List.range n).drop (g + 1)).getD (h - (g + 1)) 0 = h ∧ h - (g + 1) < ((List.range n).drop (g + 1)).length := by
 have hl : h - (g + 1) < ((List.range n).drop (g + 1)).length := by simp; omega
 refine ⟨?_, hl⟩
 rw [List.getD_eq_getElem?_getD, List.getElem?_eq_getElem hl, List.getElem_drop, List.getElem_range]
 show g + 1 + (h - (g + 1)) = h
 omega
theorem qio {β : Type} {f : Nat → Option β} {n g h : Nat} (h1 : g + 1 ≤ h) (h2 : h < n) : (((List.range n).drop (g + 1)).take (h + 1 - (g + 1))).filterMap f = (((List.range n).drop (g + 1)).take (h - (g + 1))).filterMap f ++ (f h).toList := by
 obtain ⟨e, hl⟩ := qlo h1 h2
 have := z5 (f := f) 0 hl
 rw [e] at this
 rw [show h + 1 - (g + 1) = h - (g + 1) + 1 by omega]
 exact this
theorem qre {β : Type} {f : Nat → Option β} {n g : Nat} : (((List.range n).drop (g + 1)).take (n - (g + 1))).filterMap f = ((List.range n).drop (g + 1)).filterMap f := by rw [List.take_of_length_le (by simp)]
section
variable {x : Stm} {g c h : Nat} {m : Nat → List Mb}
theorem qj6 (hp : (x.gs.getD h Gr.zero).parent ≠ g) : grpM x.sta c m g h = none := if_neg (fun hh => hp hh.1)
theorem qj7 (hm : m h = []) : grpM x.sta c m g h = none := if_neg (fun hh => hh.2 hm)
theorem qm2 (hr : h < x.rs.length) (hp : (x.gs.getD h Gr.zero).parent = g) (hm : m h ≠ []) : grpM x.sta c m g h = some ⟨((x.rs.getD h Rw.zero).l.getD c Sp.zero).v, 1, h⟩ := by
 unfold grpM
 rw [if_pos ⟨hp, hm⟩]
 unfold Sta.spot
 rw [rs_at hr]
theorem r_no0 (h0 : zb x.sta = false) : zz x.sta = false := by unfold zz; rw [h0]; rfl
theorem r_no1 (hc : c < x.cu.length) (h : curOk x.sta c = false) : zz x.sta = false := by unfold zz; rw [qy (n := x.sta.cu.length) hc (by rw [h]; rfl), Bool.and_false]
theorem r_no2 (hc : c < x.cu.length) (hg : g < x.rs.length) (h : lowS x.sta g c = false) : zz x.sta = false := by
 unfold zz
 rw [qy (n := x.sta.cu.length) hc (by rw [qy (n := x.sta.sp.length) (p := fun g => lowS x.sta g c) (i := g) (by rwa [qaq]) h, Bool.and_false]), Bool.and_false]
theorem r_yes (h0 : zb x.sta = true) (hu : UpTo x.cu.length fun c => curOk x.sta c && allN x.rs.length fun g => lowS x.sta g c) : zz x.sta = true := by
 unfold zz
 rw [h0, qaq, show allN x.sta.cu.length _ = true from hu.all]
 rfl
theorem qlp (h : memS x.sta g c = []) : lowS x.sta g c = true := decide_eq_true (.inl h)
theorem qrf (h : memS x.sta g c ≠ []) : lowS x.sta g c = decide ((bestM topM (memS x.sta g c)).v ≤ (x.sta.spot g c).floor) := by
 unfold lowS
 exact decide_eq_decide.2 ⟨fun hh => hh.resolve_left h, .inr⟩
theorem qlq (hr : g < x.rs.length) : x.sta.spot g c = (x.rs.getD g Rw.zero).l.getD c Sp.zero := by unfold Sta.spot; rw [rs_at hr]
end
theorem qye {l : List Gr} {g : Nat} (h : ∀ i, 0 < i → i ≤ g → ParB l i) : depG l g ≤ g := by
 induction g using Nat.strongRecOn with
 | _ g ih =>
  rcases Nat.eq_zero_or_pos g with h0 | h0
  ·subst h0; exact Nat.le_refl _
  ·have hg := h g h0 (Nat.le_refl _)
   unfold ParB at hg
   have := ih (l.getD g Gr.zero).parent.toNat (by omega) (fun i h1 h2 => h i h1 (by omega))
   rw [qfs h h0]
   omega
theorem qj8 (x : Int) (w : World) : Calls Tryz.prog 153 #[.int .i64 x] w (Is w (.bool (decide (1 ≤ x ∧ x ≤ 65536)))) := by
 refine s_ce Tryz.func153 [vI x] [(0, vI x)] fun a HF => ?_
 have HM := Mem.start w
 refine s_fs1 ?_
 refine fp HF 1 0 [(2, .bool false)] fun a HF => ?_
 refine s_d0 (s_fs1 ?_)
 refine fp HF 3 0 [(5, .bool (decide ((x : Int) ≥ (1 : Int))))] fun a HF => ?_
 rcases HF.tf 5 rfl with ⟨hb5, HF⟩ | ⟨hb5, HF⟩
 ·
  have hd5 := of_decide_eq_true hb5
  refine fp HF 4 3 [(2, .bool (decide ((x : Int) ≤ (65536 : Int))))] fun a HF => ?_
  refine s_d0 (wp_ret ?_)
  exact s_rt1 rfl HF rfl (qhj (by omega) HM.below)
 have hd5 := of_decide_eq_false hb5
 refine fp HF 4 3 [(2, .bool false)] fun a HF => ?_
 refine s_d0 (wp_ret ?_)
 exact s_rt1 rfl HF rfl (is_no (by omega) HM.below)
theorem qj9 (x : Int) (w : World) : Calls Tryz.prog 141 #[.int .i64 x] w (Is w (.bool (decide (1 ≤ x ∧ x ≤ 65536)))) := by
 refine s_ce Tryz.func141 [vI x] [(0, vI x)] fun a HF => ?_
 have HM := Mem.start w
 refine s_fs1 ?_
 refine fp HF 1 0 [(2, .bool false)] fun a HF => ?_
 refine s_d0 (s_fs1 ?_)
 refine fp HF 3 0 [(5, .bool (decide ((x : Int) ≥ (1 : Int))))] fun a HF => ?_
 rcases HF.tf 5 rfl with ⟨hb5, HF⟩ | ⟨hb5, HF⟩
 ·
  have hd5 := of_decide_eq_true hb5
  refine fp HF 4 3 [(2, .bool (decide ((x : Int) ≤ (65536 : Int))))] fun a HF => ?_
  refine s_d0 (wp_ret ?_)
  exact s_rt1 rfl HF rfl (qhj (by omega) HM.below)
 have hd5 := of_decide_eq_false hb5
 refine fp HF 4 3 [(2, .bool false)] fun a HF => ?_
 refine s_d0 (wp_ret ?_)
 exact s_rt1 rfl HF rfl (is_no (by omega) HM.below)
theorem qka (x : Int) (w : World) : Calls Tryz.prog 142 #[.int .i64 x] w (Is w (.bool (decide (1 ≤ x ∧ x ≤ 65536)))) := by
 refine s_ce Tryz.func142 [vI x] [(0, vI x)] fun a HF => ?_
 have HM := Mem.start w
 refine s_fs1 ?_
 refine fp HF 1 0 [(2, .bool false)] fun a HF => ?_
 refine s_d0 (s_fs1 ?_)
 refine fp HF 3 0 [(5, .bool (decide ((x : Int) ≥ (1 : Int))))] fun a HF => ?_
 rcases HF.tf 5 rfl with ⟨hb5, HF⟩ | ⟨hb5, HF⟩
 ·
  have hd5 := of_decide_eq_true hb5
  refine fp HF 4 3 [(2, .bool (decide ((x : Int) ≤ (65536 : Int))))] fun a HF => ?_
  refine s_d0 (wp_ret ?_)
  exact s_rt1 rfl HF rfl (qhj (by omega) HM.below)
 have hd5 := of_decide_eq_false hb5
 refine fp HF 4 3 [(2, .bool false)] fun a HF => ?_
 refine s_d0 (wp_ret ?_)
 exact s_rt1 rfl HF rfl (is_no (by omega) HM.below)
theorem qip (x : Int) (w : World) : Calls Tryz.prog 149 #[.int .i64 x] w (Is w (.bool (decide (1 ≤ x ∧ x ≤ 65536)))) := by
 refine s_ce Tryz.func149 [vI x] [(0, vI x)] fun a HF => ?_
 have HM := Mem.start w
 refine s_fs1 ?_
 refine fp HF 1 0 [(2, .bool false)] fun a HF => ?_
 refine s_d0 (s_fs1 ?_)
 refine fp HF 3 0 [(5, .bool (decide ((x : Int) ≥ (1 : Int))))] fun a HF => ?_
 rcases HF.tf 5 rfl with ⟨hb5, HF⟩ | ⟨hb5, HF⟩
 ·
  have hd5 := of_decide_eq_true hb5
  refine fp HF 4 3 [(2, .bool (decide ((x : Int) ≤ (65536 : Int))))] fun a HF => ?_
  refine s_d0 (wp_ret ?_)
  exact s_rt1 rfl HF rfl (qhj (by omega) HM.below)
 have hd5 := of_decide_eq_false hb5
 refine fp HF 4 3 [(2, .bool false)] fun a HF => ?_
 refine s_d0 (wp_ret ?_)
 exact s_rt1 rfl HF rfl (is_no (by omega) HM.below)
theorem qyf (W w : World) (gg gl lp : Nat) (A : Option Addr) (c : Nat) (l : List Gr) (g : Nat) (Inv : Nat → List Fact → Prop) (F0 : List Fact) (hr : Rd W W.heap.size 2 A l.length (l.flatMap grL)) (hn : l.length ≤ 1000000) (hg : g < l.length) (hp : ∀ i, 0 < i → i ≤ g → ParB l i)
    (hy : qms Tryz.prog W lp (depG l g + 1) Inv) (hI0 : Inv 0 F0) (HM : Mem W w (.blk gg #[.int .i64 (g : Int)] 3 :: .blk gl #[.slice A l.length c] 23 :: F0)) :
    Calls Tryz.prog 156 (.func (.yield lp) #[] #[] :: [.pointer (some ⟨gg, 0, none⟩), .pointer (some ⟨gl, 0, none⟩)]).toArray w (qx9 W (Inv (depG l g + 1))) := by
 refine s_ce Tryz.func156 [.func (.yield lp) #[] #[], vP gg 0, vP gl 0] [(0, .func (.yield lp) #[] #[]), (1, vP gg 0), (2, vP gl 0)] fun a HF => ?_
 refine wp_block ?_
 refine qi (fun mS aS wS => ∃ (x : Nat) (i : Nat) (F : List Fact), (Inv i F) ∧ (x ≤ g) ∧ (depG l x + i = depG l g) ∧ mS = 0 + x ∧ Fr aS 16 [] [(0, .func (.yield lp) #[] #[]), (1, vP gg 0), (2, vP gl 0)] ∧ Mem W wS (.blk gg #[vI x] 3 :: .blk gl #[.slice A l.length c] 23 :: F)) (m := 0 + g) ⟨g, 0, F0, hI0, Nat.le_refl _, Nat.add_zero _, rfl, HF.sub (by kernel_rfl), HM.pt 2 [0, 1]⟩ ?_
 clear HF HM; rintro mS a w_ ⟨x, i, F, hI, hxg, hd, rfl, HF, HM⟩
 refine wp_seq (wp_seq ?_)
 refine qj2 (i := 2) ?_
 refine fp HF 1 0 [(4, .func (.yield lp) #[] #[])] fun a HF => ?_
 refine s_fc HF HM 1 0 fun a HF => ?_
 refine s_d0 ?_
 refine quw HF (i := 2) (vs := [vI x]) rfl rfl rfl rfl rfl rfl (by decide) (hy i F [.blk gg #[vI x] 3, .blk gl #[.slice A l.length c] 23] _ (x : Int) hI (by omega) (Mem.qt5 (es := F) HM)) qgd ?_
 clear HF HM; rintro v w20 a ⟨F2, HM, hv, hI2⟩ HF; injection hv with hv; subst hv
 replace HM : Mem W w20 (.blk gg #[vI x] 3 :: .blk gl #[.slice A l.length c] 23 :: F2) := Mem.qt5 (es := [.blk gg #[vI x] 3, .blk gl #[.slice A l.length c] 23]) HM
 refine fp HF 1 3 [(7, .bool true)] fun a HF => ?_
 refine s_fc HF HM 4 0 fun a HF => ?_
 refine fp HF 2 5 [(10, .bool (decide ((x : Int) > (0 : Int))))] fun a HF => ?_
 refine s_d0 ?_
 rcases HF.tf 10 rfl with ⟨hb10, HF⟩ | ⟨hb10, HF⟩
 ·
  have hd10 := of_decide_eq_true hb10
  have hx0 : 0 < x := by omega
  obtain ⟨hp1, hp2⟩ := hp x hx0 hxg
  obtain ⟨y, hy2⟩ : ∃ y : Nat, (l.getD x Gr.zero).parent = (y : Int) := ⟨(l.getD x Gr.zero).parent.toNat, by omega⟩
  have hdx := qfs (l := l) (g := x) (fun i h0 hi => hp i h0 (by omega)) hx0
  rw [hy2, Int.toNat_natCast] at hdx
  refine s_ct HF (wp_skip (wp_block (qa ?_)))
  refine s_fc HF HM 0 1 fun a HF => ?_
  refine s_fc HF HM 1 0 fun a HF => ?_
  obtain ⟨gA, oA, rfl, _⟩ := hr.qj (Nat.lt_of_le_of_lt (Nat.zero_le _) (show x < l.length from by omega)) (by decide)
  refine s_fz HF HM 2 rfl (v := vP gA (oA + x * 2)) (Yl.ix gA oA x 2 rfl rfl rfl) fun a HF => ?_
  refine fp HF 1 3 [(14, vP gA (oA + x * 2))] fun a HF => ?_
  refine s_fz HF HM 4 rfl (v := vI ((l.getD x Gr.zero).parent)) (Yl.qd rfl rfl (by kernel_rfl) (fun _ h => (by have := (h.old hr).partAt zo (k := x) (j := 0) (x := (l.getD x Gr.zero)) ((getD_at Gr.zero (by omega))) rfl; simpa using this))) fun a HF => ?_
  replace HF := HF.sp 15 (vI y) rfl (by rw [hy2])
  refine fo HF 5 rfl rfl (s_es HF HM 0 ?_)
  clear HM; intro w1_5 HM
  refine s_d0 ?_
  exact ⟨_, (by omega), y, i + 1, F2, hI2, by omega, by omega, rfl, HF.sub (by kernel_rfl), HM.pt 2 [0, 1]⟩
 have hd10 := of_decide_eq_false hb10
 obtain rfl : x = 0 := by omega
 have hd0 := qjj l
 refine s_cf HF (wp_exit ?_)
 have hin : i + 1 = depG l g + 1 := by omega
 rw [hin] at hI2
 exact norm0 rfl HF ⟨_, rfl, F2, Mem.qwr [.blk gg #[vI 0] 3, .blk gl #[.slice A l.length c] 23] HM, hI2⟩
theorem q0q (A : Option Addr) (n c : Nat) (g : Int) (w : World) :
    Calls Tryz.prog 155 #[.slice A n c, .int .i64 g] w fun r w' => ∃ gg gl, r = .returned (.func (.func 156) #[] #[.pointer (some ⟨gg, 0, none⟩), .pointer (some ⟨gl, 0, none⟩)]) ∧ Mem w w' [.blk gg #[.int .i64 g] 3, .blk gl #[.slice A n c] 23] := by
 refine s_ce Tryz.func155 [.slice A n c, vI g] [(0, .slice A n c), (1, vI g)] fun a HF => ?_
 have HM := Mem.start w
 refine s_fs1 ?_
 refine fo HF 0 rfl rfl (s_eb HF HM #[.slice A n c] ?_)
 clear HF HM; intro a w2 g2 HF HM
 refine fo HF 1 rfl rfl (s_eb HF HM #[vI g] ?_)
 clear HF HM; intro a w3 g3 HF HM
 refine fp HF 1 2 [(4, .nilFunc)] fun a HF => ?_
 refine s_d0 (s_fs1 ?_)
 refine s_fz HF HM 0 rfl (v := .func (.func 156) #[] #[vP g3 0, vP g2 0]) (Yl.makeFunc (fst := []) (caps := [vP g3 0, vP g2 0]) rfl rfl rfl) fun a HF => ?_
 refine fp HF 1 1 [(4, .func (.func 156) #[] #[vP g3 0, vP g2 0])] fun a HF => ?_
 refine s_d0 (wp_ret ?_)
 exact s_rt1 rfl HF rfl (⟨_, _, rfl, HM.pk [0, 1]⟩)
theorem qri (A : Option Addr) (c : Nat) (l : List Gr) (g : Nat) (w : World) (hr : Rd w w.heap.size 2 A l.length (l.flatMap grL)) (hn : l.length ≤ 1000000) (hg : g < l.length) (hp : ∀ i, 0 < i → i ≤ g → ParB l i) :
    Calls Tryz.prog 154 #[.slice A l.length c, .int .i64 (g : Int)] w (Is w (.int .i64 (depG l g : Int))) := by
 have hdep := qye hp
 refine qim (vs := [.slice A l.length c, vI g]) Tryz.func154 rfl rfl (by kernel_rfl) (σ0 := [(0, .slice A l.length c), (1, vI g)]) rfl ?_
 intro a HF
 have HM := Mem.start w
 refine s_fs1 ?_
 refine fp HF 1 0 [(4, vI 0)] fun a HF => ?_
 refine s_d0 (s_fs1 ?_)
 refine fo HF 0 rfl rfl (s_ea HF HM #[vI 0] ?_)
 clear HF HM; intro a w5 g5 HF HM
 refine fo HF 1 rfl rfl (s_es HF HM 0 ?_)
 clear HM; intro w1_1 HM
 refine s_d0 (wp_seq (s_fs1 ?_))
 refine fp HF 2 0 [(7, vI g), (6, .slice A l.length c)] fun a HF => ?_
 refine fo HF 2 rfl rfl ?_
 refine e_cl HF [.slice A l.length c, vI g] rfl rfl (q0q A l.length c (g : Int) _) ?_
 rintro _ w8 ⟨gg, gl, rfl, hm⟩
 refine ⟨_, rfl, ?_⟩
 replace HM := HM.join hm
 clear HF; intro a HF
 refine s_d0 (wp_block ?_)
 refine q0m HF HM (fun F => F = [.blk g5 #[vI (((depG l g + 1) : Int) - 1)] 3]) (fun _ _ => False) rfl (by kernel_rfl) ?_ ?_ (fun _ _ _ _ _ h => h.elim)
 ·
  clear HF HM; intro lp B rec w1 hrec HM
  have hy : qms Tryz.prog w lp (depG l g + 1) (fun i F => F = (.obj lp (.loop (rec .ready none)) :: .obj B (.deferred (some [])) :: [.blk g5 #[vI ((i : Int) - 1)] 3])) := by
   rintro i F fr w3 x rfl hi HM
   replace HM : Mem w _ (.obj lp (.loop (rec .ready none)) :: .obj B (.deferred (some [])) :: .blk g5 #[vI ((i : Int) - 1)] 3 :: fr) := HM
   refine qj3 (v1 := vI x) hrec HM (by decide) fun a HF => ?_
   refine wpIn_skip ?_
   refine ⟨(.obj B (.deferred (some [])) :: .blk g5 #[vI ((i : Int) - 1)] 3 :: fr), HM.pt (fs' := (.obj lp (.loop (rec .ready none)) :: .obj B (.deferred (some [])) :: .blk g5 #[vI ((i : Int) - 1)] 3 :: fr)) 3 [0, 1, 2], fun w4 HM => ?_⟩
   refine wpIn_block ?_
   refine qj0 ?_
   refine s_fc HF HM 0 2 fun a HF => ?_
   refine fp HF 1 1 [(11, vI (IntKind.i64.wrap (((i : Int) - 1) + 1)))] fun a HF => ?_
   replace HF := HF.sp 11 (vI (((i + 1 : Nat) : Int) - 1)) rfl (by have hdl := hdep; exact (qqj ⟨by omega, by omega⟩).trans (congrArg (Value.int .i64) (by omega)))
   refine fo HF 2 rfl rfl (s_es HF HM 2 ?_)
   clear HM; intro w3_2 HM
   refine s_d0 ?_
   refine ⟨(.obj B (.deferred (some [])) :: .blk g5 #[vI (((i + 1 : Nat) : Int) - 1)] 3 :: fr), HM.pt (fs' := (.obj lp (.loop (rec .busy none)) :: .obj B (.deferred (some [])) :: .blk g5 #[vI (((i + 1 : Nat) : Int) - 1)] 3 :: fr)) 3 [0, 1, 2], fun w5 HM => ?_⟩
   exact ⟨(.obj lp (.loop (rec .ready none)) :: .obj B (.deferred (some [])) :: .blk g5 #[vI (((i + 1 : Nat) : Int) - 1)] 3 :: []), HM, rfl, rfl⟩
  refine (qyf w w1 gg gl lp A c l g _ _ hr hn hg hp hy rfl (HM.pk [2, 3, 0, 1, 4])).mono ?_
  rintro r w2 ⟨v, rfl, F2, HM2, rfl⟩
  exact ⟨v, rfl, .inl ⟨_, rfl, HM2⟩⟩
 clear HF HM; rintro B a w6 _ rfl HF HM
 refine s_fs1 ?_
 refine s_fc HF HM 0 1 fun a HF => ?_
 refine fp HF 1 1 [(4, vI (((depG l g + 1 : Nat) : Int) - 1))] fun a HF => ?_
 refine s_d0 (wp_ret ?_)
 refine qx8 HF HM (i := 0) rfl fun a w7 HF HM => ?_
 exact s_rt1 rfl HF rfl (⟨by congr 2; omega, HM.below⟩)
theorem qow (A : Option Addr) (c : Nat) (l : List Gr) (hok : ∀ x ∈ l, x.Ok) (w : World) (hr : Rd w w.heap.size 2 A l.length (l.flatMap grL)) (hn : l.length ≤ 1000000) :
    Calls Tryz.prog 151 #[.slice A l.length c] w (qgg w l) := by
 refine s_ce Tryz.func151 [.slice A l.length c] [(0, .slice A l.length c)] fun a HF => ?_
 have HM := Mem.start w
 refine s_fs1 ?_
 refine fp HF 2 0 [(3, vI 0), (2, vI 0)] fun a HF => ?_
 refine s_d0 (wp_seq (wp_block (s_fs1 ?_)))
 refine fp HF 1 0 [(6, .slice A l.length c)] fun a HF => ?_
 refine s_fl HF 1 fun a HF => ?_
 refine fp HF 2 2 [(5, .bool (decide ((l.length : Int) > (256 : Int))))] fun a HF => ?_
 refine s_d0 ?_
 rcases HF.tf 5 rfl with ⟨hb5, HF⟩ | ⟨hb5, HF⟩
 ·
  have hd5 := of_decide_eq_true hb5
  refine s_ct HF (s_fs1 ?_)
  refine fp HF 2 0 [(3, vI 5), (2, vI (-1))] fun a HF => ?_
  refine s_d0 (wp_ret ?_)
  exact s_rt2 rfl HF rfl rfl (qat (qb7 (by omega)) (by decide) HM.below)
 have hd5 := of_decide_eq_false hb5
 refine s_cf HF (s_fs1 ?_)
 refine fp HF 1 0 [(10, .slice A l.length c)] fun a HF => ?_
 refine s_fl HF 1 fun a HF => ?_
 refine fp HF 2 2 [(13, .bool ((l.length : Int) == (0 : Int)))] fun a HF => ?_
 rcases HF.tf 13 rfl with ⟨hb13, HF⟩ | ⟨hb13, HF⟩
 ·
  have hd13 := eq_of_beq hb13
  refine fp HF 7 4 [(9, .bool true)] fun a HF => ?_
  refine s_d0 (s_ct HF (s_fs1 ?_))
  refine fp HF 2 0 [(3, vI 190), (2, vI 0)] fun a HF => ?_
  refine s_d0 (wp_ret ?_)
  exact s_rt2 rfl HF rfl rfl (qat (qb7 (by omega)) (by decide) HM.below)
 have hd13 := ne_of_beq_false hb13
 obtain ⟨gA, oA, rfl, _⟩ := hr.qj (Nat.lt_of_le_of_lt (Nat.zero_le _) (show 0 < l.length from by omega)) (by decide)
 refine fp HF 1 4 [(14, .slice (some ⟨gA, oA, none⟩) l.length c)] fun a HF => ?_
 refine s_fz HF HM 5 rfl (v := vP gA oA) (Yl.indexAddr (ad := ⟨gA, oA, none⟩) (y := 0) (sz := 2) rfl rfl rfl (by omega) (by kernel_rfl)) fun a HF => ?_
 refine s_fz HF HM 6 rfl (v := .agg ((l.getD 0 Gr.zero).cells)) (Yl.qt rfl rfl si_gr rfl (fun _ h => (h.old hr).q9 zo ((getD_at Gr.zero (by omega))))) fun a HF => ?_
 refine s_fz HF HM 7 rfl (v := .agg #[vI 0, vI 1]) (Yl.build (vs := [(1, vI 1)]) rfl (by kernel_rfl) (by kernel_rfl)) fun a HF => ?_
 refine s_fz HF HM 8 rfl (v := .bool (!(decide ((l.getD 0 Gr.zero) = ⟨0, 1⟩)))) (Yl.qld rfl rfl rfl (qmv (l.getD 0 Gr.zero) ⟨0, 1⟩)) fun a HF => ?_
 refine fp HF 2 9 [(9, .bool (!(decide ((l.getD 0 Gr.zero) = ⟨0, 1⟩))))] fun a HF => ?_
 refine s_d0 ?_
 rcases HF.tf 9 rfl with ⟨hb9, HF⟩ | ⟨hb9, HF⟩
 ·
  have hd9 := of_decide_eq_false ((Bool.not_eq_true' _).mp hb9)
  refine s_ct HF (s_fs1 ?_)
  refine fp HF 2 0 [(3, vI 190), (2, vI 0)] fun a HF => ?_
  refine s_d0 (wp_ret ?_)
  exact s_rt2 rfl HF rfl rfl (qat (qb7 (fun h => by rw [h.2.2] at hb9; simp at hb9)) (by decide) HM.below)
 have hd9 := of_decide_eq_true ((Bool.not_eq_false' _).mp hb9)
 refine s_cf HF (wp_skip (wp_seq (s_fs1 ?_)))
 refine fp HF 1 0 [(4, vI 1)] fun a HF => ?_
 refine s_d0 (wp_block ?_)
 refine qi (fun mS aS wS => ∃ (g : Nat), (1 ≤ g) ∧ (g ≤ l.length) ∧ (UpTo g (gOk l)) ∧ mS = l.length - g ∧ Fr aS 58 [] [(4, vI g), (9, .bool false), (5, .bool false), (3, vI 0), (2, vI 0), (0, .slice (some ⟨gA, oA, none⟩) l.length c)] ∧ Mem w wS []) (m := l.length - 1) ⟨1, Nat.le_refl _, by omega, UpTo.zero.succ (qmu l), rfl, HF.sub (by kernel_rfl), HM.pk []⟩ ?_
 clear HF HM; rintro mS a w_ ⟨g, hg1, hgl, hu, rfl, HF, HM⟩
 refine wp_seq (s_fs1 ?_)
 refine fp HF 2 0 [(21, .slice (some ⟨gA, oA, none⟩) l.length c), (20, vI g)] fun a HF => ?_
 refine s_fl HF 2 fun a HF => ?_
 refine fp HF 1 3 [(23, .bool (decide ((g : Int) < (l.length : Int))))] fun a HF => ?_
 refine s_d0 ?_
 rcases HF.tf 23 rfl with ⟨hb23, HF⟩ | ⟨hb23, HF⟩
 ·
  have hd23 := of_decide_eq_true hb23
  have hg23 : g < l.length := by omega
  have hOk := hok _ (qu Gr.zero hg23)
  have hOp := hOk.parent
  unfold I64 at hOp
  have hOw := hOk.weight
  unfold I64 at hOw
  refine s_ct HF (wp_skip (wp_seq (wp_block (wp_block (s_fs1 ?_)))))
  refine fp HF 2 0 [(28, vI g), (27, .slice (some ⟨gA, oA, none⟩) l.length c)] fun a HF => ?_
  refine s_fz HF HM 2 rfl (v := vP gA (oA + g * 2)) (Yl.ix gA oA g 2 rfl rfl rfl) fun a HF => ?_
  refine fp HF 1 3 [(30, vP gA (oA + g * 2))] fun a HF => ?_
  refine s_fz HF HM 4 rfl (v := vI ((l.getD g Gr.zero).parent)) (Yl.qd rfl rfl (by kernel_rfl) (fun _ h => (by have := (h.old hr).partAt zo (k := g) (j := 0) (x := (l.getD g Gr.zero)) ((getD_at Gr.zero (by omega))) rfl; simpa using this))) fun a HF => ?_
  refine fp HF 2 5 [(33, .bool (decide (((l.getD g Gr.zero).parent : Int) < (0 : Int))))] fun a HF => ?_
  rcases HF.tf 33 rfl with ⟨hb33, HF⟩ | ⟨hb33, HF⟩
  ·
   have hd33 := of_decide_eq_true hb33
   refine fp HF 9 7 [(26, .bool true)] fun a HF => ?_
   refine s_d0 (s_ct HF (s_fs1 ?_))
   refine fp HF 3 0 [(3, vI 191), (2, vI g)] fun a HF => ?_
   refine s_d0 (wp_ret ?_)
   exact s_rt2 rfl HF rfl rfl (qat (qeq hg23 (qhl (by omega) (by omega))) (by decide) HM.below)
  have hd33 := of_decide_eq_false hb33
  refine fp HF 2 7 [(35, vI g), (34, .slice (some ⟨gA, oA, none⟩) l.length c)] fun a HF => ?_
  refine s_fz HF HM 9 rfl (v := vP gA (oA + g * 2)) (Yl.ix gA oA g 2 rfl rfl rfl) fun a HF => ?_
  refine fp HF 1 10 [(37, vP gA (oA + g * 2))] fun a HF => ?_
  refine s_fz HF HM 11 rfl (v := vI ((l.getD g Gr.zero).parent)) (Yl.qd rfl rfl (by kernel_rfl) (fun _ h => (by have := (h.old hr).partAt zo (k := g) (j := 0) (x := (l.getD g Gr.zero)) ((getD_at Gr.zero (by omega))) rfl; simpa using this))) fun a HF => ?_
  refine fp HF 4 12 [(26, .bool (decide (((l.getD g Gr.zero).parent : Int) ≥ (g : Int))))] fun a HF => ?_
  refine s_d0 ?_
  rcases HF.tf 26 rfl with ⟨hb26, HF⟩ | ⟨hb26, HF⟩
  ·
   have hd26 := of_decide_eq_true hb26
   refine s_ct HF (s_fs1 ?_)
   refine fp HF 3 0 [(3, vI 191), (2, vI g)] fun a HF => ?_
   refine s_d0 (wp_ret ?_)
   exact s_rt2 rfl HF rfl rfl (qat (qeq hg23 (qhl (by omega) (by omega))) (by decide) HM.below)
  have hd26 := of_decide_eq_false hb26
  have hpg := qqz hu ⟨by omega, by omega⟩
  refine s_cf HF (s_fs1 ?_)
  refine fp HF 2 0 [(45, vI g), (44, .slice (some ⟨gA, oA, none⟩) l.length c)] fun a HF => ?_
  refine s_fz HF HM 2 rfl (v := vP gA (oA + g * 2)) (Yl.ix gA oA g 2 rfl rfl rfl) fun a HF => ?_
  refine fp HF 1 3 [(47, vP gA (oA + g * 2 + 1))] fun a HF => ?_
  refine s_fz HF HM 4 rfl (v := vI ((l.getD g Gr.zero).weight)) (Yl.qd rfl rfl (by kernel_rfl) (fun _ h => (h.old hr).partAt zo (k := g) (j := 1) (x := (l.getD g Gr.zero)) ((getD_at Gr.zero (by omega))) rfl)) fun a HF => ?_
  refine fo HF 5 rfl rfl ?_
  refine e_cl HF [vI ((l.getD g Gr.zero).weight)] rfl rfl (qj8 ((l.getD g Gr.zero).weight) _) ?_
  rintro _ w49 ⟨rfl, hbw⟩
  refine ⟨_, rfl, ?_⟩
  replace HM := HM.call hbw
  clear HF; intro a HF
  refine fp HF 2 6 [(43, .bool (!(decide (1 ≤ (l.getD g Gr.zero).weight ∧ (l.getD g Gr.zero).weight ≤ 65536))))] fun a HF => ?_
  refine s_d0 ?_
  rcases HF.tf 43 rfl with ⟨hb43, HF⟩ | ⟨hb43, HF⟩
  ·
   have hd43 := of_decide_eq_false ((Bool.not_eq_true' _).mp hb43)
   refine s_ct HF (s_fs1 ?_)
   refine fp HF 3 0 [(3, vI 192), (2, vI g)] fun a HF => ?_
   refine s_d0 (wp_ret ?_)
   exact s_rt2 rfl HF rfl rfl (qat (qeq hg23 (qhl (by omega) (by omega))) (by decide) HM.below)
  have hd43 := of_decide_eq_true ((Bool.not_eq_false' _).mp hb43)
  refine s_cf HF (s_fs1 ?_)
  refine fp HF 2 0 [(54, vI g), (53, .slice (some ⟨gA, oA, none⟩) l.length c)] fun a HF => ?_
  refine fo HF 2 rfl rfl (e_is HF HM [.slice (some ⟨gA, oA, none⟩) l.length c, vI g] (vI (depG l g)) rfl rfl (qri (some ⟨gA, oA, none⟩) c l g _ (HM.old hr) hn (by omega) hpg) fun w55 hbw HM a HF => ?_)
  refine fp HF 2 3 [(52, .bool (decide ((depG l g : Int) > (4 : Int))))] fun a HF => ?_
  refine s_d0 ?_
  rcases HF.tf 52 rfl with ⟨hb52, HF⟩ | ⟨hb52, HF⟩
  ·
   have hd52 := of_decide_eq_true hb52
   refine s_ct HF (s_fs1 ?_)
   refine fp HF 3 0 [(3, vI 193), (2, vI g)] fun a HF => ?_
   refine s_d0 (wp_ret ?_)
   exact s_rt2 rfl HF rfl rfl (qat (qeq hg23 (qhl (by omega) (by omega))) (by decide) HM.below)
  have hd52 := of_decide_eq_false hb52
  refine s_cf HF (wp_skip (qa ?_))
  refine fp HF 2 0 [(25, vI (IntKind.i64.wrap ((g : Int) + 1)))] fun a HF => ?_
  replace HF := HF.sp 25 (vI (g + 1 : Nat)) rfl (qc (by omega) (by omega))
  refine fp HF 1 2 [(4, vI (g + 1 : Nat))] fun a HF => ?_
  refine s_d0 ?_
  exact ⟨_, (by omega), g + 1, by omega, by omega, hu.succ (qqy ⟨by omega, by omega, by omega, by omega⟩), rfl, HF.sub (by kernel_rfl), HM.pk []⟩
 have hd23 := of_decide_eq_false hb23
 refine s_cf HF (wp_exit (s_fs1 ?_))
 refine fp HF 2 0 [(3, vI 0), (2, vI (-1))] fun a HF => ?_
 refine s_d0 (wp_ret ?_)
 exact s_rt2 rfl HF rfl rfl (qln (qmt ⟨by omega, by omega, by simpa using hb9⟩ (fun i hi => hu i (by omega))) HM.below)
theorem qox (A : Option Addr) (c : Nat) (l : List Gr) (hok : ∀ x ∈ l, x.Ok) (w : World) (hr : Rd w w.heap.size 2 A l.length (l.flatMap grL)) (hn : l.length ≤ 1000000) :
    Calls Tryz.prog 139 #[.slice A l.length c] w (Is w (.bool (gsOk l))) := by
 refine s_ce Tryz.func139 [.slice A l.length c] [(0, .slice A l.length c)] fun a HF => ?_
 have HM := Mem.start w
 refine s_fs1 ?_
 refine fp HF 1 0 [(2, .bool false)] fun a HF => ?_
 refine s_d0 (s_fs1 ?_)
 refine fp HF 1 0 [(6, .slice A l.length c)] fun a HF => ?_
 refine fo HF 1 rfl rfl ?_
 refine e_cl HF [.slice A l.length c] rfl rfl (qow A c l hok _ (HM.old hr) hn) ?_
 rintro _ w7 ⟨⟨i, e, rfl, he⟩, hbw⟩
 refine ⟨_, rfl, ?_⟩
 replace HM := HM.call hbw
 clear HF; intro a HF
 refine fp HF 5 2 [(4, vI e)] fun a HF => ?_
 refine s_d0 (s_fs1 ?_)
 refine fp HF 3 0 [(2, .bool ((e : Int) == (0 : Int)))] fun a HF => ?_
 refine s_d0 (wp_ret ?_)
 exact s_rt1 rfl HF rfl (is_as he HM.below)
theorem qhr (v r : Nat) (wt : Int) (hv : v < 18446744073709551616) (hr : r < 4294967296) (hw : 0 ≤ wt ∧ wt < 4294967296) (w : World) :
    Calls Tryz.prog 120 #[.agg #[.int .u64 (v : Int), .int .u32 (r : Int), .int .u32 wt]] w (Is w (.bool (entOk v r wt))) := by
 obtain ⟨z, rfl⟩ : ∃ z : Nat, wt = (z : Int) := ⟨wt.toNat, by omega⟩
 refine s_ce Tryz.func120 [.agg #[vQ v, vW r, vW z]] [(0, .agg #[vQ v, vW r, vW z])] fun a HF => ?_
 have HM := Mem.start w
 refine s_fs1 ?_
 refine fo HF 0 rfl rfl (s_eb HF HM #[vQ v, vW r, vW z] ?_)
 clear HF HM; intro a w1 g1 HF HM
 refine fp HF 1 1 [(2, .bool false)] fun a HF => ?_
 refine s_d0 (s_fs1 ?_)
 refine fp HF 1 0 [(3, vP g1 2)] fun a HF => ?_
 refine s_fc HF HM 1 0 fun a HF => ?_
 refine fp HF 1 2 [(5, vI (IntKind.i64.wrap (z : Int)))] fun a HF => ?_
 replace HF := HF.sp 5 (vI z) rfl (qc rfl (by omega))
 refine fo HF 3 rfl rfl ?_
 refine e_cl HF [vI z] rfl rfl (qj9 (z : Int) _) ?_
 rintro _ w6 ⟨rfl, hbw⟩
 refine ⟨_, rfl, ?_⟩
 replace HM := HM.call hbw
 clear HF; intro a HF
 refine fp HF 1 4 [(7, .bool (decide (1 ≤ (z : Int) ∧ (z : Int) ≤ 65536)))] fun a HF => ?_
 rcases HF.tf 7 rfl with ⟨hb7, HF⟩ | ⟨hb7, HF⟩
 ·
  have hd7 := of_decide_eq_true hb7
  refine fp HF 1 5 [(8, vP g1 1)] fun a HF => ?_
  refine s_fc HF HM 6 0 fun a HF => ?_
  refine fp HF 1 7 [(10, vP g1 2)] fun a HF => ?_
  refine s_fc HF HM 8 0 fun a HF => ?_
  refine fp HF 3 9 [(14, .bool (decide ((r : Int) < (z : Int))))] fun a HF => ?_
  rcases HF.tf 14 rfl with ⟨hb14, HF⟩ | ⟨hb14, HF⟩
  ·
   have hd14 := of_decide_eq_true hb14
   refine fp HF 1 12 [(15, vP g1 0)] fun a HF => ?_
   refine s_fc HF HM 13 0 fun a HF => ?_
   refine fp HF 2 14 [(18, .bool (decide ((v : Int) < (18446744073709551615 : Int))))] fun a HF => ?_
   rcases HF.tf 18 rfl with ⟨hb18, HF⟩ | ⟨hb18, HF⟩
   ·
    have hd18 := of_decide_eq_true hb18
    refine fp HF 6 16 [(2, .bool true)] fun a HF => ?_
    refine s_d0 (wp_ret ?_)
    replace HM := HM.pk (fs' := []) []
    exact s_rt1 rfl HF rfl (qhk (by omega) HM.below)
   have hd18 := of_decide_eq_false hb18
   refine fp HF 1 16 [(19, vP g1 1)] fun a HF => ?_
   refine s_fc HF HM 17 0 fun a HF => ?_
   refine fp HF 4 18 [(2, .bool ((r : Int) == (0 : Int)))] fun a HF => ?_
   refine s_d0 (wp_ret ?_)
   replace HM := HM.pk (fs' := []) []
   exact s_rt1 rfl HF rfl (qhj (by omega) HM.below)
  have hd14 := of_decide_eq_false hb14
  refine fp HF 10 12 [(2, .bool false)] fun a HF => ?_
  refine s_d0 (wp_ret ?_)
  replace HM := HM.pk (fs' := []) []
  exact s_rt1 rfl HF rfl (is_no (by omega) HM.below)
 have hd7 := of_decide_eq_false hb7
 refine fp HF 17 5 [(2, .bool false)] fun a HF => ?_
 refine s_d0 (wp_ret ?_)
 replace HM := HM.pk (fs' := []) []
 exact s_rt1 rfl HF rfl (is_no (by omega) HM.below)
theorem qhs (v r : Nat) (wt : Int) (hw : 0 ≤ wt ∧ wt < 4294967296) (w : World) :
    Calls Tryz.prog 121 #[.int .u64 (v : Int), .int .u32 (r : Int), .int .i64 wt] w (Is w (.agg #[.int .u64 (v : Int), .int .u32 (r : Int), .int .u32 wt])) := by
 obtain ⟨z, rfl⟩ : ∃ z : Nat, wt = (z : Int) := ⟨wt.toNat, by omega⟩
 refine s_ce Tryz.func121 [vQ v, vW r, vI z] [(0, vQ v), (1, vW r), (2, vI z)] fun a HF => ?_
 have HM := Mem.start w
 refine s_fs1 ?_
 refine fo HF 0 rfl rfl (s_ea HF HM #[vQ 0, vW 0, vW 0] ?_)
 clear HF HM; intro a w6 g6 HF HM
 refine s_d0 (s_fs1 ?_)
 refine fp HF 4 0 [(10, vW (IntKind.u32.wrap (z : Int))), (8, vW r), (7, vQ v)] fun a HF => ?_
 replace HF := HF.sp 10 (vW z) rfl (qas rfl (by omega))
 refine s_fz HF HM 4 rfl (v := .agg #[vQ v, vW r, vW z]) (Yl.build (vs := [(0, vQ v), (1, vW r), (2, vW z)]) rfl (by kernel_rfl) (by kernel_rfl)) fun a HF => ?_
 refine fo HF 5 rfl rfl (e_sa HF HM 0 rfl rfl rfl rfl rfl qwz rfl rfl (by simp [Value.oneCell']) ?_)
 clear HM; intro w1_5 HM
 refine s_d0 (wp_ret ?_)
 exact ret1 rfl HF (.cellS (i := 0) HF HM rfl rfl qwz rfl) (⟨rfl, HM.below⟩)
theorem qu3 (m n : Nat) (hm : m < 18446744073709551616) (hn : 1 ≤ n ∧ n ≤ 64) (w : World) :
    Calls Tryz.prog 143 #[.int .u64 (m : Int), .int .i64 (n : Int)] w (Is w (.bool (decide (2 ^ n ≤ m)))) := by
 refine s_ce Tryz.func143 [vQ m, vI n] [(0, vQ m), (1, vI n)] fun a HF => ?_
 have HM := Mem.start w
 refine s_fs1 ?_
 refine fp HF 1 0 [(4, .bool false)] fun a HF => ?_
 refine s_d0 (s_fs1 ?_)
 refine fp HF 3 0 [(7, vI (IntKind.i64.wrap ((n : Int) - 1))), (5, vQ m)] fun a HF => ?_
 replace HF := HF.sp 7 (vI (n - 1 : Nat)) rfl (qc (by omega) (by omega))
 refine s_fz HF HM 3 rfl (v := vQ (m / 2 ^ (n - 1) : Nat)) (Yl.shrN (m := m) (n := (n - 1)) rfl rfl rfl (by show _ ≤ 64; omega)) fun a HF => ?_
 refine fp HF 1 4 [(9, vQ (Int.fdiv ((m / 2 ^ (n - 1) : Nat) : Int) (2 ^ (min (1 : Int).toNat (IntKind.u64).bits))))] fun a HF => ?_
 replace HF := HF.sp 9 (vQ ((m / 2 ^ (n - 1)) / 2 : Nat)) rfl (qdq .u64 (m / 2 ^ (n - 1)) (j := 1) (q := 2) rfl rfl)
 refine fp HF 2 5 [(4, .bool ((((m / 2 ^ (n - 1)) / 2 : Nat) : Int) != (0 : Int)))] fun a HF => ?_
 refine s_d0 (wp_ret ?_)
 exact s_rt1 rfl HF rfl (is_as (qya hn.1) HM.below)
theorem qdu (x : Stm) (t : Tk) (hok : t.Ok) (hx : 1 ≤ x.cpus ∧ x.cpus ≤ 64) (hf : x.rs.length ≤ 1000000) (w : World) :
    Calls Tryz.prog 122 #[.agg x.cells, .agg t.cells] w (Is w (.bool (tkOk1 x.sta t))) := by
 obtain ⟨n, hn⟩ : ∃ n : Nat, x.cpus = (n : Int) := ⟨x.cpus.toNat, by omega⟩
 have hn64 : 1 ≤ n ∧ n ≤ 64 := by omega
 have hv := hok.v
 have hr := hok.r
 have hi := hok.id
 have hg := hok.group
 have hc := hok.cpu
 have hw := hok.weight
 have hm := hok.mask
 unfold I64 at hi hg hc hw
 refine s_ce Tryz.func122 [.agg x.cells, .agg t.cells] [(0, .agg x.cells), (1, .agg t.cells)] fun a HF => ?_
 have HM := Mem.start w
 refine s_fs1 ?_
 refine fo HF 0 rfl rfl (s_eb HF HM x.cells ?_)
 clear HF HM; intro a w2 g2 HF HM
 refine fo HF 1 rfl rfl (s_eb HF HM t.cells ?_)
 clear HF HM; intro a w3 g3 HF HM
 refine fp HF 1 2 [(4, .bool false)] fun a HF => ?_
 refine s_d0 (s_fs1 ?_)
 refine fp HF 1 0 [(5, vP g3 0)] fun a HF => ?_
 refine s_fz HF HM 1 rfl (v := vI t.id) (Yl.qd rfl rfl (by kernel_rfl) (fun _ h => h.cell (i := 0) rfl (rfl))) fun a HF => ?_
 refine fp HF 2 2 [(8, .bool (decide ((t.id : Int) ≥ (1 : Int))))] fun a HF => ?_
 rcases HF.tf 8 rfl with ⟨hb8, HF⟩ | ⟨hb8, HF⟩
 ·
  have hd8 := of_decide_eq_true hb8
  refine fp HF 1 4 [(9, vP g3 0)] fun a HF => ?_
  refine s_fz HF HM 5 rfl (v := vI t.id) (Yl.qd rfl rfl (by kernel_rfl) (fun _ h => h.cell (i := 0) rfl (rfl))) fun a HF => ?_
  refine fp HF 3 6 [(13, .bool (decide ((t.id : Int) ≤ (65535 : Int))))] fun a HF => ?_
  rcases HF.tf 13 rfl with ⟨hb13, HF⟩ | ⟨hb13, HF⟩
  ·
   have hd13 := of_decide_eq_true hb13
   refine fp HF 1 9 [(14, vP g3 1)] fun a HF => ?_
   refine s_fz HF HM 10 rfl (v := vI t.group) (Yl.qd rfl rfl (by kernel_rfl) (fun _ h => h.cell (i := 0) rfl (rfl))) fun a HF => ?_
   refine fp HF 3 11 [(18, .bool (decide ((t.group : Int) ≥ (0 : Int))))] fun a HF => ?_
   rcases HF.tf 18 rfl with ⟨hb18, HF⟩ | ⟨hb18, HF⟩
   ·
    have hd18 := of_decide_eq_true hb18
    refine fp HF 1 14 [(19, vP g3 1)] fun a HF => ?_
    refine s_fz HF HM 15 rfl (v := vI t.group) (Yl.qd rfl rfl (by kernel_rfl) (fun _ h => h.cell (i := 0) rfl (rfl))) fun a HF => ?_
    refine fp HF 1 16 [(21, vP g2 6)] fun a HF => ?_
    refine s_fz HF HM 17 rfl (v := .slice x.sA x.rs.length x.sc) (Yl.qd rfl rfl (by kernel_rfl) (fun _ h => h.cell (i := 1) rfl (rfl))) fun a HF => ?_
    refine s_fl HF 18 fun a HF => ?_
    refine fp HF 3 19 [(26, .bool (decide ((t.group : Int) < (x.rs.length : Int))))] fun a HF => ?_
    rcases HF.tf 26 rfl with ⟨hb26, HF⟩ | ⟨hb26, HF⟩
    ·
     have hd26 := of_decide_eq_true hb26
     refine fp HF 1 22 [(27, vP g3 3)] fun a HF => ?_
     refine s_fz HF HM 23 rfl (v := vI t.cpu) (Yl.qd rfl rfl (by kernel_rfl) (fun _ h => h.cell (i := 0) rfl (rfl))) fun a HF => ?_
     refine fp HF 3 24 [(31, .bool (decide ((t.cpu : Int) ≥ (0 : Int))))] fun a HF => ?_
     rcases HF.tf 31 rfl with ⟨hb31, HF⟩ | ⟨hb31, HF⟩
     ·
      have hd31 := of_decide_eq_true hb31
      refine fp HF 1 27 [(32, vP g3 3)] fun a HF => ?_
      refine s_fz HF HM 28 rfl (v := vI t.cpu) (Yl.qd rfl rfl (by kernel_rfl) (fun _ h => h.cell (i := 0) rfl (rfl))) fun a HF => ?_
      refine fp HF 2 29 [(35, vP g2 0)] fun a HF => ?_
      refine s_fz HF HM 31 rfl (v := vI x.cpus) (Yl.qd rfl rfl (by kernel_rfl) (fun _ h => h.cell (i := 1) rfl (rfl))) fun a HF => ?_
      refine fp HF 3 32 [(39, .bool (decide ((t.cpu : Int) < (x.cpus : Int))))] fun a HF => ?_
      rcases HF.tf 39 rfl with ⟨hb39, HF⟩ | ⟨hb39, HF⟩
      ·
       have hd39 := of_decide_eq_true hb39
       obtain ⟨k, hk⟩ : ∃ k : Nat, t.cpu = (k : Int) := ⟨t.cpu.toNat, by omega⟩
       refine fp HF 1 35 [(40, vP g3 2)] fun a HF => ?_
       refine s_fz HF HM 36 rfl (v := vI t.weight) (Yl.qd rfl rfl (by kernel_rfl) (fun _ h => h.cell (i := 0) rfl (rfl))) fun a HF => ?_
       refine fo HF 37 rfl rfl ?_
       refine e_cl HF [vI t.weight] rfl rfl (qka t.weight _) ?_
       rintro _ w42 ⟨rfl, hbw⟩
       refine ⟨_, rfl, ?_⟩
       replace HM := HM.call hbw
       clear HF; intro a HF
       refine fp HF 2 38 [(44, .bool (decide (1 ≤ t.weight ∧ t.weight ≤ 65536)))] fun a HF => ?_
       rcases HF.tf 44 rfl with ⟨hb44, HF⟩ | ⟨hb44, HF⟩
       ·
        have hd44 := of_decide_eq_true hb44
        refine fp HF 1 40 [(45, vP g3 4)] fun a HF => ?_
        refine s_fz HF HM 41 rfl (v := vQ t.mask) (Yl.qd rfl rfl (by kernel_rfl) (fun _ h => h.cell (i := 0) rfl (rfl))) fun a HF => ?_
        refine fp HF 2 42 [(48, vP g2 0)] fun a HF => ?_
        refine s_fz HF HM 44 rfl (v := vI x.cpus) (Yl.qd rfl rfl (by kernel_rfl) (fun _ h => h.cell (i := 1) rfl (rfl))) fun a HF => ?_
        replace HF := HF.sp 49 (vI n) rfl (by rw [hn])
        refine fo HF 45 rfl rfl (e_is HF HM [vQ t.mask, vI n] (.bool (decide (2 ^ n ≤ t.mask))) rfl rfl (qu3 t.mask n hok.mask hn64 _) fun w50 hbw HM a HF => ?_)
        refine fp HF 3 46 [(53, .bool (!(decide (2 ^ n ≤ t.mask))))] fun a HF => ?_
        rcases HF.tf 53 rfl with ⟨hb53, HF⟩ | ⟨hb53, HF⟩
        ·
         have hd53 := of_decide_eq_false ((Bool.not_eq_true' _).mp hb53)
         have hsh := Nat.div_le_self t.mask (2 ^ k)
         refine fp HF 1 49 [(54, vP g3 4)] fun a HF => ?_
         refine s_fz HF HM 50 rfl (v := vQ t.mask) (Yl.qd rfl rfl (by kernel_rfl) (fun _ h => h.cell (i := 0) rfl (rfl))) fun a HF => ?_
         refine fp HF 1 51 [(56, vP g3 3)] fun a HF => ?_
         refine s_fz HF HM 52 rfl (v := vI t.cpu) (Yl.qd rfl rfl (by kernel_rfl) (fun _ h => h.cell (i := 0) rfl (rfl))) fun a HF => ?_
         replace HF := HF.sp 57 (vI k) rfl (by rw [hk])
         refine s_fz HF HM 53 rfl (v := vQ (t.mask / 2 ^ k : Nat)) (Yl.shrN (m := t.mask) (n := k) rfl rfl rfl (by show _ ≤ 64; omega)) fun a HF => ?_
         refine fp HF 1 54 [(59, vQ (IntKind.u64.wrap (BitVec.ofInt (IntKind.u64).bits ((t.mask / 2 ^ k : Nat) : Int) &&& BitVec.ofInt (IntKind.u64).bits 1).toNat))] fun a HF => ?_
         replace HF := HF.sp 59 (vQ ((t.mask / 2 ^ k) % 2 : Nat)) rfl (qud (n := 1) (j := 1) rfl (by decide) (by omega))
         refine fp HF 3 55 [(62, .bool ((((t.mask / 2 ^ k) % 2 : Nat) : Int) == (1 : Int)))] fun a HF => ?_
         rcases HF.tf 62 rfl with ⟨hb62, HF⟩ | ⟨hb62, HF⟩
         ·
          have hd62 := eq_of_beq hb62
          refine fp HF 1 58 [(63, vP g3 6)] fun a HF => ?_
          refine s_fz HF HM 59 rfl (v := vQ t.v) (Yl.qd rfl rfl (by kernel_rfl) (fun _ h => h.cell (i := 0) rfl (rfl))) fun a HF => ?_
          refine fp HF 1 60 [(65, vP g3 7)] fun a HF => ?_
          refine s_fz HF HM 61 rfl (v := vW t.r) (Yl.qd rfl rfl (by kernel_rfl) (fun _ h => h.cell (i := 0) rfl (rfl))) fun a HF => ?_
          refine fp HF 1 62 [(67, vP g3 2)] fun a HF => ?_
          refine s_fz HF HM 63 rfl (v := vI t.weight) (Yl.qd rfl rfl (by kernel_rfl) (fun _ h => h.cell (i := 0) rfl (rfl))) fun a HF => ?_
          refine fo HF 64 rfl rfl (e_is HF HM [vQ t.v, vW t.r, vI t.weight] (.agg #[vQ t.v, vW t.r, vW t.weight]) rfl rfl (qhs t.v t.r t.weight (by omega) _) fun w69 hbw HM a HF => ?_)
          refine fo HF 65 rfl rfl (e_is HF HM [.agg #[vQ t.v, vW t.r, vW t.weight]] (.bool (entOk t.v t.r t.weight)) rfl rfl (qhr t.v t.r t.weight (by omega) (by omega) (by omega) _) fun w70 hbw HM a HF => ?_)
          refine fp HF 2 66 [(4, .bool (entOk t.v t.r t.weight))] fun a HF => ?_
          refine s_d0 ?_
          replace HF := HF.to [(4, .bool (entOk t.v t.r t.weight))]
          refine wp_ret ?_
          exact s_rt1 rfl HF rfl (is_as (qq1 (by omega) (by omega) (by rw [hn, Int.toNat_natCast]; simpa using hb53) (by rw [hk, Int.toNat_natCast]; omega)).symm HM.below)
         have hd62 := ne_of_beq_false hb62
         refine fp HF 10 58 [(4, .bool false)] fun a HF => ?_
         refine s_d0 ?_
         replace HF := HF.to [(4, .bool false)]
         refine wp_ret ?_
         exact s_rt1 rfl HF rfl (is_as (qw2 (by rw [hk, Int.toNat_natCast]; omega)).symm HM.below)
        have hd53 := of_decide_eq_true ((Bool.not_eq_false' _).mp hb53)
        refine fp HF 19 49 [(4, .bool false)] fun a HF => ?_
        refine s_d0 ?_
        replace HF := HF.to [(4, .bool false)]
        refine wp_ret ?_
        exact s_rt1 rfl HF rfl (is_as (qw1 (by rw [hn, Int.toNat_natCast]; simpa using hb53)).symm HM.below)
       have hd44 := of_decide_eq_false hb44
       refine fp HF 28 40 [(4, .bool false)] fun a HF => ?_
       refine s_d0 (wp_ret ?_)
       exact s_rt1 rfl HF rfl (is_as (qq0 (by omega)).symm HM.below)
      have hd39 := of_decide_eq_false hb39
      refine fp HF 33 35 [(4, .bool false)] fun a HF => ?_
      refine s_d0 (wp_ret ?_)
      exact s_rt1 rfl HF rfl (is_as (qcf (by omega)).symm HM.below)
     have hd31 := of_decide_eq_false hb31
     refine fp HF 41 27 [(4, .bool false)] fun a HF => ?_
     refine s_d0 (wp_ret ?_)
     exact s_rt1 rfl HF rfl (is_as (qcf (by omega)).symm HM.below)
    have hd26 := of_decide_eq_false hb26
    refine fp HF 46 22 [(4, .bool false)] fun a HF => ?_
    refine s_d0 (wp_ret ?_)
    exact s_rt1 rfl HF rfl (is_as (qcf (by omega)).symm HM.below)
   have hd18 := of_decide_eq_false hb18
   refine fp HF 54 14 [(4, .bool false)] fun a HF => ?_
   refine s_d0 (wp_ret ?_)
   exact s_rt1 rfl HF rfl (is_as (qcf (by omega)).symm HM.below)
  have hd13 := of_decide_eq_false hb13
  refine fp HF 59 9 [(4, .bool false)] fun a HF => ?_
  refine s_d0 (wp_ret ?_)
  exact s_rt1 rfl HF rfl (is_as (qcf (by omega)).symm HM.below)
 have hd8 := of_decide_eq_false hb8
 refine fp HF 64 4 [(4, .bool false)] fun a HF => ?_
 refine s_d0 (wp_ret ?_)
 exact s_rt1 rfl HF rfl (is_as (qcf (by omega)).symm HM.below)
theorem qgk (x : Stm) (hok : x.sta.Ok) (hf : StFew x) (w : World) (hx : StRd w x) :
    Calls Tryz.prog 117 #[.agg #[.int .i64 x.cpus, .int .u64 (x.credit : Int), .slice x.gA x.gs.length x.gc]] w (Is w (.bool (cfgOk x.sta))) := by
 have hc := hok.cpus
 have hcr := hok.credit
 replace hc : I64 x.cpus := hc
 replace hcr : x.credit < 18446744073709551616 := hcr
 unfold I64 at hc
 refine s_ce Tryz.func117 [.agg #[vI x.cpus, vQ x.credit, .slice x.gA x.gs.length x.gc]] [(0, .agg #[vI x.cpus, vQ x.credit, .slice x.gA x.gs.length x.gc])] fun a HF => ?_
 have HM := Mem.start w
 refine s_fs1 ?_
 refine fo HF 0 rfl rfl (s_eb HF HM #[vI x.cpus, vQ x.credit, .slice x.gA x.gs.length x.gc] ?_)
 clear HF HM; intro a w1 g1 HF HM
 refine fp HF 1 1 [(2, .bool false)] fun a HF => ?_
 refine s_d0 (s_fs1 ?_)
 refine fp HF 1 0 [(3, vP g1 0)] fun a HF => ?_
 refine s_fc HF HM 1 0 fun a HF => ?_
 refine fp HF 2 2 [(6, .bool (decide ((x.cpus : Int) ≥ (1 : Int))))] fun a HF => ?_
 rcases HF.tf 6 rfl with ⟨hb6, HF⟩ | ⟨hb6, HF⟩
 ·
  have hd6 := of_decide_eq_true hb6
  refine fp HF 1 4 [(7, vP g1 0)] fun a HF => ?_
  refine s_fc HF HM 5 0 fun a HF => ?_
  refine fp HF 3 6 [(11, .bool (decide ((x.cpus : Int) ≤ (64 : Int))))] fun a HF => ?_
  rcases HF.tf 11 rfl with ⟨hb11, HF⟩ | ⟨hb11, HF⟩
  ·
   have hd11 := of_decide_eq_true hb11
   refine fp HF 1 9 [(12, vP g1 1)] fun a HF => ?_
   refine s_fc HF HM 10 0 fun a HF => ?_
   refine fp HF 3 11 [(16, .bool (decide ((x.credit : Int) ≤ (1099511627776 : Int))))] fun a HF => ?_
   rcases HF.tf 16 rfl with ⟨hb16, HF⟩ | ⟨hb16, HF⟩
   ·
    have hd16 := of_decide_eq_true hb16
    refine fp HF 1 14 [(17, vP g1 2)] fun a HF => ?_
    refine s_fc HF HM 15 0 fun a HF => ?_
    refine fo HF 16 rfl rfl (e_is HF HM [.slice x.gA x.gs.length x.gc] (.bool (gsOk x.gs)) rfl rfl (qox x.gA x.gc x.gs hok.gs _ (HM.old hx.g) hf.g) fun w19 hbw HM a HF => ?_)
    refine fp HF 2 17 [(2, .bool (gsOk x.gs))] fun a HF => ?_
    refine s_d0 (wp_ret ?_)
    exact s_rt1 rfl HF rfl (is_as (qq2 (by omega)).symm HM.below)
   have hd16 := of_decide_eq_false hb16
   refine fp HF 5 14 [(2, .bool false)] fun a HF => ?_
   refine s_d0 (wp_ret ?_)
   exact s_rt1 rfl HF rfl (is_as (qhm (by omega)).symm HM.below)
  have hd11 := of_decide_eq_false hb11
  refine fp HF 10 9 [(2, .bool false)] fun a HF => ?_
  refine s_d0 (wp_ret ?_)
  exact s_rt1 rfl HF rfl (is_as (qhm (by omega)).symm HM.below)
 have hd6 := of_decide_eq_false hb6
 refine fp HF 15 4 [(2, .bool false)] fun a HF => ?_
 refine s_d0 (wp_ret ?_)
 exact s_rt1 rfl HF rfl (is_as (qhm (by omega)).symm HM.below)
theorem qrj (t : Int) (w : World) : Calls Tryz.prog 119 #[.int .i64 t] w (Is w (.bool (!clOk t))) := by
 refine s_ce Tryz.func119 [vI t] [(0, vI t)] fun a HF => ?_
 have HM := Mem.start w
 refine s_fs1 ?_
 refine fp HF 1 0 [(2, .bool false)] fun a HF => ?_
 refine s_d0 (s_fs1 ?_)
 refine fp HF 3 0 [(5, .bool (decide ((t : Int) < (0 : Int))))] fun a HF => ?_
 rcases HF.tf 5 rfl with ⟨hb5, HF⟩ | ⟨hb5, HF⟩
 ·
  have hd5 := of_decide_eq_true hb5
  refine fp HF 4 3 [(2, .bool true)] fun a HF => ?_
  refine s_d0 (wp_ret ?_)
  exact s_rt1 rfl HF rfl (is_as (by first | (unfold clOk; rw [decide_eq_false (by omega)]; rfl) | (unfold clOk; rw [← decide_not]; exact decide_eq_decide.2 (by omega))) HM.below)
 have hd5 := of_decide_eq_false hb5
 refine fp HF 4 3 [(2, .bool (decide ((t : Int) > (281474976710656 : Int))))] fun a HF => ?_
 refine s_d0 (wp_ret ?_)
 exact s_rt1 rfl HF rfl (is_as (by first | (unfold clOk; rw [decide_eq_false (by omega)]; rfl) | (unfold clOk; rw [← decide_not]; exact decide_eq_decide.2 (by omega))) HM.below)
theorem qlu (A : Option Addr) (c : Nat) (l : List Int) (w : World) (hr : Rd w w.heap.size 1 A l.length (l.map I64i)) (hn : l.length ≤ 1000000) :
    Calls Tryz.prog 140 #[.slice A l.length c, .func (.func 119) #[] #[]] w (BadAt w l.length (fun c => clOk (l.getD c 0))) := by
 refine s_ce Tryz.func140 [.slice A l.length c, .func (.func 119) #[] #[]] [(0, .slice A l.length c), (1, .func (.func 119) #[] #[])] fun a HF => ?_
 have HM := Mem.start w
 refine s_fs1 ?_
 refine fp HF 1 0 [(4, vI 0)] fun a HF => ?_
 refine s_d0 (wp_seq (s_fs1 ?_))
 refine fp HF 1 0 [(6, .slice A l.length c)] fun a HF => ?_
 refine s_fl HF 1 fun a HF => ?_
 refine fp HF 1 2 [(8, vI 0)] fun a HF => ?_
 refine s_d0 (wp_block ?_)
 refine qi (fun mS aS wS => ∃ (k : Nat), (k ≤ l.length) ∧ (UpTo k (fun c => clOk (l.getD c 0))) ∧ mS = l.length - k ∧ Fr aS 19 [] [(8, vI k), (7, vI l.length), (4, vI 0), (0, .slice A l.length c), (1, .func (.func 119) #[] #[])] ∧ Mem w wS []) (m := l.length - 0) ⟨0, Nat.zero_le _, UpTo.zero, rfl, HF.sub (by kernel_rfl), HM.pk []⟩ ?_
 clear HF HM; rintro mS a w_ ⟨k, hk, hu, rfl, HF, HM⟩
 refine s_fs1 ?_
 refine fp HF 1 0 [(9, .bool (decide ((k : Int) < (l.length : Int))))] fun a HF => ?_
 refine s_d0 (wp_seq ?_)
 rcases HF.tf 9 rfl with ⟨hb9, HF⟩ | ⟨hb9, HF⟩
 ·
  have hd9 := of_decide_eq_true hb9
  have hk9 : k < l.length := by omega
  refine s_ct HF (wp_skip (wp_seq (wp_block (s_fs1 ?_))))
  refine fp HF 2 0 [(5, vI k)] fun a HF => ?_
  refine s_d0 (s_fs1 ?_)
  refine fp HF 3 0 [(13, vI k), (12, .slice A l.length c), (11, .func (.func 119) #[] #[])] fun a HF => ?_
  obtain ⟨gA, oA, rfl, _⟩ := hr.qj (Nat.lt_of_le_of_lt (Nat.zero_le _) (show k < l.length from by omega)) (by decide)
  refine s_fz HF HM 3 rfl (v := vP gA (oA + k * 1)) (Yl.ix gA oA k 1 rfl rfl rfl) fun a HF => ?_
  refine s_fz HF HM 4 rfl (v := vI (l.getD k 0)) (Yl.o1 hr k 0 (by omega) rfl rfl) fun a HF => ?_
  refine fo HF 5 rfl rfl ?_
  refine qf3 HF (f := 119) (vs := [vI (l.getD k 0)]) (fst := []) (caps := []) rfl rfl rfl (by kernel_rfl) rfl (by decide) (qrj (l.getD k 0) _) ?_
  rintro _ w16 ⟨rfl, hbw⟩
  refine ⟨_, rfl, ?_⟩
  replace HM := HM.call hbw
  clear HF; intro a HF
  refine s_d0 ?_
  rcases HF.tf 16 rfl with ⟨hb16, HF⟩ | ⟨hb16, HF⟩
  ·
   refine s_ct HF (s_fs1 ?_)
   refine fp HF 2 0 [(4, vI k)] fun a HF => ?_
   refine s_d0 (wp_ret ?_)
   exact s_rt1 rfl HF rfl (qou hk9 (by simpa using hb16) HM.below)
  refine s_cf HF (wp_skip (qa ?_))
  refine fp HF 1 0 [(18, vI (IntKind.i64.wrap ((k : Int) + 1)))] fun a HF => ?_
  replace HF := HF.sp 18 (vI (k + 1 : Nat)) rfl (qc (by omega) (by omega))
  refine fp HF 1 1 [(8, vI (k + 1 : Nat))] fun a HF => ?_
  refine s_d0 ?_
  exact ⟨_, (by omega), k + 1, by omega, hu.succ (by simpa using hb16), rfl, HF.sub (by kernel_rfl), HM.pk []⟩
 have hd9 := of_decide_eq_false hb9
 refine s_cf HF (wp_exit (s_fs1 ?_))
 refine fp HF 1 0 [(4, vI (-1))] fun a HF => ?_
 refine s_d0 (wp_ret ?_)
 exact s_rt1 rfl HF rfl (qov (fun i hi => hu i (by omega)) HM.below)
theorem qhb (A : Option Addr) (c : Nat) (l : List Int) (w : World) (hr : Rd w w.heap.size 1 A l.length (l.map I64i)) (hn : l.length ≤ 1000000) :
    Calls Tryz.prog 118 #[.slice A l.length c, .func (.func 119) #[] #[]] w (Is w (.bool (!allN l.length (fun c => clOk (l.getD c 0))))) := by
 refine s_ce Tryz.func118 [.slice A l.length c, .func (.func 119) #[] #[]] [(0, .slice A l.length c), (1, .func (.func 119) #[] #[])] fun a HF => ?_
 have HM := Mem.start w
 refine s_fs1 ?_
 refine fp HF 1 0 [(4, .bool false)] fun a HF => ?_
 refine s_d0 (s_fs1 ?_)
 refine fp HF 2 0 [(6, .func (.func 119) #[] #[]), (5, .slice A l.length c)] fun a HF => ?_
 refine fo HF 2 rfl rfl ?_
 refine e_cl HF [.slice A l.length c, .func (.func 119) #[] #[]] rfl rfl (qlu A c l _ (HM.old hr) hn) ?_
 rintro _ w7 ⟨⟨i, rfl, he⟩, hbw⟩
 refine ⟨_, rfl, ?_⟩
 replace HM := HM.call hbw
 clear HF; intro a HF
 refine fp HF 2 3 [(4, .bool (decide ((i : Int) ≥ (0 : Int))))] fun a HF => ?_
 refine s_d0 (wp_ret ?_)
 exact s_rt1 rfl HF rfl (is_as he HM.below)
theorem qoy (x : Stm) (hok : x.sta.Ok) (hf : StFew x) (w : World) (hx : StRd w x) :
    Calls Tryz.prog 92 #[.agg x.cells] w (Is w (.bool (zb x.sta))) := by
 have hfs := hf.s; have hft := hf.t; have hfg := hf.g; have hfl := hf.l; have hfu := hf.u
 refine s_ce Tryz.func92 [.agg x.cells] [(0, .agg x.cells)] fun a HF => ?_
 have HM := Mem.start w
 refine s_fs1 ?_
 refine fo HF 0 rfl rfl (s_eb HF HM x.cells ?_)
 clear HF HM; intro a w1 g1 HF HM
 refine fp HF 1 1 [(2, .bool false)] fun a HF => ?_
 refine s_d0 (wp_seq (s_fs1 ?_))
 refine fp HF 1 0 [(9, vP g1 0)] fun a HF => ?_
 refine s_fz HF HM 1 rfl (v := .agg #[vI x.cpus, vQ x.credit, .slice x.gA x.gs.length x.gc]) (Yl.qt rfl rfl qa9 rfl (fun _ h => h.sub (i := 0) rfl 0 rfl)) fun a HF => ?_
 refine fo HF 2 rfl rfl (e_is HF HM [.agg #[vI x.cpus, vQ x.credit, .slice x.gA x.gs.length x.gc]] (.bool (cfgOk x.sta)) rfl rfl (qgk x hok hf _ (hx.old HM)) fun w11 hbw HM a HF => ?_)
 refine fp HF 2 3 [(13, .bool (!(cfgOk x.sta)))] fun a HF => ?_
 rcases HF.tf 13 rfl with ⟨hb13, HF⟩ | ⟨hb13, HF⟩
 ·
  refine fp HF 27 5 [(40, .bool true)] fun a HF => ?_
  refine s_d0 (s_ct HF (s_fs1 ?_))
  refine fp HF 1 0 [(2, .bool false)] fun a HF => ?_
  refine s_d0 (wp_ret ?_)
  exact s_rt1 rfl HF rfl (is_as (q0n (by simpa using hb13)).symm HM.below)
 have hcf : cfgOk x.sta = true := by simpa using hb13
 obtain ⟨hc1, hc2, hc3, hgs⟩ := qc2 hcf
 have hcp : 1 ≤ x.cpus ∧ x.cpus ≤ 64 := ⟨hc1, hc2⟩
 refine fp HF 1 5 [(14, vP g1 3)] fun a HF => ?_
 refine s_fz HF HM 6 rfl (v := .slice x.lA x.cl.length x.lc) (Yl.qd rfl rfl (by kernel_rfl) (fun _ h => h.cell (i := 0) rfl (rfl))) fun a HF => ?_
 refine s_fl HF 7 fun a HF => ?_
 refine fp HF 2 8 [(18, vP g1 0)] fun a HF => ?_
 refine s_fz HF HM 10 rfl (v := vI x.cpus) (Yl.qd rfl rfl (by kernel_rfl) (fun _ h => h.cell (i := 0) rfl (rfl))) fun a HF => ?_
 refine fp HF 3 11 [(22, .bool ((x.cl.length : Int) != (x.cpus : Int)))] fun a HF => ?_
 rcases HF.tf 22 rfl with ⟨hb22, HF⟩ | ⟨hb22, HF⟩
 ·
  have hd22 := bne_iff_ne.1 hb22
  refine fp HF 18 14 [(40, .bool true)] fun a HF => ?_
  refine s_d0 (s_ct HF (s_fs1 ?_))
  refine fp HF 1 0 [(2, .bool false)] fun a HF => ?_
  refine s_d0 (wp_ret ?_)
  exact s_rt1 rfl HF rfl (is_as (qq3 (by omega)).symm HM.below)
 have hd22 := bne_eq_false_iff_eq.1 hb22
 refine fp HF 1 14 [(23, vP g1 4)] fun a HF => ?_
 refine s_fz HF HM 15 rfl (v := .slice x.uA x.cu.length x.uc) (Yl.qd rfl rfl (by kernel_rfl) (fun _ h => h.cell (i := 0) rfl (rfl))) fun a HF => ?_
 refine s_fl HF 16 fun a HF => ?_
 refine fp HF 2 17 [(27, vP g1 0)] fun a HF => ?_
 refine s_fz HF HM 19 rfl (v := vI x.cpus) (Yl.qd rfl rfl (by kernel_rfl) (fun _ h => h.cell (i := 0) rfl (rfl))) fun a HF => ?_
 refine fp HF 3 20 [(31, .bool ((x.cu.length : Int) != (x.cpus : Int)))] fun a HF => ?_
 rcases HF.tf 31 rfl with ⟨hb31, HF⟩ | ⟨hb31, HF⟩
 ·
  have hd31 := bne_iff_ne.1 hb31
  refine fp HF 9 23 [(40, .bool true)] fun a HF => ?_
  refine s_d0 (s_ct HF (s_fs1 ?_))
  refine fp HF 1 0 [(2, .bool false)] fun a HF => ?_
  refine s_d0 (wp_ret ?_)
  exact s_rt1 rfl HF rfl (is_as (qq3 (by omega)).symm HM.below)
 have hd31 := bne_eq_false_iff_eq.1 hb31
 refine fp HF 1 23 [(32, vP g1 6)] fun a HF => ?_
 refine s_fz HF HM 24 rfl (v := .slice x.sA x.rs.length x.sc) (Yl.qd rfl rfl (by kernel_rfl) (fun _ h => h.cell (i := 0) rfl (rfl))) fun a HF => ?_
 refine s_fl HF 25 fun a HF => ?_
 refine fp HF 2 26 [(36, vP g1 2)] fun a HF => ?_
 refine s_fz HF HM 28 rfl (v := .slice x.gA x.gs.length x.gc) (Yl.qd rfl rfl (by kernel_rfl) (fun _ h => h.cell (i := 0) rfl (rfl))) fun a HF => ?_
 refine s_fl HF 29 fun a HF => ?_
 refine fp HF 2 30 [(40, .bool ((x.rs.length : Int) != (x.gs.length : Int)))] fun a HF => ?_
 refine s_d0 ?_
 rcases HF.tf 40 rfl with ⟨hb40, HF⟩ | ⟨hb40, HF⟩
 ·
  have hd40 := bne_iff_ne.1 hb40
  refine s_ct HF (s_fs1 ?_)
  refine fp HF 1 0 [(2, .bool false)] fun a HF => ?_
  refine s_d0 (wp_ret ?_)
  exact s_rt1 rfl HF rfl (is_as (qq3 (by omega)).symm HM.below)
 have hd40 := bne_eq_false_iff_eq.1 hb40
 refine s_cf HF (wp_skip (wp_seq (s_fs1 ?_)))
 refine fp HF 1 0 [(41, vP g1 3)] fun a HF => ?_
 refine s_fz HF HM 1 rfl (v := .slice x.lA x.cl.length x.lc) (Yl.qd rfl rfl (by kernel_rfl) (fun _ h => h.cell (i := 0) rfl (rfl))) fun a HF => ?_
 refine fo HF 2 rfl rfl (e_is HF HM [.slice x.lA x.cl.length x.lc, .func (.func 119) #[] #[]] (.bool (!allN x.cl.length (fun c => clOk (x.cl.getD c 0)))) rfl rfl (qhb x.lA x.lc x.cl _ (HM.old hx.l) hf.l) fun w43 hbw HM a HF => ?_)
 refine s_d0 ?_
 rcases HF.tf 43 rfl with ⟨hb43, HF⟩ | ⟨hb43, HF⟩
 ·
  refine s_ct HF (s_fs1 ?_)
  refine fp HF 1 0 [(2, .bool false)] fun a HF => ?_
  refine s_d0 (wp_ret ?_)
  exact s_rt1 rfl HF rfl (is_as (sh_cl (by simpa using hb43)).symm HM.below)
 have hcl : allN x.cl.length (fun c => clOk (x.cl.getD c 0)) = true := by simpa using hb43
 refine s_cf HF (wp_skip (wp_seq (s_fs1 ?_)))
 refine fp HF 1 0 [(44, vP g1 6)] fun a HF => ?_
 refine s_fz HF HM 1 rfl (v := .slice x.sA x.rs.length x.sc) (Yl.qd rfl rfl (by kernel_rfl) (fun _ h => h.cell (i := 0) rfl (rfl))) fun a HF => ?_
 refine s_fl HF 2 fun a HF => ?_
 refine fp HF 1 3 [(47, vI 0)] fun a HF => ?_
 refine s_d0 (wp_block ?_)
 refine qi (fun mS aS wS => ∃ (g : Nat), (g ≤ x.rs.length) ∧ (UpTo g (rowOk x.sta)) ∧ mS = x.rs.length - g ∧ Fr aS 123 [] [(47, vI g), (46, vI x.rs.length), (45, .slice x.sA x.rs.length x.sc), (43, .bool false), (40, .bool false), (2, .bool false), (1, vP g1 0)] ∧ Mem w wS [.blk g1 x.cells 30]) (m := x.rs.length - 0) ⟨0, Nat.zero_le _, UpTo.zero, rfl, HF.sub (by kernel_rfl), HM.pk [0]⟩ ?_
 clear HF HM; rintro mS a w_ ⟨g, hg, hu, rfl, HF, HM⟩
 refine s_fs1 ?_
 refine fp HF 1 0 [(48, .bool (decide ((g : Int) < (x.rs.length : Int))))] fun a HF => ?_
 refine s_d0 (wp_seq ?_)
 rcases HF.tf 48 rfl with ⟨hb48, HF⟩ | ⟨hb48, HF⟩
 ·
  have hd48 := of_decide_eq_true hb48
  have hg48 : g < x.rs.length := by omega
  obtain ⟨y, hy⟩ : ∃ z, x.rs.getD g Rw.zero = z := ⟨_, rfl⟩
  have hyr : Rd w w.heap.size 3 y.A y.l.length (y.l.flatMap spL) := by rw [← hy]; exact hx.row hg48
  have hyl : y.l.length ≤ 1000000 := by rw [← hy]; exact hf.r _ (qu Rw.zero hg48)
  have hyo : ∀ z ∈ y.l, z.Ok := by rw [← hy, ← rs_at hg48]; exact hok.sp _ (qu [] (by rw [qaq]; exact hg48))
  obtain ⟨wt, hwt⟩ : ∃ z, (x.gs.getD g Gr.zero).weight = z := ⟨_, rfl⟩
  have hw1 := wt_at hgs (show g < x.gs.length by omega)
  rw [hwt] at hw1
  obtain ⟨gq1, oq1, hq1, _⟩ := Rd.qj hx.g (Nat.lt_of_le_of_lt (Nat.zero_le _) (show g < x.gs.length from by omega)) (by decide)
  have hrq1 := hx.g; rw [hq1] at hrq1
  refine s_ct HF (wp_skip (wp_seq (wp_block (s_fs1 ?_))))
  refine fp HF 1 0 [(49, vI g)] fun a HF => ?_
  obtain ⟨gq2, oq2, hq2, _⟩ := Rd.qj hx.s (Nat.lt_of_le_of_lt (Nat.zero_le _) (show g < x.rs.length from by omega)) (by decide)
  have hrq2 := hx.s; rw [hq2] at hrq2
  replace HF := HF.sp 45 (.slice (some ⟨gq2, oq2, none⟩) x.rs.length x.sc) rfl (by rw [hq2]; try rfl)
  refine s_fz HF HM 1 rfl (v := vP gq2 (oq2 + g * 1)) (Yl.ix gq2 oq2 g 1 rfl rfl rfl) fun a HF => ?_
  refine s_fz HF HM 2 rfl (v := .slice ((x.rs.getD g Rw.zero).A) ((x.rs.getD g Rw.zero).l.length) ((x.rs.getD g Rw.zero).c)) (Yl.o1 hrq2 g Rw.zero (by first | omega | (simp; omega)) rfl rfl) fun a HF => ?_
  replace HF := HF.sp 51 (.slice y.A y.l.length y.c) rfl (by rw [hy])
  refine fp HF 2 3 [(4, .slice y.A y.l.length y.c), (3, vI g)] fun a HF => ?_
  refine s_d0 (wp_seq (s_fs1 ?_))
  refine fp HF 1 0 [(52, .slice y.A y.l.length y.c)] fun a HF => ?_
  refine s_fl HF 1 fun a HF => ?_
  refine fp HF 2 2 [(55, vP g1 0)] fun a HF => ?_
  refine s_fz HF HM 4 rfl (v := vI x.cpus) (Yl.qd rfl rfl (by kernel_rfl) (fun _ h => h.cell (i := 0) rfl (rfl))) fun a HF => ?_
  refine fp HF 1 5 [(57, .bool ((y.l.length : Int) != (x.cpus : Int)))] fun a HF => ?_
  refine s_d0 ?_
  rcases HF.tf 57 rfl with ⟨hb57, HF⟩ | ⟨hb57, HF⟩
  ·
   have hd57 := bne_iff_ne.1 hb57
   refine s_ct HF (s_fs1 ?_)
   refine fp HF 1 0 [(2, .bool false)] fun a HF => ?_
   refine s_d0 (wp_ret ?_)
   exact s_rt1 rfl HF rfl (is_as (qw3 hg48 (qq4 hg48 (by rw [hy]; omega))).symm HM.below)
  have hd57 := bne_eq_false_iff_eq.1 hb57
  refine s_cf HF (wp_skip (s_fs1 ?_))
  refine fp HF 1 0 [(58, .slice y.A y.l.length y.c)] fun a HF => ?_
  refine s_fl HF 1 fun a HF => ?_
  refine fp HF 1 2 [(60, vI 0)] fun a HF => ?_
  refine s_d0 (wp_block ?_)
  refine qi (fun mS aS wS => ∃ (c : Nat), (c ≤ y.l.length) ∧ (UpTo c (fun c => spOk x.sta g (y.l.getD c Sp.zero))) ∧ mS = y.l.length - c ∧ Fr aS 123 [] [(60, vI c), (59, vI y.l.length), (58, .slice y.A y.l.length y.c), (57, .bool false), (4, .slice y.A y.l.length y.c), (3, vI g), (45, .slice (some ⟨gq2, oq2, none⟩) x.rs.length x.sc), (48, .bool true), (47, vI g), (46, vI x.rs.length), (43, .bool false), (40, .bool false), (2, .bool false), (1, vP g1 0)] ∧ Mem w wS [.blk g1 x.cells 30]) (m := y.l.length - 0) ⟨0, Nat.zero_le _, UpTo.zero, rfl, HF.sub (by kernel_rfl), HM.pk [0]⟩ ?_
  clear HF HM; rintro mS a w_ ⟨c, hc, hu2, rfl, HF, HM⟩
  refine s_fs1 ?_
  refine fp HF 1 0 [(61, .bool (decide ((c : Int) < (y.l.length : Int))))] fun a HF => ?_
  refine s_d0 (wp_seq ?_)
  rcases HF.tf 61 rfl with ⟨hb61, HF⟩ | ⟨hb61, HF⟩
  ·
   have hd61 := of_decide_eq_true hb61
   have hc61 : c < y.l.length := by omega
   obtain ⟨z, hz⟩ : ∃ q, y.l.getD c Sp.zero = q := ⟨_, rfl⟩
   have hzo := hyo _ (qu Sp.zero hc61)
   rw [hz] at hzo
   have hzv := hzo.v; have hzr := hzo.r
   refine s_ct HF (wp_skip (wp_seq (wp_block (s_fs1 ?_))))
   obtain ⟨gq3, oq3, hq3, _⟩ := Rd.qj hyr (Nat.lt_of_le_of_lt (Nat.zero_le _) (show c < y.l.length from by omega)) (by decide)
   have hrq3 := hyr; rw [hq3] at hrq3
   replace HF := HF.sp 58 (.slice (some ⟨gq3, oq3, none⟩) y.l.length y.c) rfl (by rw [hq3]; try rfl)
   refine s_fz HF HM 0 rfl (v := vP gq3 (oq3 + c * 3)) (Yl.ix gq3 oq3 c 3 rfl rfl rfl) fun a HF => ?_
   refine s_fz HF HM 1 rfl (v := .agg ((y.l.getD c Sp.zero).cells)) (Yl.qt rfl rfl si_sp rfl (fun _ h => (h.old hrq3).q9 qak ((getD_at Sp.zero hc61)))) fun a HF => ?_
   replace HF := HF.sp 63 (.agg z.cells) rfl (by rw [hz])
   refine fo HF 2 rfl rfl (s_ea HF HM #[vQ 0, vW 0, vQ 0] ?_)
   clear HF HM; intro a w6 g6 HF HM
   refine fo HF 3 rfl rfl (e_sa HF HM 0 rfl rfl rfl rfl rfl si_sp rfl rfl (qwy z) ?_)
   clear HM; intro w12_3 HM
   refine s_d0 ?_
   refine qa3 (fun aS wS => Fr aS 123 [] [(91, .bool (!spOk x.sta g z)), (6, vP g6 0), (58, .slice (some ⟨gq3, oq3, none⟩) y.l.length y.c), (61, .bool true), (60, vI c), (59, vI y.l.length), (57, .bool false), (4, .slice y.A y.l.length y.c), (3, vI g), (45, .slice (some ⟨gq2, oq2, none⟩) x.rs.length x.sc), (48, .bool true), (47, vI g), (46, vI x.rs.length), (43, .bool false), (40, .bool false), (2, .bool false), (1, vP g1 0)] ∧ Mem w wS [.blk g6 z.cells 43, .blk g1 x.cells 30]) ?_ ?_
   ·
    refine za HM [.blk g6 z.cells 43, .blk g1 x.cells 30] [0, 1] [] fun HM HS => ?_
    refine ap HF (fun _ => HS) [0, 2, 4, 5, 7] (bf 28 [0, 2, 4, 5, 7]) [(71, vI g), (69, vP g1 2), (66, vP g6 1), (64, vP g6 0)] fun a HF => ?_
    refine s_az HF HS 1 rfl (v := vQ z.v) (Yl.qd rfl rfl (by kernel_rfl) (fun _ h => h.cell (i := 0) rfl (rfl))) fun a HF => ?_
    refine s_az HF HS 3 rfl (v := vW z.r) (Yl.qd rfl rfl (by kernel_rfl) (fun _ h => h.cell (i := 0) rfl (rfl))) fun a HF => ?_
    refine s_az HF HS 6 rfl (v := .slice x.gA x.gs.length x.gc) (Yl.qd rfl rfl (by kernel_rfl) (fun _ h => h.cell (i := 1) rfl (rfl))) fun a HF => ?_
    replace HF := HF.sp 70 (.slice (some ⟨gq1, oq1, none⟩) x.gs.length x.gc) rfl (by rw [hq1]; try rfl)
    refine s_az HF HS 8 rfl (v := vP gq1 (oq1 + g * 2)) (Yl.ix gq1 oq1 g 2 rfl rfl rfl) fun a HF => ?_
    refine ap HF (fun _ => HS) [9] (bf 28 [0, 1, 2, 3, 4, 5, 6, 7, 8, 9]) [(73, vP gq1 (oq1 + g * 2 + 1))] fun a HF => ?_
    refine s_az HF HS 10 rfl (v := vI ((x.gs.getD g Gr.zero).weight)) (Yl.qd rfl rfl (by kernel_rfl) (fun _ h => (h.old hrq1).partAt zo (k := g) (j := 1) (x := (x.gs.getD g Gr.zero)) ((getD_at Gr.zero (by omega))) rfl)) fun a HF => ?_
    replace HF := HF.sp 74 (vI wt) rfl (by rw [hwt])
    refine qe [11] (by kernel_rfl) rfl ?_
    refine all_cons ?_ all_nil
    refine qf HF (i := 11) rfl rfl ?_
    refine e_is HF HM [vQ z.v, vW z.r, vI wt] (.agg #[vQ z.v, vW z.r, vW wt]) rfl rfl (qhs z.v z.r wt (by omega) _) fun w75 hbw HM a HF => ?_
    refine keepS (HM.pk [0, 1]) (fun HS => ?_)
    refine qe [12] (by kernel_rfl) rfl ?_
    refine all_cons ?_ all_nil
    refine qf HF (i := 12) rfl rfl ?_
    refine e_is HF HM [.agg #[vQ z.v, vW z.r, vW wt]] (.bool (entOk z.v z.r wt)) rfl rfl (qhr z.v z.r wt (by omega) (by omega) (by omega) _) fun w76 hbw HM a HF => ?_
    refine keepS (HM.pk [0, 1]) (fun HS => ?_)
    refine ap HF (fun _ => HS) [13, 14] (bt 28 [15, 16, 17, 18, 19, 20, 21, 22, 23, 24, 25, 26, 27]) [(78, .bool (!(entOk z.v z.r wt)))] fun a HF => ?_
    rcases HF.tf 78 rfl with ⟨hb78, HF⟩ | ⟨hb78, HF⟩
    ·
     refine ap HF (fun _ => HS) [15, 16, 17, 18, 19, 20, 21, 22, 23, 24, 25, 26, 27] (bt 28 []) [(91, .bool true)] fun a HF => ?_
     refine qk (by kernel_rfl) ?_
     have HF := HF.sp 91 (.bool (!spOk x.sta g z)) rfl (congrArg Value.bool (by rw [qw4 (by rw [hwt]; simpa using hb78)]; rfl))
     exact ⟨HF.sub (by kernel_rfl), HM.pk [0, 1]⟩
    refine ap HF (fun _ => HS) [15, 16, 17] (bt 28 [18, 19, 20, 21, 22, 23, 24, 25, 26, 27]) [(81, .bool ((g : Int) == (0 : Int)))] fun a HF => ?_
    rcases HF.tf 81 rfl with ⟨hb81, HF⟩ | ⟨hb81, HF⟩
    ·
     have hd81 := eq_of_beq hb81
     refine ap HF (fun _ => HS) [18] (bt 28 [19, 20, 21, 22, 23, 24, 25, 26, 27]) [(82, vP g6 0)] fun a HF => ?_
     refine s_az HF HS 19 rfl (v := vQ z.v) (Yl.qd rfl rfl (by kernel_rfl) (fun _ h => h.cell (i := 0) rfl (rfl))) fun a HF => ?_
     refine ap HF (fun _ => HS) [20, 21] (bt 28 [22, 23, 24, 25, 26, 27]) [(85, .bool ((z.v : Int) != (0 : Int)))] fun a HF => ?_
     rcases HF.tf 85 rfl with ⟨hb85, HF⟩ | ⟨hb85, HF⟩
     ·
      have hd85 := bne_iff_ne.1 hb85
      refine ap HF (fun _ => HS) [22, 23, 24, 25, 26, 27] (bt 28 []) [(91, .bool true)] fun a HF => ?_
      refine qk (by kernel_rfl) ?_
      have HF := HF.sp 91 (.bool (!spOk x.sta g z)) rfl (congrArg Value.bool (by rw [qw5 (by omega) (by omega)]; rfl))
      exact ⟨HF.sub (by kernel_rfl), HM.pk [0, 1]⟩
     have hd85 := bne_eq_false_iff_eq.1 hb85
     refine ap HF (fun _ => HS) [22] (bt 28 [23, 24, 25, 26, 27]) [(86, vP g6 1)] fun a HF => ?_
     refine s_az HF HS 23 rfl (v := vW z.r) (Yl.qd rfl rfl (by kernel_rfl) (fun _ h => h.cell (i := 0) rfl (rfl))) fun a HF => ?_
     refine ap HF (fun _ => HS) [24, 25, 26, 27] (bt 28 []) [(91, .bool ((z.r : Int) != (0 : Int)))] fun a HF => ?_
     refine qk (by kernel_rfl) ?_
     have HF := HF.sp 91 (.bool (!spOk x.sta g z)) rfl (congrArg Value.bool (qq8 (by rw [hwt]; simpa using hb78) (by omega) (by omega)))
     exact ⟨HF.sub (by kernel_rfl), HM.pk [0, 1]⟩
    have hd81 := ne_of_beq_false hb81
    refine ap HF (fun _ => HS) [18, 19, 20, 21, 22, 23, 24, 25, 26, 27] (bt 28 []) [(91, .bool false)] fun a HF => ?_
    refine qk (by kernel_rfl) ?_
    have HF := HF.sp 91 (.bool (!spOk x.sta g z)) rfl (congrArg Value.bool (by rw [qq7 (by rw [hwt]; simpa using hb78) (by omega)]; rfl))
    exact ⟨HF.sub (by kernel_rfl), HM.pk [0, 1]⟩
   clear HF HM; rintro a w13 ⟨HF, HM⟩
   rcases HF.tf 91 rfl with ⟨hb91, HF⟩ | ⟨hb91, HF⟩
   ·
    refine s_ct HF (s_fs1 ?_)
    refine fp HF 1 0 [(2, .bool false)] fun a HF => ?_
    refine s_d0 (wp_ret ?_)
    exact s_rt1 rfl HF rfl (is_as (qw3 hg48 (qq5 hg48 (by rw [hy]; exact hc61) (by rw [hy, hz]; simpa using hb91))).symm HM.below)
   refine s_cf HF (wp_skip (qa ?_))
   refine fp HF 1 0 [(92, vI (IntKind.i64.wrap ((c : Int) + 1)))] fun a HF => ?_
   replace HF := HF.sp 92 (vI (c + 1 : Nat)) rfl (qc (by omega) (by omega))
   refine fp HF 1 1 [(60, vI (c + 1 : Nat))] fun a HF => ?_
   refine s_d0 ?_
   replace HF := HF.sp 58 (.slice y.A y.l.length y.c) rfl (by rw [hq3])
   exact ⟨_, (by omega), c + 1, by omega, hu2.succ (by rw [hz]; simpa using hb91), rfl, HF.sub (by kernel_rfl), HM.pk [1]⟩
  have hd61 := of_decide_eq_false hb61
  refine s_cf HF (wp_exit (qa ?_))
  refine fp HF 1 0 [(93, vI (IntKind.i64.wrap ((g : Int) + 1)))] fun a HF => ?_
  replace HF := HF.sp 93 (vI (g + 1 : Nat)) rfl (qc (by omega) (by omega))
  refine fp HF 1 1 [(47, vI (g + 1 : Nat))] fun a HF => ?_
  refine s_d0 ?_
  replace HF := HF.sp 45 (.slice x.sA x.rs.length x.sc) rfl (by rw [hq2])
  exact ⟨_, (by omega), g + 1, by omega, hu.succ (qq6 hg48 (by rw [hy]; omega) (by rw [hy]; exact fun i hi => hu2 i (by omega))), rfl, HF.sub (by kernel_rfl), HM.pk [0]⟩
 have hd48 := of_decide_eq_false hb48
 refine s_cf HF (wp_exit (wp_seq (s_fs1 ?_)))
 refine fp HF 1 0 [(94, vP g1 5)] fun a HF => ?_
 refine s_fz HF HM 1 rfl (v := .slice x.tA x.ts.length x.tc) (Yl.qd rfl rfl (by kernel_rfl) (fun _ h => h.cell (i := 0) rfl (rfl))) fun a HF => ?_
 refine s_fl HF 2 fun a HF => ?_
 refine fp HF 1 3 [(97, vI 0)] fun a HF => ?_
 refine s_d0 (wp_block ?_)
 refine qi (fun mS aS wS => ∃ (i : Nat), (i ≤ x.ts.length) ∧ (UpTo i (tkAt x.sta)) ∧ mS = x.ts.length - i ∧ Fr aS 123 [] [(97, vI i), (96, vI x.ts.length), (95, .slice x.tA x.ts.length x.tc), (48, .bool false), (47, vI g), (46, vI x.rs.length), (45, .slice x.sA x.rs.length x.sc), (43, .bool false), (40, .bool false), (2, .bool false), (1, vP g1 0)] ∧ Mem w wS [.blk g1 x.cells 30]) (m := x.ts.length - 0) ⟨0, Nat.zero_le _, UpTo.zero, rfl, HF.sub (by kernel_rfl), HM.pk [0]⟩ ?_
 clear HF HM; rintro mS a w_ ⟨i, hi, hu3, rfl, HF, HM⟩
 refine s_fs1 ?_
 refine fp HF 1 0 [(98, .bool (decide ((i : Int) < (x.ts.length : Int))))] fun a HF => ?_
 refine s_d0 (wp_seq ?_)
 rcases HF.tf 98 rfl with ⟨hb98, HF⟩ | ⟨hb98, HF⟩
 ·
  have hd98 := of_decide_eq_true hb98
  have hi98 : i < x.ts.length := by omega
  obtain ⟨t, ht⟩ : ∃ q, x.ts.getD i Tk.zero = q := ⟨_, rfl⟩
  have htok : t.Ok := by rw [← ht]; exact hok.ts _ (qu Tk.zero hi98)
  have hti := htok.id
  unfold I64 at hti
  refine s_ct HF (wp_skip (wp_seq (wp_block (s_fs1 ?_))))
  refine fp HF 1 0 [(99, vI i)] fun a HF => ?_
  obtain ⟨gq4, oq4, hq4, _⟩ := Rd.qj hx.t (Nat.lt_of_le_of_lt (Nat.zero_le _) (show i < x.ts.length from by omega)) (by decide)
  have hrq4 := hx.t; rw [hq4] at hrq4
  replace HF := HF.sp 95 (.slice (some ⟨gq4, oq4, none⟩) x.ts.length x.tc) rfl (by rw [hq4]; try rfl)
  refine s_fz HF HM 1 rfl (v := vP gq4 (oq4 + i * 8)) (Yl.ix gq4 oq4 i 8 rfl rfl rfl) fun a HF => ?_
  refine s_fz HF HM 2 rfl (v := .agg ((x.ts.getD i Tk.zero).cells)) (Yl.qt rfl rfl si_tk rfl (fun _ h => (h.old hrq4).q9 zw ((getD_at Tk.zero hi98)))) fun a HF => ?_
  replace HF := HF.sp 101 (.agg t.cells) rfl (by rw [ht])
  refine fo HF 3 rfl rfl (s_ea HF HM #[vI 0, vI 0, vI 0, vI 0, vQ 0, .bool false, vQ 0, vW 0] ?_)
  clear HF HM; intro a w8 g8 HF HM
  refine fp HF 1 4 [(7, vI i)] fun a HF => ?_
  refine fo HF 5 rfl rfl (e_sa HF HM 0 rfl rfl rfl rfl rfl si_tk rfl rfl (qjz t) ?_)
  clear HM; intro w19_5 HM
  refine s_d0 ?_
  refine qa3 (fun aS wS => Fr aS 123 [] [(121, .bool (!tkAt x.sta i)), (7, vI i), (8, vP g8 0), (95, .slice (some ⟨gq4, oq4, none⟩) x.ts.length x.tc), (98, .bool true), (97, vI i), (96, vI x.ts.length), (48, .bool false), (47, vI g), (46, vI x.rs.length), (45, .slice x.sA x.rs.length x.sc), (43, .bool false), (40, .bool false), (2, .bool false), (1, vP g1 0)] ∧ Mem w wS [.blk g8 t.cells 46, .blk g1 x.cells 30]) ?_ ?_
  ·
   refine za HM [.blk g8 t.cells 46, .blk g1 x.cells 30] [0, 1] [] fun HM HS => ?_
   refine ap HF (fun _ => HS) [0, 1, 2] (bf 20 [0, 1, 2]) [(104, .bool (decide ((i : Int) > (0 : Int))))] fun a HF => ?_
   rcases HF.tf 104 rfl with ⟨hb104, HF⟩ | ⟨hb104, HF⟩
   ·
    have hd104 := of_decide_eq_true hb104
    refine ap HF (fun _ => HS) [3, 5, 10] (bf 20 [0, 1, 2, 3, 5, 10]) [(112, vP g8 0), (107, vI i), (105, vP g1 5)] fun a HF => ?_
    refine s_az HF HS 4 rfl (v := .slice x.tA x.ts.length x.tc) (Yl.qd rfl rfl (by kernel_rfl) (fun _ h => h.cell (i := 1) rfl (rfl))) fun a HF => ?_
    refine qh HF (fun _ => HS) (i := 6) rfl rfl (d := 108) rfl (by decide) (by kernel_rfl) (fun _ _ _ h => h) (v := vI (IntKind.i64.wrap ((i : Int) - 1))) (fun _ => Yl.pure (by kernel_rfl)) fun a HF => ?_
    replace HF := HF.sp 108 (vI (i - 1 : Nat)) rfl (qc (by omega) (by omega))
    replace HF := HF.sp 106 (.slice (some ⟨gq4, oq4, none⟩) x.ts.length x.tc) rfl (by rw [hq4]; try rfl)
    refine s_az HF HS 7 rfl (v := vP gq4 (oq4 + (i - 1) * 8)) (Yl.ix gq4 oq4 (i - 1) 8 rfl rfl rfl) fun a HF => ?_
    refine ap HF (fun _ => HS) [8] (bf 20 [0, 1, 2, 3, 4, 5, 6, 7, 8, 10]) [(110, vP gq4 (oq4 + (i - 1) * 8))] fun a HF => ?_
    refine s_az HF HS 9 rfl (v := vI ((x.ts.getD (i - 1) Tk.zero).id)) (Yl.qd rfl rfl (by kernel_rfl) (fun _ h => (by have := (h.old hrq4).partAt zw (k := (i - 1)) (j := 0) (x := (x.ts.getD (i - 1) Tk.zero)) ((getD_at Tk.zero (k := (i - 1)) (by first | omega | (simp; omega)))) rfl; simpa using this))) fun a HF => ?_
    refine s_az HF HS 11 rfl (v := vI t.id) (Yl.qd rfl rfl (by kernel_rfl) (fun _ h => h.cell (i := 0) rfl (rfl))) fun a HF => ?_
    refine ap HF (fun _ => HS) [12, 13, 14] (bt 20 [15, 16, 17, 18, 19]) [(116, .bool (decide (((x.ts.getD (i - 1) Tk.zero).id : Int) ≥ (t.id : Int))))] fun a HF => ?_
    rcases HF.tf 116 rfl with ⟨hb116, HF⟩ | ⟨hb116, HF⟩
    ·
     have hd116 := of_decide_eq_true hb116
     refine ap HF (fun _ => HS) [15, 16, 17, 18, 19] (bt 20 []) [(121, .bool true)] fun a HF => ?_
     refine qk (by kernel_rfl) ?_
     have HF := HF.sp 121 (.bool (!tkAt x.sta i)) rfl (congrArg Value.bool (by rw [qmx (by omega) (by rw [ht]; omega)]; rfl))
     exact ⟨HF.sub (by kernel_rfl), HM.pk [0, 1]⟩
    have hd116 := of_decide_eq_false hb116
    refine s_az HF HS 15 rfl (v := .agg x.cells) (Yl.qt rfl rfl si_st rfl (fun _ h => qg (h.blk (i := 1) rfl))) fun a HF => ?_
    refine s_az HF HS 16 rfl (v := .agg t.cells) (Yl.qt rfl rfl si_tk rfl (fun _ h => qg (h.blk (i := 0) rfl))) fun a HF => ?_
    refine qe [17] (by kernel_rfl) rfl ?_
    refine all_cons ?_ all_nil
    refine qf HF (i := 17) rfl rfl ?_
    refine e_is HF HM [.agg x.cells, .agg t.cells] (.bool (tkOk1 x.sta t)) rfl rfl (qdu x t htok hcp hf.s _) fun w119 hbw HM a HF => ?_
    refine keepS (HM.pk [0, 1]) (fun HS => ?_)
    refine ap HF (fun _ => HS) [18, 19] (bt 20 []) [(121, .bool (!(tkOk1 x.sta t)))] fun a HF => ?_
    refine qk (by kernel_rfl) ?_
    have HF := HF.sp 121 (.bool (!tkAt x.sta i)) rfl (congrArg Value.bool (by rw [qq9 (by rw [ht]; omega), ht]))
    exact ⟨HF.sub (by kernel_rfl), HM.pk [0, 1]⟩
   have hd104 := of_decide_eq_false hb104
   refine ap HF (fun _ => HS) [3, 4, 5, 6, 7, 8, 9, 10, 11, 12, 13, 14] (bt 20 [15, 16, 17, 18, 19]) [(116, .bool false)] fun a HF => ?_
   refine s_az HF HS 15 rfl (v := .agg x.cells) (Yl.qt rfl rfl si_st rfl (fun _ h => qg (h.blk (i := 1) rfl))) fun a HF => ?_
   refine s_az HF HS 16 rfl (v := .agg t.cells) (Yl.qt rfl rfl si_tk rfl (fun _ h => qg (h.blk (i := 0) rfl))) fun a HF => ?_
   refine qe [17] (by kernel_rfl) rfl ?_
   refine all_cons ?_ all_nil
   refine qf HF (i := 17) rfl rfl ?_
   refine e_is HF HM [.agg x.cells, .agg t.cells] (.bool (tkOk1 x.sta t)) rfl rfl (qdu x t htok hcp hf.s _) fun w119 hbw HM a HF => ?_
   refine keepS (HM.pk [0, 1]) (fun HS => ?_)
   refine ap HF (fun _ => HS) [18, 19] (bt 20 []) [(121, .bool (!(tkOk1 x.sta t)))] fun a HF => ?_
   refine qk (by kernel_rfl) ?_
   have HF := HF.sp 121 (.bool (!tkAt x.sta i)) rfl (congrArg Value.bool (by rw [qq9 (by rw [ht]; omega), ht]))
   exact ⟨HF.sub (by kernel_rfl), HM.pk [0, 1]⟩
  clear HF HM; rintro a w20 ⟨HF, HM⟩
  rcases HF.tf 121 rfl with ⟨hb121, HF⟩ | ⟨hb121, HF⟩
  ·
   refine s_ct HF (s_fs1 ?_)
   refine fp HF 1 0 [(2, .bool false)] fun a HF => ?_
   refine s_d0 (wp_ret ?_)
   exact s_rt1 rfl HF rfl (is_as (sh_tk hi98 (by simpa using hb121)).symm HM.below)
  refine s_cf HF (wp_skip (qa ?_))
  refine fp HF 1 0 [(122, vI (IntKind.i64.wrap ((i : Int) + 1)))] fun a HF => ?_
  replace HF := HF.sp 122 (vI (i + 1 : Nat)) rfl (qc (by omega) (by omega))
  refine fp HF 1 1 [(97, vI (i + 1 : Nat))] fun a HF => ?_
  refine s_d0 ?_
  replace HF := HF.sp 95 (.slice x.tA x.ts.length x.tc) rfl (by rw [hq4])
  exact ⟨_, (by omega), i + 1, by omega, hu3.succ (by simpa using hb121), rfl, HF.sub (by kernel_rfl), HM.pk [1]⟩
 have hd98 := of_decide_eq_false hb98
 refine s_cf HF (wp_exit (s_fs1 ?_))
 refine fp HF 1 0 [(2, .bool true)] fun a HF => ?_
 refine s_d0 (wp_ret ?_)
 exact s_rt1 rfl HF rfl (is_as (q0o hcf (by omega) hcl (fun i hi => hu i (by omega)) (fun j hj => hu3 j (by omega))).symm HM.below)
theorem q0r {l : List Tk} {id : Int} {m : Nat} (hs : SortT l) (hm : m < l.length) (h : (l.getD m Tk.zero).id < id) : ∀ k, k < m + 1 → (l.getD k Tk.zero).id < id := fun k hk => by
 rcases Nat.lt_or_ge k m with h1 | h1
 ·have := hs k m h1 hm; omega
 ·obtain rfl : k = m := by omega
  exact h
theorem qyg {l : List Tk} {id : Int} {m : Nat} (hs : SortT l) (hm : m < l.length) (h : id ≤ (l.getD m Tk.zero).id) : ∀ k, m ≤ k → k < l.length → id ≤ (l.getD k Tk.zero).id := fun k hk hl => by
 rcases Nat.lt_or_ge m k with h1 | h1
 ·have := hs m k h1 hl; omega
 ·obtain rfl : k = m := by omega
  exact h
theorem qlv {w w' : World} {l : List Tk} {id : Int} {i : Nat} (hi : i = l.length) (h1 : ∀ k, k < i → (l.getD k Tk.zero).id < id) (hb : Below w.heap.size w w') : qfj w l id (.returned (.tuple #[.int .i64 (i : Int), .bool false])) w' := by
 subst hi
 exact search_end h1 hb
theorem qdv : SI Tryz.prog 156 3 := ⟨by kernel_rfl, by kernel_rfl⟩
theorem nan_i (p : Int) (w : World) : Calls Tryz.prog 144 #[.int .i64 p] w (Is w (.bool false)) := by
 refine s_ce Tryz.func144 [vI p] [(0, vI p)] fun a HF => ?_
 have HM := Mem.start w
 refine s_fs1 ?_
 refine fp HF 1 0 [(2, .bool false)] fun a HF => ?_
 refine s_d0 (s_fs1 ?_)
 refine fp HF 3 0 [(5, .bool ((p : Int) != (p : Int)))] fun a HF => ?_
 replace HF := HF.sp 5 (.bool false) rfl (by simp)
 refine fp HF 1 3 [(2, .bool false)] fun a HF => ?_
 refine s_d0 (wp_ret ?_)
 exact s_rt1 rfl HF rfl (⟨rfl, HM.below⟩)
theorem cmp_i (p q : Int) (w : World) : Calls Tryz.prog 125 #[.int .i64 p, .int .i64 q] w (Is w (.int .i64 (cmpI p q))) := by
 refine s_ce Tryz.func125 [vI p, vI q] [(0, vI p), (1, vI q)] fun a HF => ?_
 have HM := Mem.start w
 refine s_fs1 ?_
 refine fp HF 1 0 [(4, vI 0)] fun a HF => ?_
 refine s_d0 (s_fs1 ?_)
 refine fp HF 1 0 [(7, vI p)] fun a HF => ?_
 refine fo HF 1 rfl rfl ?_
 refine e_cl HF [vI p] rfl rfl (nan_i _ _) ?_
 rintro _ w8 ⟨rfl, hbw⟩
 refine ⟨_, rfl, ?_⟩
 replace HM := HM.call hbw
 clear HF; intro a HF
 refine fp HF 1 2 [(5, .bool false)] fun a HF => ?_
 refine s_d0 (s_fs1 ?_)
 refine fp HF 1 0 [(9, vI q)] fun a HF => ?_
 refine fo HF 1 rfl rfl ?_
 refine e_cl HF [vI q] rfl rfl (nan_i _ _) ?_
 rintro _ w10 ⟨rfl, hbw⟩
 refine ⟨_, rfl, ?_⟩
 replace HM := HM.call hbw
 clear HF; intro a HF
 refine fp HF 1 2 [(6, .bool false)] fun a HF => ?_
 refine s_d0 (wp_seq (s_fs1 ?_))
 refine fp HF 1 0 [(11, .bool false)] fun a HF => ?_
 refine s_d0 (s_cf HF (wp_skip (wp_seq (s_fs1 ?_))))
 refine fp HF 1 0 [(13, .bool false)] fun a HF => ?_
 refine s_d0 (s_cf HF (wp_skip (wp_seq (s_fs1 ?_))))
 refine fp HF 3 0 [(16, .bool (decide ((p : Int) < (q : Int))))] fun a HF => ?_
 refine s_d0 ?_
 rcases HF.tf 16 rfl with ⟨hb16, HF⟩ | ⟨hb16, HF⟩
 ·
  have hd16 := of_decide_eq_true hb16
  refine s_ct HF (s_fs1 ?_)
  refine fp HF 1 0 [(4, vI (-1))] fun a HF => ?_
  refine s_d0 (wp_ret ?_)
  exact s_rt1 rfl HF rfl (⟨by rw [show cmpI p q = -1 from if_pos (by omega)], HM.below⟩)
 have hd16 := of_decide_eq_false hb16
 refine s_cf HF (wp_skip (wp_seq (s_fs1 ?_)))
 refine fp HF 3 0 [(19, .bool (decide ((p : Int) > (q : Int))))] fun a HF => ?_
 refine s_d0 ?_
 rcases HF.tf 19 rfl with ⟨hb19, HF⟩ | ⟨hb19, HF⟩
 ·
  have hd19 := of_decide_eq_true hb19
  refine s_ct HF (s_fs1 ?_)
  refine fp HF 1 0 [(4, vI 1)] fun a HF => ?_
  refine s_d0 (wp_ret ?_)
  exact s_rt1 rfl HF rfl (⟨by rw [show cmpI p q = 1 from (if_neg (by omega)).trans (if_pos (by omega))], HM.below⟩)
 have hd19 := of_decide_eq_false hb19
 refine s_cf HF (wp_skip (s_fs1 ?_))
 refine fp HF 1 0 [(4, vI 0)] fun a HF => ?_
 refine s_d0 (wp_ret ?_)
 exact s_rt1 rfl HF rfl (⟨by rw [show cmpI p q = 0 from (if_neg (by omega)).trans (if_neg (by omega))], HM.below⟩)
theorem nan_u (p : Nat) (w : World) : Calls Tryz.prog 152 #[.int .u64 (p : Int)] w (Is w (.bool false)) := by
 refine s_ce Tryz.func152 [vQ p] [(0, vQ p)] fun a HF => ?_
 have HM := Mem.start w
 refine s_fs1 ?_
 refine fp HF 1 0 [(2, .bool false)] fun a HF => ?_
 refine s_d0 (s_fs1 ?_)
 refine fp HF 3 0 [(5, .bool ((p : Int) != (p : Int)))] fun a HF => ?_
 replace HF := HF.sp 5 (.bool false) rfl (by simp)
 refine fp HF 1 3 [(2, .bool false)] fun a HF => ?_
 refine s_d0 (wp_ret ?_)
 exact s_rt1 rfl HF rfl (⟨rfl, HM.below⟩)
theorem cmp_u (p q : Nat) (w : World) : Calls Tryz.prog 145 #[.int .u64 (p : Int), .int .u64 (q : Int)] w (Is w (.int .i64 (cmpI (p : Int) (q : Int)))) := by
 refine s_ce Tryz.func145 [vQ p, vQ q] [(0, vQ p), (1, vQ q)] fun a HF => ?_
 have HM := Mem.start w
 refine s_fs1 ?_
 refine fp HF 1 0 [(4, vI 0)] fun a HF => ?_
 refine s_d0 (s_fs1 ?_)
 refine fp HF 1 0 [(7, vQ p)] fun a HF => ?_
 refine fo HF 1 rfl rfl ?_
 refine e_cl HF [vQ p] rfl rfl (nan_u _ _) ?_
 rintro _ w8 ⟨rfl, hbw⟩
 refine ⟨_, rfl, ?_⟩
 replace HM := HM.call hbw
 clear HF; intro a HF
 refine fp HF 1 2 [(5, .bool false)] fun a HF => ?_
 refine s_d0 (s_fs1 ?_)
 refine fp HF 1 0 [(9, vQ q)] fun a HF => ?_
 refine fo HF 1 rfl rfl ?_
 refine e_cl HF [vQ q] rfl rfl (nan_u _ _) ?_
 rintro _ w10 ⟨rfl, hbw⟩
 refine ⟨_, rfl, ?_⟩
 replace HM := HM.call hbw
 clear HF; intro a HF
 refine fp HF 1 2 [(6, .bool false)] fun a HF => ?_
 refine s_d0 (wp_seq (s_fs1 ?_))
 refine fp HF 1 0 [(11, .bool false)] fun a HF => ?_
 refine s_d0 (s_cf HF (wp_skip (wp_seq (s_fs1 ?_))))
 refine fp HF 1 0 [(13, .bool false)] fun a HF => ?_
 refine s_d0 (s_cf HF (wp_skip (wp_seq (s_fs1 ?_))))
 refine fp HF 3 0 [(16, .bool (decide ((p : Int) < (q : Int))))] fun a HF => ?_
 refine s_d0 ?_
 rcases HF.tf 16 rfl with ⟨hb16, HF⟩ | ⟨hb16, HF⟩
 ·
  have hd16 := of_decide_eq_true hb16
  refine s_ct HF (s_fs1 ?_)
  refine fp HF 1 0 [(4, vI (-1))] fun a HF => ?_
  refine s_d0 (wp_ret ?_)
  exact s_rt1 rfl HF rfl (⟨by rw [show cmpI (p : Int) (q : Int) = -1 from if_pos (by omega)], HM.below⟩)
 have hd16 := of_decide_eq_false hb16
 refine s_cf HF (wp_skip (wp_seq (s_fs1 ?_)))
 refine fp HF 3 0 [(19, .bool (decide ((p : Int) > (q : Int))))] fun a HF => ?_
 refine s_d0 ?_
 rcases HF.tf 19 rfl with ⟨hb19, HF⟩ | ⟨hb19, HF⟩
 ·
  have hd19 := of_decide_eq_true hb19
  refine s_ct HF (s_fs1 ?_)
  refine fp HF 1 0 [(4, vI 1)] fun a HF => ?_
  refine s_d0 (wp_ret ?_)
  exact s_rt1 rfl HF rfl (⟨by rw [show cmpI (p : Int) (q : Int) = 1 from (if_neg (by omega)).trans (if_pos (by omega))], HM.below⟩)
 have hd19 := of_decide_eq_false hb19
 refine s_cf HF (wp_skip (s_fs1 ?_))
 refine fp HF 1 0 [(4, vI 0)] fun a HF => ?_
 refine s_d0 (wp_ret ?_)
 exact s_rt1 rfl HF rfl (⟨by rw [show cmpI (p : Int) (q : Int) = 0 from (if_neg (by omega)).trans (if_neg (by omega))], HM.below⟩)
theorem qkb (t : Tk) (id : Int) (w : World) : Calls Tryz.prog 124 #[.agg t.cells, .int .i64 id] w (Is w (.int .i64 (cmpI t.id id))) := by
 refine s_ce Tryz.func124 [.agg t.cells, vI id] [(0, .agg t.cells), (1, vI id)] fun a HF => ?_
 have HM := Mem.start w
 refine s_fs1 ?_
 refine fo HF 0 rfl rfl (s_eb HF HM t.cells ?_)
 clear HF HM; intro a w2 g2 HF HM
 refine fp HF 1 1 [(4, vI 0)] fun a HF => ?_
 refine s_d0 (s_fs1 ?_)
 refine fp HF 1 0 [(5, vP g2 0)] fun a HF => ?_
 refine s_fz HF HM 1 rfl (v := vI t.id) (Yl.qd rfl rfl (by kernel_rfl) (fun _ h => h.cell (i := 0) rfl (rfl))) fun a HF => ?_
 refine fp HF 1 2 [(7, vI id)] fun a HF => ?_
 refine fo HF 3 rfl rfl ?_
 refine e_cl HF [vI t.id, vI id] rfl rfl (cmp_i t.id id _) ?_
 rintro _ w8 ⟨rfl, hbw⟩
 refine ⟨_, rfl, ?_⟩
 replace HM := HM.call hbw
 clear HF; intro a HF
 refine fp HF 1 4 [(4, vI (cmpI t.id id))] fun a HF => ?_
 refine s_d0 (wp_ret ?_)
 exact s_rt1 rfl HF rfl (⟨rfl, HM.below⟩)
theorem qoz (A : Option Addr) (c : Nat) (l : List Tk) (id : Int) (hs : SortT l) (w : World) (hr : Rd w w.heap.size 8 A l.length (l.flatMap tkL)) (hn : l.length ≤ 1000000) :
    Calls Tryz.prog 123 #[.slice A l.length c, .int .i64 id, .func (.func 124) #[] #[]] w (qfj w l id) := by
 refine s_ce Tryz.func123 [.slice A l.length c, vI id, .func (.func 124) #[] #[]] [(0, .slice A l.length c), (1, vI id), (2, .func (.func 124) #[] #[])] fun a HF => ?_
 have HM := Mem.start w
 refine s_fs1 ?_
 refine fp HF 2 0 [(7, .bool false), (6, vI 0)] fun a HF => ?_
 refine s_d0 (s_fs1 ?_)
 refine fp HF 1 0 [(12, .slice A l.length c)] fun a HF => ?_
 refine s_fl HF 1 fun a HF => ?_
 refine fp HF 1 2 [(8, vI l.length)] fun a HF => ?_
 refine s_d0 (s_fs1 ?_)
 refine fp HF 3 0 [(10, vI l.length), (9, vI 0)] fun a HF => ?_
 refine s_d0 (wp_seq (wp_block ?_))
 refine qi (fun mS aS wS => ∃ (i : Nat) (j : Nat), (i ≤ j) ∧ (j ≤ l.length) ∧ (∀ k, k < i → (l.getD k Tk.zero).id < id) ∧ (∀ k, j ≤ k → k < l.length → id ≤ (l.getD k Tk.zero).id) ∧ mS = j - i ∧ Fr aS 49 [] [(10, vI j), (9, vI i), (8, vI l.length), (7, .bool false), (6, vI 0), (0, .slice A l.length c), (1, vI id), (2, .func (.func 124) #[] #[])] ∧ Mem w wS []) (m := l.length - 0) ⟨0, l.length, Nat.zero_le _, Nat.le_refl _, fun k h => by omega, fun k h1 h2 => by omega, rfl, HF.sub (by kernel_rfl), HM.pk []⟩ ?_
 clear HF HM; rintro mS a w_ ⟨i, j, hij, hj, h1, h2, rfl, HF, HM⟩
 refine wp_seq (s_fs1 ?_)
 refine fp HF 3 0 [(17, .bool (decide ((i : Int) < (j : Int))))] fun a HF => ?_
 refine s_d0 ?_
 rcases HF.tf 17 rfl with ⟨hb17, HF⟩ | ⟨hb17, HF⟩
 ·
  have hd17 := of_decide_eq_true hb17
  have hmid : i ≤ ((i + j) / 2) ∧ ((i + j) / 2) < j := by omega
  refine s_ct HF (wp_skip (wp_block (s_fs1 ?_)))
  refine fp HF 3 0 [(20, vI (IntKind.i64.wrap ((i : Int) + (j : Int))))] fun a HF => ?_
  replace HF := HF.sp 20 (vI (i + j : Nat)) rfl (qc (by omega) (by omega))
  refine fp HF 1 3 [(21, vQ (IntKind.u64.wrap ((i + j : Nat) : Int)))] fun a HF => ?_
  replace HF := HF.sp 21 (vQ (i + j : Nat)) rfl (qbn rfl (by omega))
  refine fp HF 1 4 [(22, vQ (Int.fdiv ((i + j : Nat) : Int) (2 ^ (min (1 : Int).toNat (IntKind.u64).bits))))] fun a HF => ?_
  replace HF := HF.sp 22 (vQ ((i + j) / 2 : Nat)) rfl (qdq .u64 (i + j) (j := 1) (q := 2) rfl rfl)
  refine fp HF 1 5 [(23, vI (IntKind.i64.wrap (((i + j) / 2 : Nat) : Int)))] fun a HF => ?_
  replace HF := HF.sp 23 (vI ((i + j) / 2 : Nat)) rfl (qc rfl (by omega))
  refine fp HF 1 6 [(11, vI ((i + j) / 2 : Nat))] fun a HF => ?_
  refine s_d0 (s_fs1 ?_)
  refine fp HF 3 0 [(26, vI ((i + j) / 2 : Nat)), (25, .slice A l.length c), (24, .func (.func 124) #[] #[])] fun a HF => ?_
  obtain ⟨gA, oA, rfl, _⟩ := hr.qj (Nat.lt_of_le_of_lt (Nat.zero_le _) (show (i + j) / 2 < l.length from by omega)) (by decide)
  refine s_fz HF HM 3 rfl (v := vP gA (oA + ((i + j) / 2) * 8)) (Yl.ix gA oA ((i + j) / 2) 8 rfl rfl rfl) fun a HF => ?_
  refine s_fz HF HM 4 rfl (v := .agg ((l.getD ((i + j) / 2) Tk.zero).cells)) (Yl.qt rfl rfl si_tk rfl (fun _ h => (h.old hr).q9 zw ((getD_at Tk.zero (by omega))))) fun a HF => ?_
  refine fp HF 1 5 [(29, vI id)] fun a HF => ?_
  refine fo HF 6 rfl rfl ?_
  refine qf3 HF (f := 124) (vs := [.agg ((l.getD ((i + j) / 2) Tk.zero).cells), vI id]) (fst := []) (caps := []) rfl rfl rfl (by kernel_rfl) rfl (by decide) (qkb (l.getD ((i + j) / 2) Tk.zero) id _) ?_
  rintro _ w30 ⟨rfl, hbw⟩
  refine ⟨_, rfl, ?_⟩
  replace HM := HM.call hbw
  clear HF; intro a HF
  refine fp HF 1 7 [(31, .bool (decide ((cmpI (l.getD ((i + j) / 2) Tk.zero).id id : Int) < (0 : Int))))] fun a HF => ?_
  replace HF := HF.sp 31 (.bool (decide ((l.getD ((i + j) / 2) Tk.zero).id < id))) rfl (congrArg Value.bool qra)
  refine s_d0 ?_
  rcases HF.tf 31 rfl with ⟨hb31, HF⟩ | ⟨hb31, HF⟩
  ·
   have hd31 := of_decide_eq_true hb31
   have hlt : (l.getD ((i + j) / 2) Tk.zero).id < id := by simpa using hb31
   refine s_ct HF (qa ?_)
   refine fp HF 2 0 [(33, vI (IntKind.i64.wrap ((((i + j) / 2 : Nat) : Int) + 1)))] fun a HF => ?_
   replace HF := HF.sp 33 (vI ((i + j) / 2 + 1 : Nat)) rfl (qc (by omega) (by omega))
   refine fp HF 1 2 [(9, vI ((i + j) / 2 + 1 : Nat))] fun a HF => ?_
   refine s_d0 ?_
   exact ⟨_, (by omega), (((i + j) / 2) + 1), j, by omega, hj, q0r hs (by omega) hlt, h2, rfl, HF.sub (by kernel_rfl), HM.pk []⟩
  have hd31 := of_decide_eq_false hb31
  have hge : ¬ (l.getD ((i + j) / 2) Tk.zero).id < id := by simpa using hb31
  refine s_cf HF (qa ?_)
  refine fp HF 2 0 [(10, vI ((i + j) / 2 : Nat))] fun a HF => ?_
  refine s_d0 ?_
  exact ⟨_, (by omega), i, ((i + j) / 2), by omega, by omega, h1, qyg hs (by omega) (by omega), rfl, HF.sub (by kernel_rfl), HM.pk []⟩
 have hd17 := of_decide_eq_false hb17
 obtain rfl : i = j := by omega
 refine s_cf HF (wp_exit (s_fs1 ?_))
 refine fp HF 5 0 [(39, .bool (decide ((i : Int) < (l.length : Int)))), (35, vI i)] fun a HF => ?_
 rcases HF.tf 39 rfl with ⟨hb39, HF⟩ | ⟨hb39, HF⟩
 ·
  have hd39 := of_decide_eq_true hb39
  refine fp HF 3 5 [(42, vI i), (41, .slice A l.length c), (40, .func (.func 124) #[] #[])] fun a HF => ?_
  obtain ⟨gA, oA, rfl, _⟩ := hr.qj (Nat.lt_of_le_of_lt (Nat.zero_le _) (show i < l.length from by omega)) (by decide)
  refine s_fz HF HM 8 rfl (v := vP gA (oA + i * 8)) (Yl.ix gA oA i 8 rfl rfl rfl) fun a HF => ?_
  refine s_fz HF HM 9 rfl (v := .agg ((l.getD i Tk.zero).cells)) (Yl.qt rfl rfl si_tk rfl (fun _ h => (h.old hr).q9 zw ((getD_at Tk.zero (by omega))))) fun a HF => ?_
  refine fp HF 1 10 [(45, vI id)] fun a HF => ?_
  refine fo HF 11 rfl rfl ?_
  refine qf3 HF (f := 124) (vs := [.agg ((l.getD i Tk.zero).cells), vI id]) (fst := []) (caps := []) rfl rfl rfl (by kernel_rfl) rfl (by decide) (qkb (l.getD i Tk.zero) id _) ?_
  rintro _ w46 ⟨rfl, hbw⟩
  refine ⟨_, rfl, ?_⟩
  replace HM := HM.call hbw
  clear HF; intro a HF
  refine fp HF 1 12 [(47, .bool ((cmpI (l.getD i Tk.zero).id id : Int) == (0 : Int)))] fun a HF => ?_
  replace HF := HF.sp 47 (.bool (decide ((l.getD i Tk.zero).id = id))) rfl (congrArg Value.bool qrb)
  refine fp HF 3 13 [(7, .bool (decide ((l.getD i Tk.zero).id = id))), (6, vI i)] fun a HF => ?_
  refine s_d0 (wp_ret ?_)
  exact s_rt2 rfl HF rfl rfl (qrd hs (by omega) h1 h2 HM.below)
 have hd39 := of_decide_eq_false hb39
 refine fp HF 11 5 [(7, .bool false), (6, vI i)] fun a HF => ?_
 refine s_d0 (wp_ret ?_)
 exact s_rt2 rfl HF rfl rfl (qlv (by omega) h1 HM.below)
theorem qrk (x : Stm) (gm : Nat) (id : Int) (hs : SortT x.ts) (w : World) (hm : w.heap[gm]? = some (.cells #[vI x.cpus, vQ x.credit, .slice x.gA x.gs.length x.gc, .slice x.lA x.cl.length x.lc, .slice x.uA x.cu.length x.uc, .slice x.tA x.ts.length x.tc, .slice x.sA x.rs.length x.sc, .bool true] 153 (0, 0))) (ht : Rd w w.heap.size 8 x.tA x.ts.length (x.ts.flatMap tkL)) (hn : x.ts.length ≤ 1000000) :
    Calls Tryz.prog 93 #[.pointer (some ⟨gm, 0, none⟩), .int .i64 id] w (Is w (.int .i64 (fidx x.ts id))) := by
 refine s_ce Tryz.func93 [vP gm 0, vI id] [(0, vP gm 0), (1, vI id)] fun a HF => ?_
 have HM := Mem.start w
 refine s_fs1 ?_
 refine fp HF 1 0 [(4, vI 0)] fun a HF => ?_
 refine s_d0 (s_fs1 ?_)
 refine fp HF 1 0 [(8, vP gm 0)] fun a HF => ?_
 refine s_fk HF 1 fun a HF => ?_
 refine fp HF 2 2 [(11, vP gm 5)] fun a HF => ?_
 refine s_fz HF HM 4 rfl (v := .slice x.tA x.ts.length x.tc) (Yl.qd rfl rfl (by kernel_rfl) (fun _ h => h.qg7 hm rfl)) fun a HF => ?_
 refine fp HF 1 5 [(13, vI id)] fun a HF => ?_
 refine fo HF 6 rfl rfl ?_
 refine e_cl HF [.slice x.tA x.ts.length x.tc, vI id, .func (.func 124) #[] #[]] rfl rfl (qoz x.tA x.tc x.ts id hs _ (HM.old ht) hn) ?_
 rintro _ w14 ⟨⟨i, b, rfl, hil, hib⟩, hbw⟩
 refine ⟨_, rfl, ?_⟩
 replace HM := HM.call hbw
 clear HF; intro a HF
 refine fp HF 5 7 [(6, .bool b), (5, vI i)] fun a HF => ?_
 refine s_d0 (wp_seq (s_fs1 ?_))
 refine fp HF 2 0 [(18, .bool (!b))] fun a HF => ?_
 refine s_d0 ?_
 rcases HF.tf 18 rfl with ⟨hb18, HF⟩ | ⟨hb18, HF⟩
 ·
  refine s_ct HF (s_fs1 ?_)
  refine fp HF 1 0 [(4, vI (-1))] fun a HF => ?_
  refine s_d0 (wp_ret ?_)
  exact s_rt1 rfl HF rfl (⟨by rw [← hib, if_neg (by simpa using hb18)], HM.below⟩)
 refine s_cf HF (wp_skip (s_fs1 ?_))
 refine fp HF 2 0 [(4, vI i)] fun a HF => ?_
 refine s_d0 (wp_ret ?_)
 exact s_rt1 rfl HF rfl (⟨by rw [← hib, if_pos (by simpa using hb18)], HM.below⟩)
def qlw (x : Stm) (gm c g : Nat) : Prop := ∀ w : World, StRd w x → w.heap[gm]? = some (.cells #[vI x.cpus, vQ x.credit, .slice x.gA x.gs.length x.gc, .slice x.lA x.cl.length x.lc, .slice x.uA x.cu.length x.uc, .slice x.tA x.ts.length x.tc, .slice x.sA x.rs.length x.sc, .bool true] 153 (0, 0)) → Calls Tryz.prog 94 #[.pointer (some ⟨gm, 0, none⟩), .int .i64 (g : Int), .int .i64 (c : Int)] w (Is w (.tuple #[.agg (bestM topM (memS x.sta g c)).cells, .bool (!(memS x.sta g c).isEmpty)]))
theorem tk_id {x : Stm} {i : Nat} (h : tkAt x.sta i = true) : 1 ≤ (x.ts.getD i Tk.zero).id ∧ (x.ts.getD i Tk.zero).id ≤ 65535 := by
 have h1 := (qin h).2
 unfold tkOk1 at h1
 rw [Bool.and_eq_true, decide_eq_true_eq] at h1
 exact ⟨h1.1.1, h1.1.2.1⟩
theorem qht {p : Nat → Prop} {k : Nat} (h : ∀ i, i < k → p i) (hk : p k) : ∀ i, i < k + 1 → p i := fun i hi => by
 rcases Nat.lt_or_ge i k with h1 | h1
 ·exact h i h1
 ·obtain rfl : i = k := by omega
  exact hk
theorem qkc (m n : Mb) (A A2 : Option Addr) (c c2 : Nat) (w : World) (hr : Rd w w.heap.size 1 A 3 (m.nums.map U64)) (hr2 : Rd w w.heap.size 1 A2 3 (n.nums.map U64)) :
    Calls Tryz.prog 127 #[.slice A 3 c, .slice A2 3 c2] w (MbCmp w m n) := by
 refine s_ce Tryz.func127 [.slice A 3 c, .slice A2 3 c2] [(0, .slice A 3 c), (1, .slice A2 3 c2)] fun a HF => ?_
 have HM := Mem.start w
 refine s_fs1 ?_
 refine fp HF 1 0 [(4, vI 0)] fun a HF => ?_
 refine s_d0 (wp_seq (s_fs1 ?_))
 refine fp HF 1 0 [(9, .slice A 3 c)] fun a HF => ?_
 refine s_fl HF 1 fun a HF => ?_
 refine fp HF 1 2 [(11, vI 0)] fun a HF => ?_
 refine s_d0 (wp_block ?_)
 refine qi (fun mS aS wS => ∃ (k : Nat), (k ≤ 3) ∧ (∀ i, i < k → m.nums.getD i 0 = n.nums.getD i 0) ∧ mS = 3 - k ∧ Fr aS 36 [] [(11, vI k), (10, vI 3), (9, .slice A 3 c), (4, vI 0), (0, .slice A 3 c), (1, .slice A2 3 c2)] ∧ Mem w wS []) (m := 3 - 0) ⟨0, by decide, fun i h => by omega, rfl, HF.sub (by kernel_rfl), HM.pk []⟩ ?_
 clear HF HM; rintro mS a w_ ⟨k, hk, he, rfl, HF, HM⟩
 refine s_fs1 ?_
 refine fp HF 1 0 [(12, .bool (decide ((k : Int) < (3 : Int))))] fun a HF => ?_
 refine s_d0 (wp_seq ?_)
 rcases HF.tf 12 rfl with ⟨hb12, HF⟩ | ⟨hb12, HF⟩
 ·
  have hd12 := of_decide_eq_true hb12
  have hk12 : k < 3 := by omega
  refine s_ct HF (wp_skip (wp_seq (wp_block (s_fs1 ?_))))
  refine fp HF 1 0 [(13, vI k)] fun a HF => ?_
  obtain ⟨gA, oA, rfl, _⟩ := hr.qj (Nat.lt_of_le_of_lt (Nat.zero_le _) (show k < 3 from by omega)) (by decide)
  refine s_fz HF HM 1 rfl (v := vP gA (oA + k * 1)) (Yl.ix gA oA k 1 rfl rfl rfl) fun a HF => ?_
  refine s_fz HF HM 2 rfl (v := vQ (m.nums.getD k 0)) (Yl.o1 hr k 0 (show k < 3 by omega) rfl rfl) fun a HF => ?_
  refine fp HF 2 3 [(6, vQ (m.nums.getD k 0)), (5, vI k)] fun a HF => ?_
  refine s_d0 (wp_seq (s_fs1 ?_))
  refine fp HF 2 0 [(17, .slice A2 3 c2), (16, vI k)] fun a HF => ?_
  refine s_fl HF 2 fun a HF => ?_
  refine fp HF 1 3 [(19, .bool (decide ((k : Int) ≥ (3 : Int))))] fun a HF => ?_
  replace HF := HF.sp 19 (.bool false) rfl (congrArg Value.bool (decide_eq_false (by omega)))
  refine s_d0 (s_cf HF (wp_skip (s_fs1 ?_)))
  refine fp HF 2 0 [(21, vI k), (20, .slice A2 3 c2)] fun a HF => ?_
  obtain ⟨gA2, oA2, rfl, _⟩ := hr2.qj (Nat.lt_of_le_of_lt (Nat.zero_le _) (show k < 3 from by omega)) (by decide)
  refine s_fz HF HM 2 rfl (v := vP gA2 (oA2 + k * 1)) (Yl.ix gA2 oA2 k 1 rfl rfl rfl) fun a HF => ?_
  refine s_fz HF HM 3 rfl (v := vQ (n.nums.getD k 0)) (Yl.o1 hr2 k 0 (show k < 3 by omega) rfl rfl) fun a HF => ?_
  refine fp HF 1 4 [(7, vQ (n.nums.getD k 0))] fun a HF => ?_
  refine s_d0 (s_fs1 ?_)
  refine fp HF 2 0 [(25, vQ (n.nums.getD k 0)), (24, vQ (m.nums.getD k 0))] fun a HF => ?_
  refine fo HF 2 rfl rfl ?_
  refine e_cl HF [vQ (m.nums.getD k 0), vQ (n.nums.getD k 0)] rfl rfl (cmp_u (m.nums.getD k 0) (n.nums.getD k 0) _) ?_
  rintro _ w26 ⟨rfl, hbw⟩
  refine ⟨_, rfl, ?_⟩
  replace HM := HM.call hbw
  clear HF; intro a HF
  refine fp HF 1 3 [(8, vI (cmpI ((m.nums.getD k 0) : Int) ((n.nums.getD k 0) : Int)))] fun a HF => ?_
  refine s_d0 (s_fs1 ?_)
  refine fp HF 2 0 [(28, .bool ((cmpI ((m.nums.getD k 0) : Int) ((n.nums.getD k 0) : Int) : Int) != (0 : Int)))] fun a HF => ?_
  replace HF := HF.sp 28 (.bool (decide (((m.nums.getD k 0) : Int) ≠ ((n.nums.getD k 0) : Int)))) rfl (congrArg Value.bool qyb)
  refine s_d0 ?_
  rcases HF.tf 28 rfl with ⟨hb28, HF⟩ | ⟨hb28, HF⟩
  ·
   have hd28 := of_decide_eq_true hb28
   refine s_ct HF (s_fs1 ?_)
   refine fp HF 2 0 [(4, vI (cmpI ((m.nums.getD k 0) : Int) ((n.nums.getD k 0) : Int)))] fun a HF => ?_
   refine s_d0 (wp_ret ?_)
   exact s_rt1 rfl HF rfl (qu0 hk12 he (by omega) HM.below)
  have hd28 := of_decide_eq_false hb28
  refine s_cf HF (wp_skip (qa ?_))
  refine fp HF 1 0 [(30, vI (IntKind.i64.wrap ((k : Int) + 1)))] fun a HF => ?_
  replace HF := HF.sp 30 (vI (k + 1 : Nat)) rfl (qc (by omega) (by omega))
  refine fp HF 1 1 [(11, vI (k + 1 : Nat))] fun a HF => ?_
  refine s_d0 ?_
  exact ⟨_, (by omega), k + 1, by omega, qht he (by omega), rfl, HF.sub (by kernel_rfl), HM.pk []⟩
 have hd12 := of_decide_eq_false hb12
 refine s_cf HF (wp_exit (wp_seq (s_fs1 ?_)))
 refine fp HF 1 0 [(31, .slice A 3 c)] fun a HF => ?_
 refine s_fl HF 1 fun a HF => ?_
 refine fp HF 1 2 [(33, .slice A2 3 c2)] fun a HF => ?_
 refine s_fl HF 3 fun a HF => ?_
 refine fp HF 1 4 [(35, .bool false)] fun a HF => ?_
 refine s_d0 (s_cf HF (wp_skip (s_fs1 ?_)))
 refine fp HF 1 0 [(4, vI 0)] fun a HF => ?_
 refine s_d0 (wp_ret ?_)
 exact s_rt1 rfl HF rfl (qu1 (fun i hi => he i (by omega)) HM.below)
theorem q0s (m : Mb) (w : World) : Calls Tryz.prog 95 #[.agg m.cells] w (Is w (.int .u64 (m.v : Int))) := by
 refine s_ce Tryz.func95 [.agg m.cells] [(0, .agg m.cells)] fun a HF => ?_
 have HM := Mem.start w
 refine s_fs1 ?_
 refine fo HF 0 rfl rfl (s_eb HF HM m.cells ?_)
 clear HF HM; intro a w1 g1 HF HM
 refine fp HF 1 1 [(2, vQ 0)] fun a HF => ?_
 refine s_d0 (s_fs1 ?_)
 refine s_fz HF HM 0 rfl (v := vP g1 0) (Yl.qe0 (ad := ⟨g1, 0, none⟩) (m := 3) (y := 0) (sz := 1) rfl rfl rfl (by kernel_rfl) (by decide)) fun a HF => ?_
 refine s_fz HF HM 1 rfl (v := vQ m.v) (Yl.qd rfl rfl (by kernel_rfl) (fun _ h => h.cell (i := 0) rfl (rfl))) fun a HF => ?_
 refine fp HF 1 2 [(2, vQ m.v)] fun a HF => ?_
 refine s_d0 (wp_ret ?_)
 exact s_rt1 rfl HF rfl (⟨rfl, HM.below⟩)
theorem qyh (W w : World) (gs gb : Nat) (sm : Bool) (m n : Mb) (fs : List Fact) (HM : Mem W w (.blk gs #[.bool sm] 4 :: .blk gb n.cells 156 :: fs)) :
    Calls Tryz.prog 126 ([.agg m.cells, .pointer (some ⟨gs, 0, none⟩), .pointer (some ⟨gb, 0, none⟩)] : List Value).toArray w fun r w' => r = .returned (.tuple #[]) ∧ Mem W w' (.blk gs #[.bool true] 4 :: .blk gb (if m.lt n then m else n).cells 156 :: fs) := by
 refine s_ce Tryz.func126 [.agg m.cells, vP gs 0, vP gb 0] [(0, .agg m.cells), (1, vP gs 0), (2, vP gb 0)] fun a HF => ?_
 refine s_fs1 ?_
 refine fo HF 0 rfl rfl (s_eb HF HM m.cells ?_)
 clear HF HM; intro a w3 g3 HF HM
 refine s_d0 (s_fs1 ?_)
 refine fo HF 0 rfl rfl (s_es HF HM 1 ?_)
 clear HM; intro w1_0 HM
 refine s_d0 (wp_seq ?_)
 refine zf HM (.blk g3 m.cells 156 :: .blk gs #[.bool true] 4 :: .blk gb n.cells 156 :: fs) 3 [0, 1, 2] [] fun HM HS => ?_
 refine s_az HF HS 0 rfl (v := vS g3 3 3) (Yl.qoq (n := 3) (sz := 1) rfl rfl (by kernel_rfl)) fun a HF => ?_
 refine s_az HF HS 1 rfl (v := vS gb 3 3) (Yl.qoq (n := 3) (sz := 1) rfl rfl (by kernel_rfl)) fun a HF => ?_
 refine qe [2] (by kernel_rfl) rfl ?_
 refine all_cons ?_ all_nil
 refine qf HF (i := 2) rfl rfl ?_
 refine e_cl HF [vS g3 3 3, vS gb 3 3] rfl rfl (qkc m n (some ⟨g3, 0, none⟩) (some ⟨gb, 0, none⟩) 3 3 _ (HM.rdBlk (i := 0) (n := 3) (size := 1) rfl rfl) (HM.rdBlk (i := 2) (n := 3) (size := 1) rfl rfl)) ?_
 rintro _ w6 ⟨⟨cc, rfl, hcc⟩, hbw⟩
 refine ⟨_, rfl, ?_⟩
 replace HM := HM.call hbw
 clear HF; intro a HF
 refine keepS (HM.pt 3 [0, 1, 2]) (fun HS => ?_)
 refine qh HF (fun _ => HS) (i := 3) rfl rfl (d := 7) rfl (by decide) (by kernel_rfl) (fun _ _ _ h => h) (v := .bool (decide ((cc : Int) < (0 : Int)))) (fun _ => Yl.pure (by kernel_rfl)) fun a HF => ?_
 replace HF := HF.sp 7 (.bool (m.lt n)) rfl (congrArg Value.bool hcc)
 refine qk (by kernel_rfl) ?_
 rcases HF.tf 7 rfl with ⟨hb7, HF⟩ | ⟨hb7, HF⟩
 ·
  refine s_ct HF (qa ?_)
  refine s_fz HF HM 0 rfl (v := .agg m.cells) (Yl.qt rfl rfl qdv rfl (fun _ h => qg (h.blk (i := 0) rfl))) fun a HF => ?_
  refine fo HF 1 rfl rfl (e_sa HF HM 2 rfl rfl rfl rfl rfl qdv rfl rfl (qm1 m) ?_)
  clear HM; intro w3_1 HM
  refine s_d0 ?_
  refine norm0 rfl HF ⟨rfl, ?_⟩
  rw [if_pos hb7]
  exact HM.pt 3 [1, 2]
 refine s_cf HF (wp_skip ?_)
 refine norm0 rfl HF ⟨rfl, ?_⟩
 rw [if_neg (by rw [hb7]; decide)]
 exact HM.pt 3 [1, 2]
theorem qw6 (W w : World) (gs gb : Nat) (sm : Bool) (m : Mb) (q : List Mb) (fs : List Fact) (HM : Mem W w (.blk gs #[.bool sm] 4 :: .blk gb (bestM topM q).cells 156 :: fs)) :
  Calls Tryz.prog 126 ([.agg m.cells, .pointer (some ⟨gs, 0, none⟩), .pointer (some ⟨gb, 0, none⟩)] : List Value).toArray w fun r w' => r = .returned (.tuple #[]) ∧ Mem W w' (.blk gs #[.bool (!(q ++ [m]).isEmpty)] 4 :: .blk gb (bestM topM (q ++ [m])).cells 156 :: fs) := by
 have h1 := qyh W w gs gb sm m _ fs HM
 rw [← qhq] at h1
 rw [show (!(q ++ [m]).isEmpty) = true from by simp]
 exact h1
theorem qo0 (x : Stm) (hok : x.sta.Ok) (hf : StFew x) (hsh : ShAt x) (gm c : Nat) (hc : (c : Int) < x.cpus) (g : Nat) (hg : g < x.rs.length) (ih : ∀ h, g < h → h < x.rs.length → qlw x gm c h) : qlw x gm c g := by
 intro w hx hm
 have hfs := hf.s; have hft := hf.t; have hfg := hf.g; have hrl := hsh.rs; have hto := hok.ts
 obtain ⟨hc1, hc2, _, _⟩ := qc2 hsh.cfg
 refine s_ce Tryz.func94 [vP gm 0, vI g, vI c] [(0, vP gm 0), (1, vI g), (2, vI c)] fun a HF => ?_
 have HM := Mem.start w
 refine s_fs1 ?_
 refine fo HF 0 rfl rfl (s_ea HF HM #[vQ 0, vQ 0, vQ 0] ?_)
 clear HF HM; intro a w6 g6 HF HM
 refine fp HF 1 1 [(7, .bool false)] fun a HF => ?_
 refine s_d0 (s_fs1 ?_)
 refine s_fz HF HM 0 rfl (v := .agg #[vQ 18446744073709551615, vQ 18446744073709551615, vQ 18446744073709551615]) (Yl.qt6 (n := 3) (sz := 1) (vs := [(0, vQ 18446744073709551615), (1, vQ 18446744073709551615), (2, vQ 18446744073709551615)]) rfl rfl (by kernel_rfl) (by kernel_rfl)) fun a HF => ?_
 refine fo HF 1 rfl rfl (s_ea HF HM #[vQ 0, vQ 0, vQ 0] ?_)
 clear HF HM; intro a w8 g8 HF HM
 refine fo HF 2 rfl rfl (s_ea HF HM #[.bool false] ?_)
 clear HF HM; intro a w9 g9 HF HM
 refine fo HF 3 rfl rfl (e_sa HF HM 1 rfl rfl rfl rfl rfl qdv rfl rfl (by simp [Value.oneCell']) ?_)
 clear HM; intro w1_3 HM
 refine fo HF 4 rfl rfl (s_es HF HM 0 ?_)
 clear HM; intro w1_4 HM
 refine s_d0 (s_fs1 ?_)
 refine s_fz HF HM 0 rfl (v := .func (.func 126) #[] #[vP g9 0, vP g8 0]) (Yl.makeFunc (fst := []) (caps := [vP g9 0, vP g8 0]) rfl rfl rfl) fun a HF => ?_
 refine fp HF 1 1 [(10, .func (.func 126) #[] #[vP g9 0, vP g8 0])] fun a HF => ?_
 refine s_d0 ?_
 replace HM := HM.asBlk (i := 1) (ds := (bestM topM []).cells) rfl rfl
 refine wp_seq (s_fs1 ?_)
 refine fp HF 1 0 [(18, vP gm 0)] fun a HF => ?_
 refine s_fk HF 1 fun a HF => ?_
 refine fp HF 2 2 [(21, vP gm 5)] fun a HF => ?_
 refine s_fz HF HM 4 rfl (v := .slice x.tA x.ts.length x.tc) (Yl.qd rfl rfl (by kernel_rfl) (fun _ h => h.qg7 hm rfl)) fun a HF => ?_
 refine s_fl HF 5 fun a HF => ?_
 refine fp HF 1 6 [(24, vI 0)] fun a HF => ?_
 refine s_d0 (wp_block ?_)
 refine qi (fun mS aS wS => ∃ (i : Nat) (q : List Mb), (i ≤ x.ts.length) ∧ (q = (x.ts.take i).filterMap (tkM · g c)) ∧ mS = x.ts.length - i ∧ Fr aS 102 [] [(24, vI i), (23, vI x.ts.length), (22, .slice x.tA x.ts.length x.tc), (10, .func (.func 126) #[] #[vP g9 0, vP g8 0]), (9, vP g9 0), (8, vP g8 0), (7, .bool false), (6, vP g6 0), (0, vP gm 0), (1, vI g), (2, vI c)] ∧ Mem w wS [.blk g9 #[.bool (!q.isEmpty)] 4, .blk g8 ((bestM topM q).cells) 156, .blk g6 #[vQ 0, vQ 0, vQ 0] 156]) (m := x.ts.length - 0) ⟨0, [], Nat.zero_le _, rfl, rfl, HF.sub (by kernel_rfl), HM.pk [0, 1, 2]⟩ ?_
 clear HF HM; rintro mS a w_ ⟨i, q, hi, hq, rfl, HF, HM⟩
 refine s_fs1 ?_
 refine fp HF 1 0 [(25, .bool (decide ((i : Int) < (x.ts.length : Int))))] fun a HF => ?_
 refine s_d0 (wp_seq ?_)
 rcases HF.tf 25 rfl with ⟨hb25, HF⟩ | ⟨hb25, HF⟩
 ·
  have hd25 := of_decide_eq_true hb25
  have hi25 : i < x.ts.length := by omega
  obtain ⟨t, ht⟩ : ∃ z, (x.ts.getD i Tk.zero) = z := ⟨_, rfl⟩
  have htid := tk_id (hsh.tk i hi25)
  rw [ht] at htid
  refine s_ct HF (wp_skip (wp_seq (wp_block (s_fs1 ?_))))
  obtain ⟨gq1, oq1, hq1, _⟩ := Rd.qj hx.t (Nat.lt_of_le_of_lt (Nat.zero_le _) (show i < x.ts.length from by omega)) (by decide)
  have hrq1 := hx.t; rw [hq1] at hrq1
  replace HF := HF.sp 22 (.slice (some ⟨gq1, oq1, none⟩) x.ts.length x.tc) rfl (by rw [hq1]; try rfl)
  refine s_fz HF HM 0 rfl (v := vP gq1 (oq1 + i * 8)) (Yl.ix gq1 oq1 i 8 rfl rfl rfl) fun a HF => ?_
  refine s_fz HF HM 1 rfl (v := .agg ((x.ts.getD i Tk.zero).cells)) (Yl.qt rfl rfl si_tk rfl (fun _ h => (h.old hrq1).q9 zw ((getD_at Tk.zero hi25)))) fun a HF => ?_
  replace HF := HF.sp 27 (.agg t.cells) rfl (by rw [ht])
  refine fo HF 2 rfl rfl (s_ea HF HM #[vI 0, vI 0, vI 0, vI 0, vQ 0, .bool false, vQ 0, vW 0] ?_)
  clear HF HM; intro a w12 g12 HF HM
  refine fo HF 3 rfl rfl (e_sa HF HM 0 rfl rfl rfl rfl rfl si_tk rfl rfl (qjz t) ?_)
  clear HM; intro w5_3 HM
  refine s_d0 ?_
  refine qa3 (fun aS wS => Fr aS 102 [] [(41, .bool (t.here g c)), (12, vP g12 0), (22, .slice (some ⟨gq1, oq1, none⟩) x.ts.length x.tc), (25, .bool true), (24, vI i), (23, vI x.ts.length), (10, .func (.func 126) #[] #[vP g9 0, vP g8 0]), (9, vP g9 0), (8, vP g8 0), (7, .bool false), (6, vP g6 0), (0, vP gm 0), (1, vI g), (2, vI c)] ∧ Mem w wS [.blk g12 t.cells 46, .blk g9 #[.bool (!q.isEmpty)] 4, .blk g8 ((bestM topM q).cells) 156, .blk g6 #[vQ 0, vQ 0, vQ 0] 156]) ?_ ?_
  ·
   refine qa ?_
   refine fp HF 1 0 [(28, vP g12 5)] fun a HF => ?_
   refine s_fz HF HM 1 rfl (v := .bool t.ready) (Yl.qd rfl rfl (by kernel_rfl) (fun _ h => h.cell (i := 0) rfl (rfl))) fun a HF => ?_
   refine fp HF 1 2 [(30, .bool t.ready)] fun a HF => ?_
   rcases HF.tf 30 rfl with ⟨hb30, HF⟩ | ⟨hb30, HF⟩
   ·
    refine fp HF 1 3 [(31, vP g12 1)] fun a HF => ?_
    refine s_fz HF HM 4 rfl (v := vI t.group) (Yl.qd rfl rfl (by kernel_rfl) (fun _ h => h.cell (i := 0) rfl (rfl))) fun a HF => ?_
    refine fp HF 4 5 [(36, .bool ((t.group : Int) == (g : Int)))] fun a HF => ?_
    rcases HF.tf 36 rfl with ⟨hb36, HF⟩ | ⟨hb36, HF⟩
    ·
     have hd36 := eq_of_beq hb36
     refine fp HF 1 9 [(37, vP g12 3)] fun a HF => ?_
     refine s_fz HF HM 10 rfl (v := vI t.cpu) (Yl.qd rfl rfl (by kernel_rfl) (fun _ h => h.cell (i := 0) rfl (rfl))) fun a HF => ?_
     refine fp HF 3 11 [(41, .bool ((t.cpu : Int) == (c : Int)))] fun a HF => ?_
     refine s_d0 ?_
     have HF := HF.sp 41 (.bool (t.here g c)) rfl (congrArg Value.bool (by unfold Tk.here; rw [hb30, decide_eq_true (by omega), Bool.true_and, Bool.true_and, Bool.eq_iff_iff, beq_iff_eq, decide_eq_true_eq]))
     exact ⟨HF.sub (by kernel_rfl), HM.pk [0, 1, 2, 3]⟩
    have hd36 := ne_of_beq_false hb36
    refine fp HF 5 9 [(41, .bool false)] fun a HF => ?_
    refine s_d0 ?_
    have HF := HF.sp 41 (.bool (t.here g c)) rfl (congrArg Value.bool (by unfold Tk.here; rw [hb30, decide_eq_false (by omega)]; rfl))
    exact ⟨HF.sub (by kernel_rfl), HM.pk [0, 1, 2, 3]⟩
   refine fp HF 11 3 [(41, .bool false)] fun a HF => ?_
   refine s_d0 ?_
   have HF := HF.sp 41 (.bool (t.here g c)) rfl (congrArg Value.bool (by unfold Tk.here; rw [hb30]; rfl))
   exact ⟨HF.sub (by kernel_rfl), HM.pk [0, 1, 2, 3]⟩
  clear HF HM; rintro a w6 ⟨HF, HM⟩
  rcases HF.tf 41 rfl with ⟨hb41, HF⟩ | ⟨hb41, HF⟩
  ·
   have hq2 : q ++ [(⟨t.v, 0, t.id.toNat⟩ : Mb)] = (x.ts.take (i + 1)).filterMap (tkM · g c) := by rw [z5 Tk.zero hi25, ← hq, ht, tkM, if_pos hb41]; rfl
   refine s_ct HF (qa ?_)
   refine fp HF 2 0 [(43, vP g12 6), (42, .func (.func 126) #[] #[vP g9 0, vP g8 0])] fun a HF => ?_
   refine s_fz HF HM 2 rfl (v := vQ t.v) (Yl.qd rfl rfl (by kernel_rfl) (fun _ h => h.cell (i := 0) rfl (rfl))) fun a HF => ?_
   refine fp HF 1 3 [(45, vP g12 0)] fun a HF => ?_
   refine s_fz HF HM 4 rfl (v := vI t.id) (Yl.qd rfl rfl (by kernel_rfl) (fun _ h => h.cell (i := 0) rfl (rfl))) fun a HF => ?_
   refine fp HF 1 5 [(47, vQ (IntKind.u64.wrap t.id))] fun a HF => ?_
   replace HF := HF.sp 47 (vQ t.id.toNat) rfl (qbn (by omega) (by omega))
   refine s_fz HF HM 6 rfl (v := .agg #[vQ t.v, vQ 0, vQ t.id.toNat]) (Yl.qt6 (n := 3) (sz := 1) (vs := [(0, vQ t.v), (1, vQ 0), (2, vQ t.id.toNat)]) rfl rfl (by kernel_rfl) (by kernel_rfl)) fun a HF => ?_
   refine fo HF 7 rfl rfl ?_
   refine qf3 HF (f := 126) (vs := [.agg #[vQ t.v, vQ 0, vQ t.id.toNat]]) (fst := []) (caps := [vP g9 0, vP g8 0]) rfl rfl rfl (by kernel_rfl) rfl (by decide) (qw6 w _ g9 g8 _ (⟨t.v, 0, t.id.toNat⟩ : Mb) q _ (HM.pk [1, 2, 0, 3])) ?_
   rintro _ w49 ⟨rfl, HM2⟩
   refine ⟨_, rfl, ?_⟩
   replace HM := HM2
   clear HF; intro a HF
   refine s_d0 (qa ?_)
   refine fp HF 1 0 [(50, vI (IntKind.i64.wrap ((i : Int) + 1)))] fun a HF => ?_
   replace HF := HF.sp 50 (vI (i + 1 : Nat)) rfl (qc (by omega) (by omega))
   refine fp HF 1 1 [(24, vI (i + 1 : Nat))] fun a HF => ?_
   refine s_d0 ?_
   replace HF := HF.sp 22 (.slice x.tA x.ts.length x.tc) rfl (by rw [hq1])
   exact ⟨_, (by omega), i + 1, (q ++ [(⟨t.v, 0, t.id.toNat⟩ : Mb)]), by omega, hq2, rfl, HF.sub (by kernel_rfl), HM.pk [0, 1, 3]⟩
  have hq2 : q = (x.ts.take (i + 1)).filterMap (tkM · g c) := by rw [z5 Tk.zero hi25, ← hq, ht, tkM, if_neg (by rw [hb41]; decide)]; simp
  refine s_cf HF (wp_skip (qa ?_))
  refine fp HF 1 0 [(50, vI (IntKind.i64.wrap ((i : Int) + 1)))] fun a HF => ?_
  replace HF := HF.sp 50 (vI (i + 1 : Nat)) rfl (qc (by omega) (by omega))
  refine fp HF 1 1 [(24, vI (i + 1 : Nat))] fun a HF => ?_
  refine s_d0 ?_
  replace HF := HF.sp 22 (.slice x.tA x.ts.length x.tc) rfl (by rw [hq1])
  exact ⟨_, (by omega), i + 1, q, by omega, hq2, rfl, HF.sub (by kernel_rfl), HM.pk [1, 2, 3]⟩
 have hd25 := of_decide_eq_false hb25
 rw [List.take_of_length_le (by omega : x.ts.length ≤ i)] at hq
 refine s_cf HF (wp_exit (wp_seq (s_fs1 ?_)))
 refine fp HF 2 0 [(52, vI (IntKind.i64.wrap ((g : Int) + 1)))] fun a HF => ?_
 replace HF := HF.sp 52 (vI (g + 1 : Nat)) rfl (qc (by omega) (by omega))
 refine fp HF 1 2 [(13, vI (g + 1 : Nat))] fun a HF => ?_
 refine s_d0 (wp_block ?_)
 refine qi (fun mS aS wS => ∃ (u : Nat) (q : List Mb), (g + 1 ≤ u) ∧ (u ≤ x.rs.length) ∧ (q = x.ts.filterMap (tkM · g c) ++ ((((List.range x.rs.length).drop (g + 1)).take (u - (g + 1))).filterMap (grpM x.sta c (fun u => memS x.sta u c) g))) ∧ mS = x.rs.length - u ∧ Fr aS 102 [] [(13, vI u), (25, .bool false), (24, vI i), (23, vI x.ts.length), (22, .slice x.tA x.ts.length x.tc), (10, .func (.func 126) #[] #[vP g9 0, vP g8 0]), (9, vP g9 0), (8, vP g8 0), (7, .bool false), (6, vP g6 0), (0, vP gm 0), (1, vI g), (2, vI c)] ∧ Mem w wS [.blk g9 #[.bool (!q.isEmpty)] 4, .blk g8 ((bestM topM q).cells) 156, .blk g6 #[vQ 0, vQ 0, vQ 0] 156]) (m := x.rs.length - (g + 1)) ⟨g + 1, q, Nat.le_refl _, by omega, by rw [hq]; simp, rfl, HF.sub (by kernel_rfl), HM.pk [0, 1, 2]⟩ ?_
 clear HF HM; rintro mS a w_ ⟨u, q, hgh, hh, hq, rfl, HF, HM⟩
 refine wp_seq (s_fs1 ?_)
 refine fp HF 2 0 [(54, vP gm 0), (53, vI u)] fun a HF => ?_
 refine s_fk HF 2 fun a HF => ?_
 refine fp HF 2 3 [(57, vP gm 6)] fun a HF => ?_
 refine s_fz HF HM 5 rfl (v := .slice x.sA x.rs.length x.sc) (Yl.qd rfl rfl (by kernel_rfl) (fun _ h => h.qg7 hm rfl)) fun a HF => ?_
 refine s_fl HF 6 fun a HF => ?_
 refine fp HF 1 7 [(60, .bool (decide ((u : Int) < (x.rs.length : Int))))] fun a HF => ?_
 refine s_d0 ?_
 rcases HF.tf 60 rfl with ⟨hb60, HF⟩ | ⟨hb60, HF⟩
 ·
  have hd60 := of_decide_eq_true hb60
  have hh60 : u < x.rs.length := by omega
  have hgst := qio (f := grpM x.sta c (fun u => memS x.sta u c) g) hgh hh60
  refine s_ct HF (wp_skip (wp_seq (wp_block (wp_seq (s_fs1 ?_)))))
  refine fp HF 1 0 [(63, vP gm 0)] fun a HF => ?_
  refine s_fk HF 1 fun a HF => ?_
  refine fp HF 3 2 [(67, vP gm 2)] fun a HF => ?_
  refine s_fz HF HM 5 rfl (v := .slice x.gA x.gs.length x.gc) (Yl.qd rfl rfl (by kernel_rfl) (fun _ h => h.qg7 hm rfl)) fun a HF => ?_
  refine fp HF 1 6 [(69, vI u)] fun a HF => ?_
  obtain ⟨gq2, oq2, hq2, _⟩ := Rd.qj hx.g (Nat.lt_of_le_of_lt (Nat.zero_le _) (show u < x.gs.length from by omega)) (by decide)
  have hrq2 := hx.g; rw [hq2] at hrq2
  replace HF := HF.sp 68 (.slice (some ⟨gq2, oq2, none⟩) x.gs.length x.gc) rfl (by rw [hq2]; try rfl)
  refine s_fz HF HM 7 rfl (v := vP gq2 (oq2 + u * 2)) (Yl.ix gq2 oq2 u 2 rfl rfl rfl) fun a HF => ?_
  refine fp HF 1 8 [(71, vP gq2 (oq2 + u * 2))] fun a HF => ?_
  refine s_fz HF HM 9 rfl (v := vI ((x.gs.getD u Gr.zero).parent)) (Yl.qd rfl rfl (by kernel_rfl) (fun _ h => (by have := (h.old hrq2).partAt zo (k := u) (j := 0) (x := (x.gs.getD u Gr.zero)) ((getD_at Gr.zero (by omega))) rfl; simpa using this))) fun a HF => ?_
  refine fp HF 2 10 [(74, .bool (((x.gs.getD u Gr.zero).parent : Int) != (g : Int)))] fun a HF => ?_
  refine s_d0 ?_
  rcases HF.tf 74 rfl with ⟨hb74, HF⟩ | ⟨hb74, HF⟩
  ·
   have hd74 := bne_iff_ne.1 hb74
   rw [qj6 (by omega)] at hgst
   refine s_ct HF (wp_exit (qa ?_))
   refine fp HF 2 0 [(62, vI (IntKind.i64.wrap ((u : Int) + 1)))] fun a HF => ?_
   replace HF := HF.sp 62 (vI (u + 1 : Nat)) rfl (qc (by omega) (by omega))
   refine fp HF 1 2 [(13, vI (u + 1 : Nat))] fun a HF => ?_
   refine s_d0 ?_
   exact ⟨_, (by omega), u + 1, q, by omega, by omega, by rw [hgst, hq]; simp, rfl, HF.sub (by kernel_rfl), HM.pk [0, 1, 2]⟩
  have hd74 := bne_eq_false_iff_eq.1 hb74
  refine s_cf HF (wp_skip (s_fs1 ?_))
  refine fp HF 3 0 [(78, vI c), (77, vI u), (76, vP gm 0)] fun a HF => ?_
  refine fo HF 3 rfl rfl ?_
  refine e_cl HF [vP gm 0, vI u, vI c] rfl rfl (ih u (by omega) (by omega) _ (hx.old HM) (HM.oldBlk hm)) ?_
  rintro _ w79 ⟨rfl, hbw⟩
  refine ⟨_, rfl, ?_⟩
  replace HM := HM.call hbw
  clear HF; intro a HF
  refine fp HF 3 4 [(81, .bool (!(memS x.sta u c).isEmpty)), (80, .agg ((bestM topM (memS x.sta u c)).cells))] fun a HF => ?_
  refine fo HF 7 rfl rfl (s_ea HF HM #[vQ 0, vQ 0, vQ 0] ?_)
  clear HF HM; intro a w14 g14 HF HM
  refine fo HF 8 rfl rfl (e_sa HF HM 0 rfl rfl rfl rfl rfl qdv rfl rfl (qm1 (bestM topM (memS x.sta u c))) ?_)
  clear HM; intro w13_8 HM
  refine fp HF 1 9 [(15, .bool (!(memS x.sta u c).isEmpty))] fun a HF => ?_
  refine s_d0 (s_fs1 ?_)
  refine fp HF 1 0 [(82, .bool (!(memS x.sta u c).isEmpty))] fun a HF => ?_
  refine s_d0 ?_
  rcases HF.tf 82 rfl with ⟨hb82, HF⟩ | ⟨hb82, HF⟩
  ·
   obtain ⟨y, hy⟩ : ∃ z, x.rs.getD u Rw.zero = z := ⟨_, rfl⟩
   have hyr : Rd w w.heap.size 3 y.A y.l.length (y.l.flatMap spL) := by rw [← hy]; exact hx.row hh60
   have hyl : (y.l.length : Int) = x.cpus := by rw [← hy]; exact (qgh hh60 (hsh.row u hh60)).1
   have hyo : ∀ z ∈ y.l, z.Ok := by rw [← hy, ← rs_at hh60]; exact hok.sp _ (qu [] (by rw [qaq]; exact hh60))
   have hzv := (hyo _ (qu Sp.zero (show c < y.l.length by omega))).v
   rw [qm2 hh60 (by omega) (by simpa using hb82), hy] at hgst
   refine s_ct HF (qa ?_)
   refine fp HF 2 0 [(84, vP gm 0), (83, .func (.func 126) #[] #[vP g9 0, vP g8 0])] fun a HF => ?_
   refine s_fk HF 2 fun a HF => ?_
   refine fp HF 2 3 [(87, vP gm 6)] fun a HF => ?_
   refine s_fz HF HM 5 rfl (v := .slice x.sA x.rs.length x.sc) (Yl.qd rfl rfl (by kernel_rfl) (fun _ h => h.qg7 hm rfl)) fun a HF => ?_
   refine fp HF 1 6 [(89, vI u)] fun a HF => ?_
   obtain ⟨gq3, oq3, hq3, _⟩ := Rd.qj hx.s (Nat.lt_of_le_of_lt (Nat.zero_le _) (show u < x.rs.length from by omega)) (by decide)
   have hrq3 := hx.s; rw [hq3] at hrq3
   replace HF := HF.sp 88 (.slice (some ⟨gq3, oq3, none⟩) x.rs.length x.sc) rfl (by rw [hq3]; try rfl)
   refine s_fz HF HM 7 rfl (v := vP gq3 (oq3 + u * 1)) (Yl.ix gq3 oq3 u 1 rfl rfl rfl) fun a HF => ?_
   refine s_fz HF HM 8 rfl (v := .slice ((x.rs.getD u Rw.zero).A) ((x.rs.getD u Rw.zero).l.length) ((x.rs.getD u Rw.zero).c)) (Yl.o1 hrq3 u Rw.zero (by omega) rfl rfl) fun a HF => ?_
   replace HF := HF.sp 91 (.slice y.A y.l.length y.c) rfl (by rw [hy])
   refine fp HF 1 9 [(92, vI c)] fun a HF => ?_
   obtain ⟨gq4, oq4, hq4, _⟩ := Rd.qj hyr (Nat.lt_of_le_of_lt (Nat.zero_le _) (show c < y.l.length from by omega)) (by decide)
   have hrq4 := hyr; rw [hq4] at hrq4
   replace HF := HF.sp 91 (.slice (some ⟨gq4, oq4, none⟩) y.l.length y.c) rfl (by rw [hq4]; try rfl)
   refine s_fz HF HM 10 rfl (v := vP gq4 (oq4 + c * 3)) (Yl.ix gq4 oq4 c 3 rfl rfl rfl) fun a HF => ?_
   refine fp HF 1 11 [(94, vP gq4 (oq4 + c * 3))] fun a HF => ?_
   refine s_fz HF HM 12 rfl (v := vQ ((y.l.getD c Sp.zero).v)) (Yl.qd rfl rfl (by kernel_rfl) (fun _ h => (by have := (h.old hrq4).partAt qak (k := c) (j := 0) (x := (y.l.getD c Sp.zero)) ((getD_at Sp.zero (by omega))) rfl; simpa using this))) fun a HF => ?_
   refine fp HF 2 13 [(97, vQ (IntKind.u64.wrap (u : Int)))] fun a HF => ?_
   replace HF := HF.sp 97 (vQ u) rfl (qbn rfl (by omega))
   refine s_fz HF HM 15 rfl (v := .agg #[vQ ((y.l.getD c Sp.zero).v), vQ 1, vQ u]) (Yl.qt6 (n := 3) (sz := 1) (vs := [(0, vQ ((y.l.getD c Sp.zero).v)), (1, vQ 1), (2, vQ u)]) rfl rfl (by kernel_rfl) (by kernel_rfl)) fun a HF => ?_
   refine fo HF 16 rfl rfl ?_
   refine qf3 HF (f := 126) (vs := [.agg #[vQ ((y.l.getD c Sp.zero).v), vQ 1, vQ u]]) (fst := []) (caps := [vP g9 0, vP g8 0]) rfl rfl rfl (by kernel_rfl) rfl (by decide) (qw6 w _ g9 g8 _ (⟨(y.l.getD c Sp.zero).v, 1, u⟩ : Mb) q _ (HM.pk [1, 2, 0, 3])) ?_
   rintro _ w99 ⟨rfl, HM2⟩
   refine ⟨_, rfl, ?_⟩
   replace HM := HM2
   clear HF; intro a HF
   refine s_d0 ?_
   replace HF := HF.to [(82, .bool true), (15, .bool (!(memS x.sta u c).isEmpty)), (74, .bool false), (60, .bool true), (13, vI u), (25, .bool false), (24, vI i), (23, vI x.ts.length), (22, .slice x.tA x.ts.length x.tc), (10, .func (.func 126) #[] #[vP g9 0, vP g8 0]), (9, vP g9 0), (8, vP g8 0), (7, .bool false), (6, vP g6 0), (0, vP gm 0), (1, vI g), (2, vI c)]
   refine qa ?_
   refine fp HF 2 0 [(62, vI (IntKind.i64.wrap ((u : Int) + 1)))] fun a HF => ?_
   replace HF := HF.sp 62 (vI (u + 1 : Nat)) rfl (qc (by omega) (by omega))
   refine fp HF 1 2 [(13, vI (u + 1 : Nat))] fun a HF => ?_
   refine s_d0 ?_
   exact ⟨_, (by omega), u + 1, (q ++ [(⟨(y.l.getD c Sp.zero).v, 1, u⟩ : Mb)]), by omega, by omega, by rw [hgst, hq, List.append_assoc]; rfl, rfl, HF.sub (by kernel_rfl), HM.pk [0, 1, 3]⟩
  rw [qj7 (by simpa using hb82)] at hgst
  refine s_cf HF (wp_skip (qa ?_))
  refine fp HF 2 0 [(62, vI (IntKind.i64.wrap ((u : Int) + 1)))] fun a HF => ?_
  replace HF := HF.sp 62 (vI (u + 1 : Nat)) rfl (qc (by omega) (by omega))
  refine fp HF 1 2 [(13, vI (u + 1 : Nat))] fun a HF => ?_
  refine s_d0 ?_
  exact ⟨_, (by omega), u + 1, q, by omega, by omega, by rw [hgst, hq]; simp, rfl, HF.sub (by kernel_rfl), HM.pk [1, 2, 3]⟩
 have hd60 := of_decide_eq_false hb60
 have hqm : q = memS x.sta g c := by rw [hq, qie, qaq, show u = x.rs.length by omega, qre]; rfl
 refine s_cf HF (wp_exit (wp_seq ?_))
 refine za HM [.blk g9 #[.bool (!q.isEmpty)] 4, .blk g8 ((bestM topM q).cells) 156] [0, 1] [] fun HM HS => ?_
 refine s_az HF HS 0 rfl (v := .agg ((bestM topM q).cells)) (Yl.qt rfl rfl qdv rfl (fun _ h => qg (h.blk (i := 1) rfl))) fun a HF => ?_
 refine s_ac HF HS 1 0 fun a HF => ?_
 refine qe [2] (by kernel_rfl) rfl ?_
 refine all_cons ?_ all_nil
 refine qf HF (i := 2) rfl rfl ?_
 refine e_sa HF HM 2 rfl rfl rfl rfl rfl qdv rfl rfl (qm1 (bestM topM q)) ?_
 clear HM; intro w16_2 HM
 refine keepS (HM.pk [0, 1]) (fun HS => ?_)
 refine ap HF (fun _ => HS) [3] (bt 4 []) [(7, .bool (!q.isEmpty))] fun a HF => ?_
 refine qk (by kernel_rfl) ?_
 refine wp_ret ?_
 exact ret2 rfl HF (.cellS (i := 2) HF HM rfl rfl qdv rfl) (.tmp HF rfl) (⟨by rw [← hqm], HM.below⟩)
theorem qrl (x : Stm) (hok : x.sta.Ok) (hf : StFew x) (hsh : ShAt x) (gm c : Nat) (hc : (c : Int) < x.cpus) : ∀ (n g : Nat), x.rs.length - g ≤ n → g < x.rs.length → qlw x gm c g := by
 intro n
 induction n with
 | zero => intro g h1 h2; omega
 | succ n ih => intro g h1 h2; exact qo0 x hok hf hsh gm c hc g h2 fun h h3 h4 => ih h (by omega) h4
theorem qrt {l : List Tk} {id : Int} (h : fidx l id < 0) : findS l id = none := by
 rcases qhp l id with h1 | ⟨i, h1, _⟩
 ·exact h1.2
 ·omega
theorem qnc {l : List Tk} {id : Int} (h : ¬ fidx l id < 0) : ∃ i : Nat, fidx l id = i ∧ findS l id = some i ∧ i < l.length ∧ (l.getD i Tk.zero).id = id := by
 rcases qhp l id with h1 | h1
 ·omega
 ·exact h1
theorem ql0 (x : Stm) (hok : x.sta.Ok) (hf : StFew x) (w : World) (hx : StRd w x) :
    Calls Tryz.prog 59 #[.agg x.cells] w (Is w (.bool (zz x.sta))) := by
 have hfs_ := hf.s; have hft := hf.t; have hfg := hf.g; have hfl := hf.l; have hfu := hf.u
 refine s_ce Tryz.func59 [.agg x.cells] [(0, .agg x.cells)] fun a HF => ?_
 have HM := Mem.start w
 refine s_fs1 ?_
 refine fo HF 0 rfl rfl (s_eb HF HM x.cells ?_)
 clear HF HM; intro a w1 g1 HF HM
 refine fp HF 1 1 [(2, .bool false)] fun a HF => ?_
 refine s_d0 (wp_seq (s_fs1 ?_))
 refine s_fz HF HM 0 rfl (v := .agg x.cells) (Yl.qt rfl rfl si_st rfl (fun _ h => qg (h.blk (i := 0) rfl))) fun a HF => ?_
 refine fo HF 1 rfl rfl (e_is HF HM [.agg x.cells] (.bool (zb x.sta)) rfl rfl (qoy x hok hf _ (hx.old HM)) fun w12 hbw HM a HF => ?_)
 refine fp HF 1 2 [(13, .bool (!(zb x.sta)))] fun a HF => ?_
 refine s_d0 ?_
 rcases HF.tf 13 rfl with ⟨hb13, HF⟩ | ⟨hb13, HF⟩
 ·
  refine s_ct HF (s_fs1 ?_)
  refine fp HF 1 0 [(2, .bool false)] fun a HF => ?_
  refine s_d0 (wp_ret ?_)
  exact s_rt1 rfl HF rfl (is_as (r_no0 (by simpa using hb13)).symm HM.below)
 have hsd : zb x.sta = true := by simpa using hb13
 have hsh := sh_at hsd
 have hs := qyc hsh
 obtain ⟨hc1, hc2, _, _⟩ := qc2 hsh.cfg
 have hcul := hsh.cu
 refine s_cf HF (wp_skip (s_fs1 ?_))
 refine s_fz HF HM 0 rfl (v := .agg x.cells) (Yl.qt rfl rfl si_st rfl (fun _ h => qg (h.blk (i := 0) rfl))) fun a HF => ?_
 refine s_fz HF HM 1 rfl (v := .agg #[vI x.cpus, vQ x.credit, .slice x.gA x.gs.length x.gc, .slice x.lA x.cl.length x.lc, .slice x.uA x.cu.length x.uc, .slice x.tA x.ts.length x.tc, .slice x.sA x.rs.length x.sc, .bool true]) (Yl.build (vs := [(0, .agg x.cells), (1, .bool true)]) rfl (by kernel_rfl) (by kernel_rfl)) fun a HF => ?_
 refine fo HF 2 rfl rfl (s_eb HF HM #[vI x.cpus, vQ x.credit, .slice x.gA x.gs.length x.gc, .slice x.lA x.cl.length x.lc, .slice x.uA x.cu.length x.uc, .slice x.tA x.ts.length x.tc, .slice x.sA x.rs.length x.sc, .bool true] ?_)
 clear HF HM; intro a w16 g16 HF HM
 refine fp HF 1 3 [(3, vP g16 0)] fun a HF => ?_
 refine s_d0 (wp_seq (s_fs1 ?_))
 refine fp HF 1 0 [(17, vP g1 4)] fun a HF => ?_
 refine s_fz HF HM 1 rfl (v := .slice x.uA x.cu.length x.uc) (Yl.qd rfl rfl (by kernel_rfl) (fun _ h => h.cell (i := 1) rfl (rfl))) fun a HF => ?_
 refine s_fl HF 2 fun a HF => ?_
 refine fp HF 1 3 [(20, vI 0)] fun a HF => ?_
 refine s_d0 (wp_block ?_)
 refine qi (fun mS aS wS => ∃ (c : Nat), (c ≤ x.cu.length) ∧ (UpTo c fun c => curOk x.sta c && allN x.rs.length fun g => lowS x.sta g c) ∧ mS = x.cu.length - c ∧ Fr aS 81 [] [(20, vI c), (19, vI x.cu.length), (18, .slice x.uA x.cu.length x.uc), (3, vP g16 0), (13, .bool false), (2, .bool false), (1, vP g1 0)] ∧ Mem w wS [.blk g16 #[vI x.cpus, vQ x.credit, .slice x.gA x.gs.length x.gc, .slice x.lA x.cl.length x.lc, .slice x.uA x.cu.length x.uc, .slice x.tA x.ts.length x.tc, .slice x.sA x.rs.length x.sc, .bool true] 153, .blk g1 x.cells 30]) (m := x.cu.length - 0) ⟨0, Nat.zero_le _, UpTo.zero, rfl, HF.sub (by kernel_rfl), HM.pk [0, 1]⟩ ?_
 clear HF HM; rintro mS a w_ ⟨c, hc, hu, rfl, HF, HM⟩
 refine s_fs1 ?_
 refine fp HF 1 0 [(21, .bool (decide ((c : Int) < (x.cu.length : Int))))] fun a HF => ?_
 refine s_d0 (wp_seq ?_)
 rcases HF.tf 21 rfl with ⟨hb21, HF⟩ | ⟨hb21, HF⟩
 ·
  have hd21 := of_decide_eq_true hb21
  have hc21 : c < x.cu.length := by omega
  obtain ⟨id, hid⟩ : ∃ z, (x.cu.getD c 0) = z := ⟨_, rfl⟩
  refine s_ct HF (wp_skip (wp_seq (wp_block (s_fs1 ?_))))
  refine fp HF 1 0 [(22, vI c)] fun a HF => ?_
  obtain ⟨gq1, oq1, hq1, _⟩ := Rd.qj hx.u (Nat.lt_of_le_of_lt (Nat.zero_le _) (show c < x.cu.length from by omega)) (by decide)
  have hrq1 := hx.u; rw [hq1] at hrq1
  replace HF := HF.sp 18 (.slice (some ⟨gq1, oq1, none⟩) x.cu.length x.uc) rfl (by rw [hq1]; try rfl)
  refine s_fz HF HM 1 rfl (v := vP gq1 (oq1 + c * 1)) (Yl.ix gq1 oq1 c 1 rfl rfl rfl) fun a HF => ?_
  refine s_fz HF HM 2 rfl (v := vI (x.cu.getD c 0)) (Yl.o1 hrq1 c 0 (by omega) rfl rfl) fun a HF => ?_
  replace HF := HF.sp 24 (vI id) rfl (by rw [hid])
  refine fp HF 2 3 [(5, vI id), (4, vI c)] fun a HF => ?_
  refine s_d0 (s_fs1 ?_)
  refine fp HF 2 0 [(26, vI id), (25, vP g16 0)] fun a HF => ?_
  refine fo HF 2 rfl rfl (e_is HF HM [vP g16 0, vI id] (vI (fidx x.ts id)) rfl rfl (qrk x g16 id hs _ (HM.blk (i := 0) rfl) (HM.old hx.t) hf.t) fun w27 hbw HM a HF => ?_)
  refine fp HF 1 3 [(6, vI (fidx x.ts id))] fun a HF => ?_
  refine s_d0 (wp_seq ?_)
  refine qa3 (fun aS wS => Fr aS 81 [] [(52, .bool (!curOk x.sta c)), (6, vI (fidx x.ts id)), (5, vI id), (4, vI c), (18, .slice (some ⟨gq1, oq1, none⟩) x.cu.length x.uc), (21, .bool true), (20, vI c), (19, vI x.cu.length), (3, vP g16 0), (13, .bool false), (2, .bool false), (1, vP g1 0)] ∧ Mem w wS [.blk g16 #[vI x.cpus, vQ x.credit, .slice x.gA x.gs.length x.gc, .slice x.lA x.cl.length x.lc, .slice x.uA x.cu.length x.uc, .slice x.tA x.ts.length x.tc, .slice x.sA x.rs.length x.sc, .bool true] 153, .blk g1 x.cells 30]) ?_ ?_
  ·
   refine qa ?_
   refine fp HF 3 0 [(30, .bool ((id : Int) != (0 : Int)))] fun a HF => ?_
   rcases HF.tf 30 rfl with ⟨hb30, HF⟩ | ⟨hb30, HF⟩
   ·
    have hd30 := bne_iff_ne.1 hb30
    refine fp HF 3 3 [(33, .bool (decide ((fidx x.ts id : Int) < (0 : Int))))] fun a HF => ?_
    rcases HF.tf 33 rfl with ⟨hb33, HF⟩ | ⟨hb33, HF⟩
    ·
     have hd33 := of_decide_eq_true hb33
     refine fp HF 19 6 [(52, .bool true)] fun a HF => ?_
     refine s_d0 ?_
     have HF := HF.sp 52 (.bool (!curOk x.sta c)) rfl (congrArg Value.bool (by rw [qhn (by rw [hid]; omega) (by rw [hid]; exact qrt (by omega))]; rfl))
     exact ⟨HF.sub (by kernel_rfl), HM.pk [0, 1]⟩
    have hd33 := of_decide_eq_false hb33
    obtain ⟨i, hfi, hfs, hil, hiid⟩ := qnc (l := x.ts) (id := id) (by omega)
    refine fp HF 1 6 [(34, vP g1 5)] fun a HF => ?_
    refine s_fz HF HM 7 rfl (v := .slice x.tA x.ts.length x.tc) (Yl.qd rfl rfl (by kernel_rfl) (fun _ h => h.cell (i := 1) rfl (rfl))) fun a HF => ?_
    refine fp HF 1 8 [(36, vI (fidx x.ts id))] fun a HF => ?_
    replace HF := HF.sp 36 (vI i) rfl (by rw [hfi])
    obtain ⟨gq3, oq3, hq3, _⟩ := Rd.qj hx.t (Nat.lt_of_le_of_lt (Nat.zero_le _) (show i < x.ts.length from by omega)) (by decide)
    have hrq3 := hx.t; rw [hq3] at hrq3
    replace HF := HF.sp 35 (.slice (some ⟨gq3, oq3, none⟩) x.ts.length x.tc) rfl (by rw [hq3]; try rfl)
    refine s_fz HF HM 9 rfl (v := vP gq3 (oq3 + i * 8)) (Yl.ix gq3 oq3 i 8 rfl rfl rfl) fun a HF => ?_
    refine fp HF 1 10 [(38, vP gq3 (oq3 + i * 8 + 5))] fun a HF => ?_
    refine s_fz HF HM 11 rfl (v := .bool ((x.ts.getD i Tk.zero).ready)) (Yl.qd rfl rfl (by kernel_rfl) (fun _ h => (h.old hrq3).partAt zw (k := i) (j := 5) (x := (x.ts.getD i Tk.zero)) ((getD_at Tk.zero (by omega))) rfl)) fun a HF => ?_
    refine fp HF 3 12 [(42, .bool (!((x.ts.getD i Tk.zero).ready)))] fun a HF => ?_
    rcases HF.tf 42 rfl with ⟨hb42, HF⟩ | ⟨hb42, HF⟩
    ·
     refine fp HF 10 15 [(52, .bool true)] fun a HF => ?_
     refine s_d0 ?_
     have HF := HF.sp 52 (.bool (!curOk x.sta c)) rfl (congrArg Value.bool (by rw [qds (by rw [hid]; omega) (by rw [hid]; exact hfs), (Bool.not_eq_true' _).mp hb42]; rfl))
     exact ⟨HF.sub (by kernel_rfl), HM.pk [0, 1]⟩
    refine fp HF 1 15 [(43, vP g1 5)] fun a HF => ?_
    refine s_fz HF HM 16 rfl (v := .slice x.tA x.ts.length x.tc) (Yl.qd rfl rfl (by kernel_rfl) (fun _ h => h.cell (i := 1) rfl (rfl))) fun a HF => ?_
    refine fp HF 1 17 [(45, vI (fidx x.ts id))] fun a HF => ?_
    replace HF := HF.sp 45 (vI i) rfl (by rw [hfi])
    replace HF := HF.sp 44 (.slice (some ⟨gq3, oq3, none⟩) x.ts.length x.tc) rfl (by rw [hq3]; try rfl)
    refine s_fz HF HM 18 rfl (v := vP gq3 (oq3 + i * 8)) (Yl.ix gq3 oq3 i 8 rfl rfl rfl) fun a HF => ?_
    refine fp HF 1 19 [(47, vP gq3 (oq3 + i * 8 + 3))] fun a HF => ?_
    refine s_fz HF HM 20 rfl (v := vI ((x.ts.getD i Tk.zero).cpu)) (Yl.qd rfl rfl (by kernel_rfl) (fun _ h => (h.old hrq3).partAt zw (k := i) (j := 3) (x := (x.ts.getD i Tk.zero)) ((getD_at Tk.zero (by omega))) rfl)) fun a HF => ?_
    refine fp HF 4 21 [(52, .bool (((x.ts.getD i Tk.zero).cpu : Int) != (c : Int)))] fun a HF => ?_
    refine s_d0 ?_
    have HF := HF.sp 52 (.bool (!curOk x.sta c)) rfl (congrArg Value.bool (by rw [qds (by rw [hid]; omega) (by rw [hid]; exact hfs), (Bool.not_eq_false' _).mp hb42, Bool.true_and, bne, Bool.eq_iff_iff]; simp))
    exact ⟨HF.sub (by kernel_rfl), HM.pk [0, 1]⟩
   have hd30 := bne_eq_false_iff_eq.1 hb30
   refine fp HF 22 3 [(52, .bool false)] fun a HF => ?_
   refine s_d0 ?_
   have HF := HF.sp 52 (.bool (!curOk x.sta c)) rfl (congrArg Value.bool (by rw [qho (by rw [hid]; omega)]; rfl))
   exact ⟨HF.sub (by kernel_rfl), HM.pk [0, 1]⟩
  clear HF HM; rintro a w8 ⟨HF, HM⟩
  rcases HF.tf 52 rfl with ⟨hb52, HF⟩ | ⟨hb52, HF⟩
  ·
   refine s_ct HF (s_fs1 ?_)
   refine fp HF 1 0 [(2, .bool false)] fun a HF => ?_
   refine s_d0 (wp_ret ?_)
   exact s_rt1 rfl HF rfl (is_as (r_no1 hc21 (by simpa using hb52)).symm HM.below)
  refine s_cf HF (wp_skip (s_fs1 ?_))
  refine fp HF 1 0 [(53, vP g1 6)] fun a HF => ?_
  refine s_fz HF HM 1 rfl (v := .slice x.sA x.rs.length x.sc) (Yl.qd rfl rfl (by kernel_rfl) (fun _ h => h.cell (i := 1) rfl (rfl))) fun a HF => ?_
  refine s_fl HF 2 fun a HF => ?_
  refine fp HF 1 3 [(56, vI 0)] fun a HF => ?_
  refine s_d0 (wp_block ?_)
  refine qi (fun mS aS wS => ∃ (g : Nat), (g ≤ x.rs.length) ∧ (UpTo g fun g => lowS x.sta g c) ∧ mS = x.rs.length - g ∧ Fr aS 81 [] [(56, vI g), (55, vI x.rs.length), (54, .slice x.sA x.rs.length x.sc), (52, .bool false), (6, vI (fidx x.ts id)), (5, vI id), (4, vI c), (18, .slice (some ⟨gq1, oq1, none⟩) x.cu.length x.uc), (21, .bool true), (20, vI c), (19, vI x.cu.length), (3, vP g16 0), (13, .bool false), (2, .bool false), (1, vP g1 0)] ∧ Mem w wS [.blk g16 #[vI x.cpus, vQ x.credit, .slice x.gA x.gs.length x.gc, .slice x.lA x.cl.length x.lc, .slice x.uA x.cu.length x.uc, .slice x.tA x.ts.length x.tc, .slice x.sA x.rs.length x.sc, .bool true] 153, .blk g1 x.cells 30]) (m := x.rs.length - 0) ⟨0, Nat.zero_le _, UpTo.zero, rfl, HF.sub (by kernel_rfl), HM.pk [0, 1]⟩ ?_
  clear HF HM; rintro mS a w_ ⟨g, hg, hu2, rfl, HF, HM⟩
  refine s_fs1 ?_
  refine fp HF 1 0 [(57, .bool (decide ((g : Int) < (x.rs.length : Int))))] fun a HF => ?_
  refine s_d0 (wp_seq ?_)
  rcases HF.tf 57 rfl with ⟨hb57, HF⟩ | ⟨hb57, HF⟩
  ·
   have hd57 := of_decide_eq_true hb57
   have hg57 : g < x.rs.length := by omega
   obtain ⟨y, hy⟩ : ∃ z, x.rs.getD g Rw.zero = z := ⟨_, rfl⟩
   have hyr : Rd w w.heap.size 3 y.A y.l.length (y.l.flatMap spL) := by rw [← hy]; exact hx.row hg57
   have hyl : (y.l.length : Int) = x.cpus := by rw [← hy]; exact (qgh hg57 (hsh.row g hg57)).1
   refine s_ct HF (wp_skip (wp_seq (wp_block (s_fs1 ?_))))
   refine fp HF 1 0 [(58, vI g)] fun a HF => ?_
   obtain ⟨gq4, oq4, hq4, _⟩ := Rd.qj hx.s (Nat.lt_of_le_of_lt (Nat.zero_le _) (show g < x.rs.length from by omega)) (by decide)
   have hrq4 := hx.s; rw [hq4] at hrq4
   replace HF := HF.sp 54 (.slice (some ⟨gq4, oq4, none⟩) x.rs.length x.sc) rfl (by rw [hq4]; try rfl)
   refine s_fz HF HM 1 rfl (v := vP gq4 (oq4 + g * 1)) (Yl.ix gq4 oq4 g 1 rfl rfl rfl) fun a HF => ?_
   refine s_fz HF HM 2 rfl (v := .slice ((x.rs.getD g Rw.zero).A) ((x.rs.getD g Rw.zero).l.length) ((x.rs.getD g Rw.zero).c)) (Yl.o1 hrq4 g Rw.zero hg57 rfl rfl) fun a HF => ?_
   replace HF := HF.sp 60 (.slice y.A y.l.length y.c) rfl (by rw [hy])
   refine fp HF 2 3 [(8, .slice y.A y.l.length y.c), (7, vI g)] fun a HF => ?_
   refine s_d0 (s_fs1 ?_)
   refine fp HF 3 0 [(64, vI c), (63, vI g), (62, vP g16 0)] fun a HF => ?_
   refine fo HF 3 rfl rfl ?_
   refine e_cl HF [vP g16 0, vI g, vI c] rfl rfl (qrl x hok hf hsh g16 c (by omega) _ g (Nat.le_refl _) hg57 _ (hx.old HM) (HM.blk (i := 0) rfl)) ?_
   rintro _ w65 ⟨rfl, hbw⟩
   refine ⟨_, rfl, ?_⟩
   replace HM := HM.call hbw
   clear HF; intro a HF
   refine fp HF 3 4 [(67, .bool (!(memS x.sta g c).isEmpty)), (66, .agg ((bestM topM (memS x.sta g c)).cells))] fun a HF => ?_
   refine fo HF 7 rfl rfl (s_ea HF HM #[vQ 0, vQ 0, vQ 0] ?_)
   clear HF HM; intro a w9 g9 HF HM
   refine fo HF 8 rfl rfl (e_sa HF HM 0 rfl rfl rfl rfl rfl qdv rfl rfl (qm1 (bestM topM (memS x.sta g c))) ?_)
   clear HM; intro w13_8 HM
   refine fp HF 1 9 [(10, .bool (!(memS x.sta g c).isEmpty))] fun a HF => ?_
   refine s_d0 ?_
   refine qa3 (fun aS wS => Fr aS 81 [] [(78, .bool (!lowS x.sta g c)), (10, .bool (!(memS x.sta g c).isEmpty)), (9, vP g9 0), (8, .slice y.A y.l.length y.c), (7, vI g), (54, .slice (some ⟨gq4, oq4, none⟩) x.rs.length x.sc), (57, .bool true), (56, vI g), (55, vI x.rs.length), (52, .bool false), (6, vI (fidx x.ts id)), (5, vI id), (4, vI c), (18, .slice (some ⟨gq1, oq1, none⟩) x.cu.length x.uc), (21, .bool true), (20, vI c), (19, vI x.cu.length), (3, vP g16 0), (13, .bool false), (2, .bool false), (1, vP g1 0)] ∧ Mem w wS [.blk g9 ((bestM topM (memS x.sta g c)).cells) 156, .blk g16 #[vI x.cpus, vQ x.credit, .slice x.gA x.gs.length x.gc, .slice x.lA x.cl.length x.lc, .slice x.uA x.cu.length x.uc, .slice x.tA x.ts.length x.tc, .slice x.sA x.rs.length x.sc, .bool true] 153, .blk g1 x.cells 30]) ?_ ?_
   ·
    refine za HM [.blk g9 ((bestM topM (memS x.sta g c)).cells) 156, .blk g16 #[vI x.cpus, vQ x.credit, .slice x.gA x.gs.length x.gc, .slice x.lA x.cl.length x.lc, .slice x.uA x.cu.length x.uc, .slice x.tA x.ts.length x.tc, .slice x.sA x.rs.length x.sc, .bool true] 153, .blk g1 x.cells 30] [0, 1, 2] [] fun HM HS => ?_
    refine ap HF (fun _ => HS) [0, 1] (bf 11 [0, 1]) [(69, .bool (!(memS x.sta g c).isEmpty))] fun a HF => ?_
    rcases HF.tf 69 rfl with ⟨hb69, HF⟩ | ⟨hb69, HF⟩
    ·
     refine ap HF (fun _ => HS) [4, 5] (bf 11 [0, 1, 4, 5]) [(73, vI c), (72, .slice y.A y.l.length y.c)] fun a HF => ?_
     refine s_az HF HS 2 rfl (v := .agg ((bestM topM (memS x.sta g c)).cells)) (Yl.qt rfl rfl qdv rfl (fun _ h => qg (h.blk (i := 0) rfl))) fun a HF => ?_
     obtain ⟨gq10, oq10, hq10, _⟩ := Rd.qj hyr (Nat.lt_of_le_of_lt (Nat.zero_le _) (show c < y.l.length from by omega)) (by decide)
     have hrq10 := hyr; rw [hq10] at hrq10
     replace HF := HF.sp 72 (.slice (some ⟨gq10, oq10, none⟩) y.l.length y.c) rfl (by rw [hq10]; try rfl)
     refine s_az HF HS 6 rfl (v := vP gq10 (oq10 + c * 3)) (Yl.ix gq10 oq10 c 3 rfl rfl rfl) fun a HF => ?_
     refine ap HF (fun _ => HS) [7] (bt 11 [3, 8, 9, 10]) [(75, vP gq10 (oq10 + c * 3 + 2))] fun a HF => ?_
     refine s_az HF HS 8 rfl (v := vQ ((y.l.getD c Sp.zero).floor)) (Yl.qd rfl rfl (by kernel_rfl) (fun _ h => (h.old hrq10).partAt qak (k := c) (j := 2) (x := (y.l.getD c Sp.zero)) ((getD_at Sp.zero (by omega))) rfl)) fun a HF => ?_
     refine qe [3] (by kernel_rfl) rfl ?_
     refine all_cons ?_ all_nil
     refine qf HF (i := 3) rfl rfl ?_
     refine e_is HF HM [.agg ((bestM topM (memS x.sta g c)).cells)] (vQ ((bestM topM (memS x.sta g c)).v)) rfl rfl (q0s (bestM topM (memS x.sta g c)) _) fun w71 hbw HM a HF => ?_
     refine keepS (HM.pk [0, 1, 2]) (fun HS => ?_)
     refine ap HF (fun _ => HS) [9, 10] (bt 11 []) [(78, .bool (decide (((bestM topM (memS x.sta g c)).v : Int) > ((y.l.getD c Sp.zero).floor : Int))))] fun a HF => ?_
     refine qk (by kernel_rfl) ?_
     have HF := HF.sp 78 (.bool (!lowS x.sta g c)) rfl (congrArg Value.bool (by rw [qrf (by simpa using hb69), qlq hg57, hy, ← decide_not]; exact decide_eq_decide.2 (by omega)))
     exact ⟨HF.sub (by kernel_rfl), HM.pk [0, 1, 2]⟩
    refine ap HF (fun _ => HS) [2, 3, 4, 5, 6, 7, 8, 9, 10] (bt 11 []) [(78, .bool false)] fun a HF => ?_
    refine qk (by kernel_rfl) ?_
    have HF := HF.sp 78 (.bool (!lowS x.sta g c)) rfl (congrArg Value.bool (by rw [qlp (by simpa using hb69)]; rfl))
    exact ⟨HF.sub (by kernel_rfl), HM.pk [0, 1, 2]⟩
   clear HF HM; rintro a w14 ⟨HF, HM⟩
   rcases HF.tf 78 rfl with ⟨hb78, HF⟩ | ⟨hb78, HF⟩
   ·
    refine s_ct HF (s_fs1 ?_)
    refine fp HF 1 0 [(2, .bool false)] fun a HF => ?_
    refine s_d0 (wp_ret ?_)
    exact s_rt1 rfl HF rfl (is_as (r_no2 hc21 hg57 (by simpa using hb78)).symm HM.below)
   refine s_cf HF (wp_skip (qa ?_))
   refine fp HF 1 0 [(79, vI (IntKind.i64.wrap ((g : Int) + 1)))] fun a HF => ?_
   replace HF := HF.sp 79 (vI (g + 1 : Nat)) rfl (qc (by omega) (by omega))
   refine fp HF 1 1 [(56, vI (g + 1 : Nat))] fun a HF => ?_
   refine s_d0 ?_
   replace HF := HF.sp 54 (.slice x.sA x.rs.length x.sc) rfl (by rw [hq4])
   exact ⟨_, (by omega), g + 1, by omega, hu2.succ (by simpa using hb78), rfl, HF.sub (by kernel_rfl), HM.pk [1, 2]⟩
  have hd57 := of_decide_eq_false hb57
  refine s_cf HF (wp_exit (qa ?_))
  refine fp HF 1 0 [(80, vI (IntKind.i64.wrap ((c : Int) + 1)))] fun a HF => ?_
  replace HF := HF.sp 80 (vI (c + 1 : Nat)) rfl (qc (by omega) (by omega))
  refine fp HF 1 1 [(20, vI (c + 1 : Nat))] fun a HF => ?_
  refine s_d0 ?_
  replace HF := HF.sp 18 (.slice x.uA x.cu.length x.uc) rfl (by rw [hq1])
  exact ⟨_, (by omega), c + 1, by omega, hu.succ (by rw [show curOk x.sta c = true by simpa using hb52, Bool.true_and]; exact UpTo.all fun i hi => hu2 i (by omega)), rfl, HF.sub (by kernel_rfl), HM.pk [0, 1]⟩
 have hd21 := of_decide_eq_false hb21
 refine s_cf HF (wp_exit (s_fs1 ?_))
 refine fp HF 1 0 [(2, .bool true)] fun a HF => ?_
 refine s_d0 (wp_ret ?_)
 exact s_rt1 rfl HF rfl (is_as (r_yes hsd (fun i hi => hu i (by omega))).symm HM.below)
def upF {α : Type} (k : Nat) (f : Nat → List α) : List α := (List.range k).flatMap f
theorem qq {α : Type} (k : Nat) (f : Nat → List α) : upF (k + 1) f = upF k f ++ f k := by unfold upF; rw [List.range_succ, List.flatMap_append]; simp
theorem qcr {α : Type} (f : Nat → List α) : upF 0 f = [] := rfl
theorem qm3 {α : Type} {f : Nat → List α} {m : Nat} (h : ∀ i, (f i).length ≤ m) : ∀ k, (upF k f).length ≤ m * k
 | 0 => Nat.zero_le _
 | k + 1 => by rw [qq, List.length_append, Nat.mul_succ]; have := qm3 h k; have := h k; omega
theorem qrg {α : Type} {f : Nat → List α} {m : Nat} : ∀ k, (∀ i, i < k → (f i).length ≤ m) → (upF k f).length ≤ m * k
 | 0, _ => Nat.zero_le _
 | k + 1, h => by rw [qq, List.length_append, Nat.mul_succ]; have := qrg k (fun i hi => h i (by omega)); have := h k (by omega); omega
theorem qes {α : Type} {f : Nat → List α} {p : α → Prop} : ∀ k, (∀ i, i < k → ∀ x ∈ f i, p x) → ∀ x ∈ upF k f, p x
 | 0, _ => fun x hx => by cases hx
 | k + 1, h => fun x hx => by
  rw [qq] at hx
  rcases List.mem_append.1 hx with hx | hx
  ·exact qes k (fun i hi => h i (by omega)) x hx
  ·exact h k (by omega) x hx
def toU (n : Int) : Nat := (n % 18446744073709551616).toNat
theorem qc3 (n : Int) : toU n < 18446744073709551616 := by unfold toU; omega
theorem zj (n : Int) : Value.int .u64 (Go.IntKind.u64.wrap n) = .int .u64 ((toU n : Nat) : Int) := by
 unfold toU
 rw [Int.toNat_of_nonneg (Int.emod_nonneg _ (by decide))]
 rfl
structure Snm where
 next : Int
 st : Stm
def Snm.cells (s : Snm) : Array Value := #[.int .i64 s.next, .int .i64 s.st.cpus, .int .u64 (s.st.credit : Int), .slice s.st.gA s.st.gs.length s.st.gc, .slice s.st.lA s.st.cl.length s.st.lc, .slice s.st.uA s.st.cu.length s.st.uc, .slice s.st.tA s.st.ts.length s.st.tc, .slice s.st.sA s.st.rs.length s.st.sc]
theorem qbo (x : Snm) : ∀ v ∈ x.cells.toList, v.oneCell' = true := by simp [Snm.cells, Value.oneCell']
def gsN (l : List Gr) (i : Nat) : List Nat := [toU (l.getD (i + 1) Gr.zero).parent, toU (l.getD (i + 1) Gr.zero).weight]
def qr (l : List Tk) (i : Nat) : Int := if i = 0 then 0 else (l.getD (i - 1) Tk.zero).id
def tkN (p : Int) (t : Tk) : List Nat := [toU (t.id - p), toU t.group, toU t.weight, toU t.cpu, t.mask, if t.ready then 1 else 0, t.v, t.r]
def spN (g : Nat) (z : Sp) : List Nat := (if 0 < g then [z.v, z.r] else []) ++ [z.floor]
def rwN (g : Nat) (l : List Sp) : List Nat := upF l.length fun c => spN g (l.getD c Sp.zero)
def secN (s : Snm) : Nat → List Nat
 | 0 => [toU s.next]
 | 1 => [toU s.st.cpus, s.st.credit, s.st.gs.length]
 | 2 => upF (s.st.gs.length - 1) (gsN s.st.gs)
 | 3 => s.st.cl.map toU
 | 4 => s.st.cu.map toU
 | 5 => s.st.ts.length :: upF s.st.ts.length fun i => tkN (qr s.st.ts i) (s.st.ts.getD i Tk.zero)
 | 6 => upF s.st.rs.length fun g => rwN g (s.st.rs.getD g Rw.zero).l
 | _ => []
def qb : Nat → ByteArray
 | 0 => ⟨#[110, 101, 120, 116]⟩
 | 1 => ⟨#[99, 111, 110, 102, 105, 103]⟩
 | 2 => ⟨#[103, 114, 111, 117, 112, 115]⟩
 | 3 => ⟨#[99, 108, 111, 99, 107, 115]⟩
 | 4 => ⟨#[99, 117, 114, 114, 101, 110, 116]⟩
 | 5 => ⟨#[116, 97, 115, 107, 115]⟩
 | 6 => ⟨#[115, 112, 111, 116, 115]⟩
 | _ => ⟨#[]⟩
def chkS (s : Snm) : Nat := if s.next < 1 ∨ 281474976710657 < s.next then 330 else if zz s.st.sta = false then 331 else 0
def numsS (s : Snm) : List Nat := upF 7 (secN s)
def bodyS (s : Snm) : List Nat := [113, 115, 1] ++ (numsS s).flatMap vbytes
def outS (s : Snm) : List Nat := if chkS s = 0 then sealL (bodyS s) else []
structure Sec where
 nm : ByteArray
 fr : Nat
 to : Nat
def secL (x : Sec) : List Value := [.string x.nm, .int .i64 (x.fr : Int), .int .i64 (x.to : Int)]
theorem zy (x : Sec) : (secL x).length = 3 := rfl
def qlr (w : World) (R : List Nat) (r : Ending) (w' : World) : Prop :=
 (∃ A c, r = .returned (.slice A R.length c) ∧ w'.ownsRow w.heap.size 22 1 (.slice A R.length c) R.length (R.map U64) ∧ R.length ≤ c) ∧ Below w.heap.size w w'
theorem qah {w w' : World} {q R : List Nat} {A : Option Addr} {c : Nat} (h : q = R) (ho : w'.ownsRow w.heap.size 22 1 (.slice A q.length c) q.length (q.map U64)) (hc : q.length ≤ c) (hb : Below w.heap.size w w') : qlr w R (.returned (.slice A q.length c)) w' := by
 subst h
 exact ⟨⟨A, c, rfl, ho, hc⟩, hb⟩
theorem qab (l : List Nat) : ∀ u ∈ l.map U64, u.oneCell' = true := by
 intro u hu
 obtain ⟨x, _, rfl⟩ := List.mem_map.1 hu
 rfl
theorem qdt {l : List Int} {k : Nat} (h : k < l.length) : (l.take (k + 1)).map toU = (l.take k).map toU ++ [toU (l.getD k 0)] := by
 rw [List.take_add_one, List.getElem?_eq_getElem h, List.map_append, List.getD_eq_getElem?_getD, List.getElem?_eq_getElem h]
 rfl
theorem qs {α : Type} {a b : List α} {n : Nat} (h : b.length = n) : a.length + n = (a ++ b).length := by rw [List.length_append, h]
theorem qyd {n : Nat} (h : n < 18446744073709551616) : toU (n : Int) = n := by unfold toU; omega
theorem qac (l : List Tk) (k : Nat) : qr l (k + 1) = (l.getD k Tk.zero).id := by unfold qr; rw [if_neg (by omega)]; rfl
theorem qls (l : List Tk) : qr l 0 = 0 := rfl
theorem qu2 (b : Bool) : (if b then 1 else 0 : Nat) < 18446744073709551616 := by cases b <;> decide
theorem qrh {g : Nat} {z : Sp} (h : 0 < g) : spN g z = [z.v, z.r] ++ [z.floor] := by unfold spN; rw [if_pos h]
theorem qm5 {g : Nat} {z : Sp} (h : ¬ 0 < g) : spN g z = [z.floor] := by unfold spN; rw [if_neg h]; rfl
theorem ts_id {x : Stm} (h : ShAt x) : ∀ i, i < x.ts.length → (i : Int) + 1 ≤ (x.ts.getD i Tk.zero).id
 | 0, hi => (tk_id (h.tk 0 hi)).1
 | i + 1, hi => by
  have h1 := ts_id h i (by omega)
  have h2 := (qin (h.tk (i + 1) hi)).1
  rw [Nat.add_sub_cancel] at h2
  omega
theorem q0t {x : Stm} (h : ShAt x) : x.ts.length ≤ 65535 := by
 rcases Nat.lt_or_ge 65535 x.ts.length with h1 | h1
 ·have h2 := ts_id h 65535 h1
  have h3 := (tk_id (h.tk 65535 h1)).2
  omega
 ·exact h1
theorem qyi (g : Nat) (z : Sp) : (spN g z).length ≤ 3 := by unfold spN; split <;> simp
theorem qyj (g : Nat) (l : List Sp) : (rwN g l).length ≤ 3 * l.length := qm3 (fun c => qyi g (l.getD c Sp.zero)) _
theorem qu4 {s : Snm} (h : ShAt s.st) : (secN s 0).length = 1 ∧ (secN s 1).length = 3 ∧ (secN s 2).length ≤ 512 ∧ (secN s 3).length ≤ 64 ∧ (secN s 4).length ≤ 64 ∧ (secN s 5).length ≤ 524281 ∧ (secN s 6).length ≤ 49152 := by
 obtain ⟨hc1, hc2, _, hg⟩ := qc2 h.cfg
 obtain ⟨hg1, hg2, _, _⟩ := qft hg
 have hcl := h.cl
 have hcu := h.cu
 have hrs := h.rs
 have ht := q0t h
 refine ⟨rfl, rfl, ?_, ?_, ?_, ?_, ?_⟩
 ·have := qm3 (f := gsN s.st.gs) (m := 2) (fun i => Nat.le_refl 2) (s.st.gs.length - 1)
  show (upF (s.st.gs.length - 1) (gsN s.st.gs)).length ≤ 512
  omega
 ·show (s.st.cl.map toU).length ≤ 64
  rw [List.length_map]; omega
 ·show (s.st.cu.map toU).length ≤ 64
  rw [List.length_map]; omega
 ·have := qm3 (f := fun i => tkN (qr s.st.ts i) (s.st.ts.getD i Tk.zero)) (m := 8) (fun i => Nat.le_refl 8) s.st.ts.length
  show (upF s.st.ts.length fun i => tkN (qr s.st.ts i) (s.st.ts.getD i Tk.zero)).length + 1 ≤ 524281
  omega
 ·have := qrg (f := fun g => rwN g (s.st.rs.getD g Rw.zero).l) (m := 192) s.st.rs.length (fun g hg => by
   have h1 := qyj g (s.st.rs.getD g Rw.zero).l
   have h2 := (qgh hg (h.row g hg)).1
   omega)
  show (upF s.st.rs.length fun g => rwN g (s.st.rs.getD g Rw.zero).l).length ≤ 49152
  omega
theorem qm6 (s : Snm) : numsS s = secN s 0 ++ secN s 1 ++ secN s 2 ++ secN s 3 ++ secN s 4 ++ secN s 5 ++ secN s 6 := by
 unfold numsS
 rw [qq, qq, qq, qq, qq, qq, qq, qcr, List.nil_append]
theorem qu5 {α : Type} {f : Nat → List α} {i k : Nat} (h : i ≤ k) : (upF i f).length ≤ (upF k f).length := by
 induction k with
 | zero =>
  obtain rfl : i = 0 := by omega
  exact Nat.le_refl _
 | succ k ih =>
  rcases Nat.lt_or_ge k i with h1 | h1
  ·obtain rfl : i = k + 1 := by omega
   exact Nat.le_refl _
  ·have := ih h1
   rw [qq, List.length_append]; omega
theorem qgl {s : Snm} (h : ShAt s.st) : (numsS s).length ≤ 600000 := by
 obtain ⟨h0, h1, h2, h3, h4, h5, h6⟩ := qu4 h
 rw [qm6]
 simp only [List.length_append]
 omega
theorem qo1 {s : Snm} (h : ShAt s.st) {i : Nat} (hi : i ≤ 7) : (upF i (secN s)).length ≤ 600000 := Nat.le_trans (qu5 hi) (qgl h)
theorem qu6 {s : Snm} (h : ShAt s.st) {i : Nat} (hi : i < 7) : (secN s i).length ≤ 600000 := by
 have := qo1 h (show i + 1 ≤ 7 by omega)
 rw [qq, List.length_append] at this
 omega
theorem q0u {p : Int} {t : Tk} (ht : t.Ok) : ∀ x ∈ tkN p t, x < 18446744073709551616 := by
 intro x hx
 have h1 := ht.mask
 have h2 := ht.v
 have h3 := ht.r
 simp only [tkN, List.mem_cons, List.not_mem_nil, or_false] at hx
 rcases hx with rfl | rfl | rfl | rfl | rfl | rfl | rfl | rfl
 ·exact qc3 _
 ·exact qc3 _
 ·exact qc3 _
 ·exact qc3 _
 ·exact h1
 ·exact qu2 _
 ·exact h2
 ·omega
theorem q0v {g : Nat} {z : Sp} (hz : z.Ok) : ∀ x ∈ spN g z, x < 18446744073709551616 := by
 intro x hx
 have h1 := hz.v
 have h2 := hz.r
 have h3 := hz.floor
 unfold spN at hx
 split at hx
 ·simp only [List.cons_append, List.nil_append, List.mem_cons, List.not_mem_nil, or_false] at hx
  omega
 ·simp only [List.nil_append, List.mem_cons, List.not_mem_nil, or_false] at hx
  omega
theorem qyk {s : Snm} (hok : s.st.sta.Ok) (hf : StFew s.st) : ∀ i, ∀ x ∈ secN s i, x < 18446744073709551616 := by
 have hgl := hf.g
 have htl := hf.t
 have hcr := hok.credit
 intro i
 match i with
 | 0 => intro x hx; simp only [secN, List.mem_cons, List.not_mem_nil, or_false] at hx; subst hx; exact qc3 _
 | 1 =>
  intro x hx
  simp only [secN, List.mem_cons, List.not_mem_nil, or_false] at hx
  rcases hx with rfl | rfl | rfl
  ·exact qc3 _
  ·exact hcr
  ·omega
 | 2 =>
  refine qes _ fun i _ x hx => ?_
  simp only [gsN, List.mem_cons, List.not_mem_nil, or_false] at hx
  rcases hx with rfl | rfl
  ·exact qc3 _
  ·exact qc3 _
 | 3 => intro x hx; obtain ⟨y, _, rfl⟩ := List.mem_map.1 hx; exact qc3 _
 | 4 => intro x hx; obtain ⟨y, _, rfl⟩ := List.mem_map.1 hx; exact qc3 _
 | 5 =>
  intro x hx
  rcases List.mem_cons.1 hx with rfl | hx
  ·omega
  ·exact qes (p := fun x => x < 18446744073709551616) _ (fun i hi => q0u (hok.ts _ (qu Tk.zero hi))) x hx
 | 6 =>
  refine qes _ fun g hg => qes _ fun c hc => q0v ?_
  refine hok.sp _ (qu [] (show g < s.st.sta.sp.length from by rw [qaq]; exact hg)) _ ?_
  rw [rs_at hg]
  exact qu Sp.zero hc
 | k + 7 => intro x hx; cases hx
theorem qm7 {s : Snm} (hok : s.st.sta.Ok) (hf : StFew s.st) : ∀ x ∈ numsS s, x < 18446744073709551616 := qes 7 fun i _ => qyk hok hf i
theorem qyl {l : List Nat} : ∀ b ∈ l.flatMap vbytes, b < 256 := by
 intro b hb
 obtain ⟨x, _, hx⟩ := List.mem_flatMap.1 hb
 exact qqw x b hx
theorem qrm (s : Snm) : ∀ b ∈ bodyS s, b < 256 := by
 intro b hb
 rcases List.mem_append.1 hb with hb | hb
 ·simp only [List.mem_cons, List.not_mem_nil, or_false] at hb
  omega
 ·exact qyl b hb
theorem qm8 (s : Snm) : (bodyS s).length = 3 + ((numsS s).flatMap vbytes).length := by unfold bodyS; rw [List.length_append]; rfl
theorem qfk {s : Snm} (h : s.next < 1 ∨ 281474976710657 < s.next) : chkS s = 330 := if_pos h
theorem qkd {s : Snm} (h : ¬ (s.next < 1 ∨ 281474976710657 < s.next)) (hr : zz s.st.sta = false) : chkS s = 331 := by unfold chkS; rw [if_neg h, if_pos hr]
theorem qke {s : Snm} (h : ¬ (s.next < 1 ∨ 281474976710657 < s.next)) (hr : zz s.st.sta = true) : chkS s = 0 := by unfold chkS; rw [if_neg h, if_neg (by rw [hr]; decide)]
theorem qrn {s : Snm} (h : chkS s = 0) : (1 ≤ s.next ∧ s.next ≤ 281474976710657) ∧ zz s.st.sta = true := by
 unfold chkS at h
 split at h
 ·cases h
 ·split at h
  ·cases h
  ·rename_i h1 h2
   refine ⟨by omega, ?_⟩
   cases hr : zz s.st.sta with
   | true => rfl
   | false => exact absurd hr h2
theorem qro {s : Snm} (h : chkS s = 0) : ShAt s.st := by
 have := (qrn h).2
 unfold zz at this
 rw [Bool.and_eq_true] at this
 exact sh_at this.1
def numsE (s : Snm) : List Nat := if chkS s = 0 then numsS s else []
theorem qdw {s : Snm} (h : chkS s = 0) : numsE s = numsS s := if_pos h
theorem qu7 {s : Snm} (h : chkS s ≠ 0) : numsE s = [] := if_neg h
theorem qlx {s : Snm} (h : chkS s = 0) : outS s = sealL (bodyS s) := if_pos h
theorem qym {s : Snm} (h : chkS s ≠ 0) : outS s = [] := if_neg h
theorem qu8 {s : Snm} (h : ShAt s.st) : (sealL (bodyS s)).length ≤ 6000007 := by
 rw [qbj, qm8]
 have := qc7 (numsS s)
 have := qgl h
 omega
def qgm (w : World) (er : Nat) (R : List Nat) (r : Ending) (w' : World) : Prop :=
 (∃ A c, r = .returned (.tuple #[.slice A R.length c, .int .i64 (er : Int)]) ∧ w'.ownsRow w.heap.size 22 1 (.slice A R.length c) R.length (R.map U64) ∧ R.length ≤ c) ∧ Below w.heap.size w w'
theorem qet {w w' : World} {er er' : Nat} {q R : List Nat} {A : Option Addr} {c : Nat} (he : er' = er) (h : q = R) (ho : w'.ownsRow w.heap.size 22 1 (.slice A q.length c) q.length (q.map U64)) (hc : q.length ≤ c) (hb : Below w.heap.size w w') : qgm w er R (.returned (.tuple #[.slice A q.length c, .int .i64 (er' : Int)])) w' := by
 subst h; subst he
 exact ⟨⟨A, c, rfl, ho, hc⟩, hb⟩
theorem qhu {w w' : World} {er : Nat} {R : List Nat} (e : Int) (he : e = er) (h : R = []) (hb : Below w.heap.size w w') : qgm w er R (.returned (.tuple #[.slice none 0 0, .int .i64 e])) w' := by
 subst h; subst he
 exact ⟨⟨none, 0, rfl, World.ownsRow_nil _ _ _ _, Nat.le_refl _⟩, hb⟩
theorem qo2 {w w' : World} {er : Nat} {R : List Nat} (e : Int) (he : e = er) (h : R = []) (hb : Below w.heap.size w w') : qlg w er R (.returned (.tuple #[.slice none 0 0, .int .i64 e])) w' := by
 subst h; subst he
 exact ⟨⟨none, 0, rfl, World.ownsRow_nil _ _ _ _, Nat.le_refl _⟩, hb⟩
theorem qo3 {s : Snm} (h : chkS s = 0) : ([113, 115, 1] : List Nat).map B8 ++ ((numsE s).flatMap vbytes).map B8 = (bodyS s).map B8 := by
 rw [qdw h]; exact List.map_append.symm
theorem q0w {s : Snm} (h : chkS s = 0) : 3 + ((numsE s).flatMap vbytes).length = (bodyS s).length := by rw [qm8, qdw h]
theorem qu9 {s : Snm} (h : ShAt s.st) : (bodyS s).length ≤ 6000003 := by
 have h1 := qu8 h
 rw [qbj] at h1
 omega
theorem qo4 {w w' : World} {er er' : Nat} {q R : List Nat} {A : Option Addr} {c : Nat} (he : er' = er) (h : q = R) (ho : w'.ownsRow w.heap.size 5 1 (.slice A q.length c) q.length (q.map B8)) (hc : q.length ≤ c) (hb : Below w.heap.size w w') : qlg w er R (.returned (.tuple #[.slice A q.length c, .int .i64 (er' : Int)])) w' := by
 subst h; subst he
 exact ⟨⟨A, c, rfl, ho, hc⟩, hb⟩
theorem qly (l : List Sec) : ∀ u ∈ l.flatMap secL, u.oneCell' = true := by
 intro u hu
 obtain ⟨x, _, hx⟩ := List.mem_flatMap.1 hu
 simp only [secL, List.mem_cons, List.not_mem_nil, or_false] at hx
 rcases hx with rfl | rfl | rfl <;> rfl
def qm : Sec := ⟨⟨#[104, 101, 97, 100]⟩, 0, 3⟩
def qcj (t : TypeId) (w : World) (er : Nat) (R : List Sec) (r : Ending) (w' : World) : Prop :=
 (∃ A c, r = .returned (.tuple #[.slice A R.length c, .int .i64 (er : Int)]) ∧ w'.ownsRow w.heap.size t 3 (.slice A R.length c) R.length (R.flatMap secL) ∧ R.length ≤ c) ∧ Below w.heap.size w w'
theorem qhv {t : TypeId} {w w' : World} {er er' : Nat} {q R : List Sec} {A : Option Addr} {c : Nat} (he : er' = er) (h : q = R) (ho : w'.ownsRow w.heap.size t 3 (.slice A q.length c) q.length (q.flatMap secL)) (hc : q.length ≤ c) (hb : Below w.heap.size w w') : qcj t w er R (.returned (.tuple #[.slice A q.length c, .int .i64 (er' : Int)])) w' := by
 subst h; subst he
 exact ⟨⟨A, c, rfl, ho, hc⟩, hb⟩
theorem qo5 {t : TypeId} {w w' : World} {er : Nat} {R : List Sec} (e : Int) (he : e = er) (h : R = []) (hb : Below w.heap.size w w') : qcj t w er R (.returned (.tuple #[.slice none 0 0, .int .i64 e])) w' := by
 subst h; subst he
 exact ⟨⟨none, 0, rfl, World.ownsRow_nil _ _ _ _, Nat.le_refl _⟩, hb⟩
theorem qcs {α : Type} (d : α) {l m : List α} (hl : l.length = m.length) (hu : ∀ i, i < l.length → l.getD i d = m.getD i d) : l = m := by
 apply List.ext_getElem hl
 intro i h1 h2
 have := hu i h1
 rwa [List.getD_eq_getElem?_getD, List.getD_eq_getElem?_getD, List.getElem?_eq_getElem h1, List.getElem?_eq_getElem h2] at this
theorem qct {α : Type} {f g : Nat → α} : ∀ i, i < 0 → f i = g i := fun i h => by omega
theorem qcu {α : Type} {f g : Nat → α} {k : Nat} (h : ∀ i, i < k → f i = g i) (hk : f k = g k) : ∀ i, i < k + 1 → f i = g i := fun i hi => by
 rcases Nat.lt_or_ge i k with h1 | h1
 ·exact h i h1
 ·obtain rfl : i = k := by omega
  exact hk
theorem qva (x y : Tk) : zm Tryz.prog 4 46 (.agg x.cells) (.agg y.cells) = some (decide (x = y)) := by
 have h : zm Tryz.prog 4 46 (.agg x.cells) (.agg y.cells) = some ((x.id == y.id) && ((x.group == y.group) && ((x.weight == y.weight) && ((x.cpu == y.cpu) && (((x.mask : Int) == (y.mask : Int)) && ((x.ready == y.ready) && (((x.v : Int) == (y.v : Int)) && (((x.r : Int) == (y.r : Int)) && true)))))))) := by kernel_rfl
 refine h.trans (congrArg some ?_)
 obtain ⟨a1, a2, a3, a4, a5, a6, a7, a8⟩ := x
 obtain ⟨b1, b2, b3, b4, b5, b6, b7, b8⟩ := y
 rw [Bool.eq_iff_iff]
 simp only [Bool.and_eq_true, beq_iff_eq, decide_eq_true_eq, Tk.mk.injEq, and_true, Int.ofNat_inj]
theorem qvb (x y : Sp) : zm Tryz.prog 4 43 (.agg x.cells) (.agg y.cells) = some (decide (x = y)) := by
 have h : zm Tryz.prog 4 43 (.agg x.cells) (.agg y.cells) = some (((x.v : Int) == (y.v : Int)) && (((x.r : Int) == (y.r : Int)) && (((x.floor : Int) == (y.floor : Int)) && true))) := by kernel_rfl
 refine h.trans (congrArg some ?_)
 obtain ⟨a1, a2, a3⟩ := x
 obtain ⟨b1, b2, b3⟩ := y
 rw [Bool.eq_iff_iff]
 simp only [Bool.and_eq_true, beq_iff_eq, decide_eq_true_eq, Sp.mk.injEq, and_true, Int.ofNat_inj]
def rowsL (x : Stm) : List (List Sp) := x.rs.map Rw.l
theorem qrp {x : Stm} {g : Nat} (h : g < x.rs.length) : (rowsL x).getD g [] = (x.rs.getD g Rw.zero).l := rs_at h
theorem qm9 (x : Stm) : (rowsL x).length = x.rs.length := List.length_map ..
def CfgEq (a b : Stm) : Prop := a.cpus = b.cpus ∧ a.credit = b.credit ∧ a.gs = b.gs
instance cfgEqDec (a b : Stm) : Decidable (CfgEq a b) := by unfold CfgEq; infer_instance
def StaEq (a b : Stm) : Prop := CfgEq a b ∧ a.cl = b.cl ∧ a.cu = b.cu ∧ a.ts = b.ts ∧ rowsL a = rowsL b
instance staEqDec (a b : Stm) : Decidable (StaEq a b) := by unfold StaEq; infer_instance
def SnEq (a b : Snm) : Prop := a.next = b.next ∧ a.st.cpus = b.st.cpus ∧ a.st.credit = b.st.credit ∧ a.st.gs = b.st.gs ∧ a.st.cl = b.st.cl ∧ a.st.cu = b.st.cu ∧ a.st.ts = b.st.ts ∧ rowsL a.st = rowsL b.st
instance snEqDec (a b : Snm) : Decidable (SnEq a b) := by unfold SnEq; infer_instance
theorem qcv {l : List Rw} {i : Nat} (h : i < l.length) : (l.map Rw.l).getD i [] = (l.getD i Rw.zero).l := by
 rw [List.getD_eq_getElem?_getD, List.getD_eq_getElem?_getD, List.getElem?_map, List.getElem?_eq_getElem h]
 rfl
theorem qrq {l m : List Rw} (hl : l.length = m.length) (hu : ∀ i, i < l.length → (l.getD i Rw.zero).l = (m.getD i Rw.zero).l) : l.map Rw.l = m.map Rw.l :=
 qcs [] (by simpa using hl) fun i hi => by
  rw [List.length_map] at hi
  rw [qcv hi, qcv (by omega)]
  exact hu i hi
theorem qkf {l m : List Rw} {k : Nat} (h1 : k < l.length) (h2 : k < m.length) (h : (l.getD k Rw.zero).l ≠ (m.getD k Rw.zero).l) : l.map Rw.l ≠ m.map Rw.l := fun e => h (by rw [← qcv h1, ← qcv h2, e])
theorem q0x {α : Type} {l m : List α} (h : l.length ≠ m.length) : l ≠ m := fun e => h (by rw [e])
section
variable {P : Program} {Q : Exit → Act → World → Prop} {a : Act} {W w : World} {n d : Nat} {D : List Deferred} {σ : List (Nat × Value)} {o : Oper} {K : Act → World → Prop} {fs : List Fact}
theorem Mem.setPart (h : Mem W w fs) {i g off : Nat} {cs ds es : Array Value} {t : TypeId} (hi : fs[i]? = some (.blk g cs t)) (hl : off + ds.size ≤ cs.size) (he : cs.toList.take off ++ ds.toList ++ cs.toList.drop (off + ds.size) = es.toList) : Mem W (w.setCells g off ds.toList) (fs.set i (.blk g es t)) := by
 have hb := h.holds _ (List.mem_of_getElem? hi)
 refine h.turn hi (below_setCells h.below hb.1 off _) (fun k hk hne => ?_) ⟨hb.1, ?_⟩ (fun g' hg' => .inl hg')
 ·exact ze _ _ _ _ _ (fun e => hne (by rw [e]; rfl))
 ·have hlen : (cs.toList.take off).length = off := by rw [List.length_take]; simp; omega
  have h1 := z7 g t ds.toList w (cs.toList.take off) (cs.toList.drop (off + ds.size)) ((cs.toList.drop off).take ds.size) (by
   rw [hb.2]
   congr 2
   apply Array.ext'
   show cs.toList = _
   rw [List.append_assoc, ← List.drop_drop, List.take_append_drop, List.take_append_drop]) (by rw [List.length_take, List.length_drop]; simp; omega)
  rw [hlen, he] at h1
  simpa using h1
theorem e_sp (HF : Fr a n D σ) (HM : Mem W w fs) (i : Nat) {t : TypeId} {x y : Operand} {g off m : Nat} {cs ds : Array Value} {tb : TypeId} (es : Array Value) (hop : o.op = .store t x y) (hd : o.dst = none) (hx : look σ x = some (.pointer (some ⟨g, off, none⟩))) (hy : look σ y = some (.agg ds)) (hi : fs[i]? = some (.blk g cs tb)) (si : SI P t m) (hc : off + m ≤ cs.size) (hm : ds.size = m) (h1 : ∀ u ∈ ds.toList, u.oneCell' = true) (he : cs.toList.take off ++ ds.toList ++ cs.toList.drop (off + m) = es.toList)
  (k : ∀ w', Mem W w' (fs.set i (.blk g es tb)) → K a w') : o.wp P a w K Q := by
 subst hm
 have hb := HM.blk hi
 have hl := run_storeVar_mid (P := P) w g off t ds (qbm hb off ds.size (by omega)) (by exact si.size) (by simpa using all_oneCell_toArray h1)
 unfold Oper.wp execOp
 simp only [hop, HF.eval hx, HF.eval hy, Sem.run_bind, Instr.storeAt, Instr.sureAddr, Sem.run_pure, hl, Result.andThen_ok, Oper.upon_skip, hd]
 exact k _ (HM.setPart hi hc he)
end
def rwF (t : TypeId) (q : List Rw) : List Fact := ownsF t 3 (q.map Rw.own)
section
variable {W w w' : World} {fs gs a T : List Fact} {t : TypeId} {q : List Rw}
theorem qyn {x : Rw} (hq : x ∈ q) : Fact.row (.slice x.A x.l.length x.c) x.l.length (x.l.flatMap spL) t 3 ∈ rwF t q := List.mem_map_of_mem (List.mem_map_of_mem hq)
theorem Mem.toRw {A : Option Addr} {c : Nat} {l : List Sp} (h : Mem W w (.row (.slice A l.length c) l.length (l.flatMap spL) t 3 :: (fs ++ rwF t q))) : Mem W w (fs ++ rwF t (q ++ [⟨A, c, l⟩])) := by
 have h1 := Mem.qx0 h
 unfold rwF
 rw [List.map_append]
 exact h1
theorem Mem.joinT (h : Mem W w fs) (k : Mem w w' gs) : Mem W w' (fs ++ gs) := (h.join k).perm List.perm_append_comm
end
def stF (x : Stm) : List Fact := [.row (.slice x.gA x.gs.length x.gc) x.gs.length (x.gs.flatMap grL) 40 2, .row (.slice x.lA x.cl.length x.lc) x.cl.length (x.cl.map I64i) 3 1, .row (.slice x.uA x.cu.length x.uc) x.cu.length (x.cu.map I64i) 3 1, .row (.slice x.tA x.ts.length x.tc) x.ts.length (x.ts.flatMap tkL) 46 8, .row (.slice x.sA x.rs.length x.sc) x.rs.length (x.rs.map Rw.val) 44 1] ++ rwF 43 x.rs
section
variable {W w w' : World} {fs T : List Fact} {x : Stm}
theorem Mem.stOf (h : Mem W w fs) (hs : ∀ f ∈ stF x, f ∈ fs) : StRd w x :=
 ⟨h.qlc (hs _ (List.mem_of_getElem? (i := 0) (l := stF x) rfl)), h.qlc (hs _ (List.mem_of_getElem? (i := 1) (l := stF x) rfl)), h.qlc (hs _ (List.mem_of_getElem? (i := 2) (l := stF x) rfl)), h.qlc (hs _ (List.mem_of_getElem? (i := 3) (l := stF x) rfl)), h.qlc (hs _ (List.mem_of_getElem? (i := 4) (l := stF x) rfl)), fun y hy => h.qlc (hs _ (List.mem_append_right _ (qyn hy)))⟩
theorem Mem.stL (n : Nat) (h : Mem W w fs) (he : fs.drop n = stF x ++ T) : StRd w x := h.stOf fun f hf => List.mem_of_mem_drop (he ▸ List.mem_append_left _ hf)
theorem Mem.stX (n : Nat) (h : Mem W w fs) (he : fs.drop n = stF x) : StRd w x := h.stOf fun f hf => List.mem_of_mem_drop (he ▸ hf)
end
def q0y (w : World) (x : Stm) (r : Ending) (w' : World) : Prop := ∃ y : Stm, r = .returned (.agg y.cells) ∧ StaEq x y ∧ StCap y ∧ Mem w w' (stF y)
def qw7 (w : World) (s : Snm) (r : Ending) (w' : World) : Prop := ∃ z : Snm, r = .returned (.agg z.cells) ∧ SnEq s z ∧ StCap z.st ∧ Mem w w' (stF z.st)
def qyo (w : World) (R : List Int) (r : Ending) (w' : World) : Prop :=
 (∃ A c, r = .returned (.slice A R.length c) ∧ w'.ownsRow w.heap.size 3 1 (.slice A R.length c) R.length (R.map I64i) ∧ R.length ≤ c) ∧ Below w.heap.size w w'
def q0z (w : World) (x : Stm) (r : Ending) (w' : World) : Prop :=
 (∃ A c, r = .returned (.agg #[.int .i64 x.cpus, .int .u64 (x.credit : Int), .slice A x.gs.length c]) ∧ w'.ownsRow w.heap.size 40 2 (.slice A x.gs.length c) x.gs.length (x.gs.flatMap grL) ∧ x.gs.length ≤ c) ∧ Below w.heap.size w w'
theorem qna (l : List Gr) : ∀ u ∈ l.flatMap grL, u.oneCell' = true := by
 intro u hu
 obtain ⟨x, _, hx⟩ := List.mem_flatMap.1 hu
 simp only [grL, List.mem_cons, List.not_mem_nil, or_false] at hx
 rcases hx with rfl | rfl <;> rfl
theorem qkg (l : List Sp) : ∀ u ∈ l.flatMap spL, u.oneCell' = true := by
 intro u hu
 obtain ⟨x, _, hx⟩ := List.mem_flatMap.1 hu
 simp only [spL, List.mem_cons, List.not_mem_nil, or_false] at hx
 rcases hx with rfl | rfl | rfl <;> rfl
theorem qnb (l : List Tk) : ∀ u ∈ l.flatMap tkL, u.oneCell' = true := by
 intro u hu
 obtain ⟨x, _, hx⟩ := List.mem_flatMap.1 hu
 simp only [tkL, List.mem_cons, List.not_mem_nil, or_false] at hx
 rcases hx with rfl | rfl | rfl | rfl | rfl | rfl | rfl | rfl <;> rfl
theorem qgn (l : List Int) : ∀ u ∈ l.map I64i, u.oneCell' = true := by
 intro u hu
 obtain ⟨x, _, rfl⟩ := List.mem_map.1 hu
 rfl
theorem qrr (l : List Rw) : ∀ u ∈ l.map Rw.val, u.oneCell' = true := by
 intro u hu
 obtain ⟨x, _, rfl⟩ := List.mem_map.1 hu
 rfl
theorem qvc {l : List Rw} {k : Nat} (h : k < l.length) : (l.take (k + 1)).map Rw.l = (l.take k).map Rw.l ++ [(l.getD k Rw.zero).l] := by rw [qm4 Rw.zero h, List.map_append]; rfl
theorem qw8 {a b : Stm} (h : StaEq a b) : b.sta = a.sta := by
 obtain ⟨⟨h1, h2, h3⟩, h4, h5, h6, h7⟩ := h
 unfold Stm.sta
 rw [h1, h2, h3, h4, h5, h6, show a.rs.map Rw.l = b.rs.map Rw.l from h7]
theorem qck {a b : Snm} (h : SnEq a b) : StaEq a.st b.st := ⟨⟨h.2.1, h.2.2.1, h.2.2.2.1⟩, h.2.2.2.2.1, h.2.2.2.2.2.1, h.2.2.2.2.2.2.1, h.2.2.2.2.2.2.2⟩
theorem sn_of {a b : Snm} (h0 : a.next = b.next) (h : StaEq a.st b.st) : SnEq a b := ⟨h0, h.1.1, h.1.2.1, h.1.2.2, h.2.1, h.2.2.1, h.2.2.2.1, h.2.2.2.2⟩
theorem qeu {a b : Stm} (h : rowsL a = rowsL b) : a.rs.length = b.rs.length := by rw [← qm9 a, h, qm9]
theorem qfl {α : Type} {f g : Nat → List α} : ∀ k, (∀ i, i < k → f i = g i) → upF k f = upF k g
 | 0, _ => rfl
 | k + 1, h => by rw [qq, qq, qfl k (fun i hi => h i (by omega)), h k (by omega)]
theorem q00 {a b : Snm} (h : SnEq a b) : ∀ i, secN b i = secN a i := by
 obtain ⟨h0, h1, h2, h3, h4, h5, h6, h7⟩ := h
 intro i
 match i with
 | 0 => show [toU b.next] = [toU a.next]; rw [h0]
 | 1 => show [toU b.st.cpus, b.st.credit, b.st.gs.length] = [toU a.st.cpus, a.st.credit, a.st.gs.length]; rw [h1, h2, h3]
 | 2 => show upF (b.st.gs.length - 1) (gsN b.st.gs) = upF (a.st.gs.length - 1) (gsN a.st.gs); rw [h3]
 | 3 => show b.st.cl.map toU = a.st.cl.map toU; rw [h4]
 | 4 => show b.st.cu.map toU = a.st.cu.map toU; rw [h5]
 | 5 => show (b.st.ts.length :: upF b.st.ts.length fun i => tkN (qr b.st.ts i) (b.st.ts.getD i Tk.zero)) = a.st.ts.length :: upF a.st.ts.length fun i => tkN (qr a.st.ts i) (a.st.ts.getD i Tk.zero); rw [h6]
 | 6 =>
  have hl := qeu h7
  show (upF b.st.rs.length fun g => rwN g (b.st.rs.getD g Rw.zero).l) = upF a.st.rs.length fun g => rwN g (a.st.rs.getD g Rw.zero).l
  rw [hl]
  exact qfl _ fun g hg => by rw [← qrp hg, ← h7, qrp (by omega)]
 | k + 7 => rfl
theorem qkh {a b : Snm} (h : SnEq a b) : chkS b = chkS a := by unfold chkS; rw [qw8 (qck h), h.1]
theorem qyp {a b : Snm} (h : SnEq a b) : numsS b = numsS a := qfl 7 fun i _ => q00 h i
theorem qyq {a b : Snm} (h : SnEq a b) : bodyS b = bodyS a := by unfold bodyS; rw [qyp h]
theorem qw9 {a b : Snm} (h : SnEq a b) : outS b = outS a := by unfold outS; rw [qkh h, qyq h]
theorem qo6 (a : Stm) : StaEq a a := ⟨⟨rfl, rfl, rfl⟩, rfl, rfl, rfl, rfl⟩
theorem qo7 {a b : Stm} (h : StaEq a b) : StaEq b a := ⟨⟨h.1.1.symm, h.1.2.1.symm, h.1.2.2.symm⟩, h.2.1.symm, h.2.2.1.symm, h.2.2.2.1.symm, h.2.2.2.2.symm⟩
theorem qlz {a b c : Stm} (h : StaEq a b) (k : StaEq b c) : StaEq a c := ⟨⟨h.1.1.trans k.1.1, h.1.2.1.trans k.1.2.1, h.1.2.2.trans k.1.2.2⟩, h.2.1.trans k.2.1, h.2.2.1.trans k.2.2.1, h.2.2.2.1.trans k.2.2.2.1, h.2.2.2.2.trans k.2.2.2.2⟩
theorem qrs {a b : Snm} (h : SnEq a b) : SnEq b a := sn_of h.1.symm (qo7 (qck h))
theorem qhw {a b c : Snm} (h : SnEq a b) (k : SnEq b c) : SnEq a c := sn_of (h.1.trans k.1) (qlz (qck h) (qck k))
theorem qhx {a b : Stm} (h : StaEq a b) (hf : StFew a) : StFew b := by
 obtain ⟨⟨h1, h2, h3⟩, h4, h5, h6, h7⟩ := h
 refine ⟨h3 ▸ hf.g, h4 ▸ hf.l, h5 ▸ hf.u, h6 ▸ hf.t, by rw [← qeu h7]; exact hf.s, fun y hy => ?_⟩
 have h8 : y.l ∈ rowsL a := by rw [h7]; exact List.mem_map_of_mem hy
 obtain ⟨z, hz, e⟩ := List.mem_map.1 h8
 rw [← e]
 exact hf.r z hz
theorem Mem.q13 {W w w' : World} {l A B C : List Fact} (h : Mem W w (l ++ (A ++ B))) (k : Mem w w' C) : Mem W w' (l ++ (A ++ (B ++ C))) := by
 have h1 := h.joinT k
 rwa [List.append_assoc, List.append_assoc] at h1
theorem Mem.stE {W w : World} {fs A B : List Fact} {x : Stm} (n : Nat) (h : Mem W w fs) (he : fs.drop n = A ++ (B ++ stF x)) : StRd w x := h.stOf fun _ hf => List.mem_of_mem_drop (he ▸ List.mem_append_right _ (List.mem_append_right _ hf))
def LitP (x : Stm) : Prop := x.ts.length ≤ 60 ∧ x.gs.length ≤ 12 ∧ x.rs.length ≤ 12 ∧ x.cl.length ≤ 8 ∧ x.cu.length ≤ 8 ∧ ∀ k, k < x.rs.length → (x.rs.getD k Rw.zero).l.length ≤ 8
instance litDec (x : Stm) : Decidable (LitP x) := by unfold LitP; infer_instance
def Sec.zero : Sec := ⟨⟨#[]⟩, 0, 0⟩
def Sec.cells (x : Sec) : Array Value := #[.string x.nm, .int .i64 (x.fr : Int), .int .i64 (x.to : Int)]
theorem qvd (x : Sec) : ∀ v ∈ x.cells.toList, v.oneCell' = true := by simp [Sec.cells, Value.oneCell']
def secEq (x y : Sec) : Bool := (x.nm.toList == y.nm.toList) && (((x.fr : Int) == (y.fr : Int)) && (((x.to : Int) == (y.to : Int)) && true))
theorem qo8 (x : Sec) : secEq x x = true := by unfold secEq; simp
theorem qo9 (x y : Sec) : zm Tryz.prog 4 83 (.agg x.cells) (.agg y.cells) = some (secEq x y) := by kernel_rfl
end Go.Proofs.YtggpmlaappaopaaGreatDoor
namespace Go.Proofs.YtggpmlaappaopaaGreatDoor
open Go.RowKit Go.ChangeShapes Go.WideShapes Go.ChangeAt
section
variable {H : Type} {enc : TypeId × Value → H} {W : World} {b0 : Nat} {v : Value} {d : DataW H} {p : List MemPlace}
theorem qyr : Tryz.prog.underlying 41 = some (.int .u32) := by kernel_rfl
structure RwIn (W : World) (x : Rw) : Prop where
 ok : ∀ z ∈ x.l, z.Ok
 hc : x.l.length ≤ x.c
 rd : Rd W W.heap.size 3 x.A x.l.length (x.l.flatMap spL)
structure StIn (W : World) (x : Stm) : Prop where
 ok : x.sta.Ok
 cap : StCap x
 rd : StRd W x
end
set_option maxRecDepth 100000 in
theorem qki {W : World} (h : laidMetH Tryz.prog Rows.canonTellsRow.laid W) : LaidX W.heap.size W := by
 rw [MakeChecks.laidMetH_plain _ _ _ (by kernel_rfl)] at h
 obtain ⟨g1, t1, cs1, f1, p1, hg1, ht1, hv1, hd1⟩ := Lib.laidMet.reads h (n := "quantum/crc.halves") (d := Rows.laid_quantum_crc_halves) (List.mem_cons_self ..)
 have gg1 : Tryz.prog.globalNamed "quantum/crc.halves" = some 0 := by kernel_rfl
 obtain rfl := Option.some.inj (gg1.symm.trans hg1)
 have ty1 : (Tryz.prog.globals[0]?).map (·.type) = some 191 := by kernel_rfl
 obtain rfl := Option.some.inj (ty1.symm.trans ht1)
 have one1 : Tryz.prog.cellsOf 41 = 1 := by kernel_rfl
 have c1 : ∀ i v, cs1.toList[i]? = some v → W.cell? ⟨0, i, none⟩ = some v := fun i v hv => by
  rw [World.var?_cell gg1 hv1 i]; simpa using hv
 have at1 : ∀ (cs : List Value) (i : Nat) (v : Value), (cs.drop (i * 1)).take 1 = [v] → cs[i]? = some v := by
  intro cs i v h
  have := congrArg (·[0]?) h
  simpa [List.getElem?_take, List.getElem?_drop] using this
 have hal : ∀ k, k < 16 → W.cell? ⟨0, k, none⟩ = some (.int .u32 ((qaa.getD k 0 : Nat) : Int)) := by
  intro k hk
  obtain ⟨f', d, q, hd, ht⟩ := Lib.array_elem (n := 16) (e := 41) (by kernel_rfl) hd1 k hk
  rw [one1] at ht
  have hdk : d = .lit (.int .u32 ((qaa.getD k 0 : Nat) : Int)) := by
   have hk' : k = 0 ∨ k = 1 ∨ k = 2 ∨ k = 3 ∨ k = 4 ∨ k = 5 ∨ k = 6 ∨ k = 7 ∨ k = 8 ∨ k = 9 ∨ k = 10 ∨ k = 11 ∨ k = 12 ∨ k = 13 ∨ k = 14 ∨ k = 15 := by omega
   rcases hk' with rfl | rfl | rfl | rfl | rfl | rfl | rfl | rfl | rfl | rfl | rfl | rfl | rfl | rfl | rfl | rfl <;> exact (Option.some.inj hd).symm
  subst hdk
  obtain ⟨z, e1, e2, _⟩ := DataW.trod_int qyr ht
  have e2 := congrArg Prod.fst e2
  simp only [DataW.lit.injEq, Lit.int.injEq, true_and] at e2
  exact c1 k _ (by rw [at1 _ _ _ e1, ← e2])
 exact ⟨hal, World.block_lt_of_cell? W _ (hal 0 (by omega))⟩
end Go.Proofs.YtggpmlaappaopaaGreatDoor
namespace Go.Proofs.YtggpmlaappaopaaGreatDoor
open Go.RowKit
def byA : List Nat := [113, 115, 1, 1, 1, 0, 1, 0, 0, 0, 0]
section
variable {w : World} {a b c d e f : Nat}
end
def DepIs (w : World) (l : List Gr) (g : Nat) (r : Ending) (w' : World) : Prop := (∃ d : Int, r = .returned (.int .i64 d) ∧ (d ≤ 4 ↔ ParB l g ∧ depG l g ≤ 4)) ∧ Below w.heap.size w w'
theorem qvx {l : List Gr} {g y z : Nat} (hp : ∀ i, 0 < i → i < g → ParB l i) (hy : y ≤ g) (h0 : 0 < y) (hz : (l.getD y Gr.zero).parent = z) (hyz : z < y) : depG l y = depG l z + 1 := by
 have h := qfs (l := l) (g := y) (fun i h1 h2 => by
  rcases Nat.lt_or_ge i y with h3 | h3
  ·exact hp i h1 (by omega)
  ·obtain rfl : i = y := by omega
   unfold ParB
   omega) h0
 rw [hz, Int.toNat_natCast] at h
 exact h
theorem qnu {w w' : World} {l : List Gr} {g y : Nat} (hp : ∀ i, 0 < i → i < g → ParB l i) (hy : y ≤ g) (h0 : 0 < y) (h : ¬ (0 ≤ (l.getD y Gr.zero).parent ∧ (l.getD y Gr.zero).parent < y)) (hb : Below w.heap.size w w') : DepIs w l g (.returned (.int .i64 5)) w' := by
 refine ⟨⟨5, rfl, ⟨fun h => by omega, fun hh => ?_⟩⟩, hb⟩
 exfalso
 apply h
 rcases Nat.lt_or_ge y g with h3 | h3
 ·exact hp y h0 h3
 ·obtain rfl : y = g := by omega
  exact hh.1
theorem qnv {w w' : World} {l : List Gr} {g y n : Nat} (hd : depG l g = n + depG l y) (h : y = 0 ∨ 5 ≤ n) (hpg : y = g ∨ ParB l g) (hg : 0 < g) (hb : Below w.heap.size w w') : DepIs w l g (.returned (.int .i64 (n : Int))) w' := by
 refine ⟨⟨n, rfl, ⟨fun hn => ?_, fun hh => ?_⟩⟩, hb⟩
 ·rcases h with rfl | h
  ·rw [qjj] at hd
   exact ⟨hpg.resolve_left (by omega), by omega⟩
  ·omega
 ·omega
theorem qy8 {l : List Gr} {y z : Nat} (hz : (l.getD y Gr.zero).parent = z) (h : z < y) : ParB l y := by unfold ParB; omega
theorem qy9 {l : List Gr} {g : Nat} (h0 : 0 < g) (h : ¬ (ParB l g ∧ depG l g ≤ 4)) : gOk l g = false := qhl h0 fun hh => h ⟨⟨hh.1, hh.2.1⟩, hh.2.2.2⟩
theorem qvy {l : List Gr} {g : Nat} (h : ParB l g ∧ depG l g ≤ 4) (hw : 1 ≤ (l.getD g Gr.zero).weight ∧ (l.getD g Gr.zero).weight ≤ 65536) : gOk l g = true := qqy ⟨h.1.1, h.1.2, hw, h.2⟩
theorem qza {l : List Gr} {g : Nat} (hu : UpTo g (gOk l)) : ∀ i, 0 < i → i < g → ParB l i := fun i h0 hi => qid (hu i hi) h0
theorem qh4 {x : Stm} (h : gsOk x.gs = false) : cfgOk x.sta = false := by unfold cfgOk; rw [show gsOk x.sta.gs = false from h, Bool.and_false]
theorem qsm {m n : Nat} : ∀ k, (∀ i, n ≤ i → i < n + k → m / 2 ^ i % 2 = 0) → m % 2 ^ (n + k) = m % 2 ^ n
 | 0, _ => rfl
 | k + 1, h => by
  rw [← Nat.add_assoc, Nat.mod_pow_succ, h (n + k) (by omega) (by omega), Nat.mul_zero, Nat.add_zero]
  exact qsm k fun i h1 h2 => h i h1 (by omega)
theorem qsn {m n : Nat} (hm : m < 18446744073709551616) (hn : n ≤ 64) (h : ∀ i, n ≤ i → i < 64 → m / 2 ^ i % 2 = 0) : ¬ 2 ^ n ≤ m := by
 have h1 := qsm (m := m) (n := n) (64 - n) fun i h1 h2 => h i h1 (by omega)
 rw [show n + (64 - n) = 64 by omega, Nat.mod_eq_of_lt (show m < 2 ^ 64 from hm)] at h1
 have := Nat.mod_lt m (Nat.two_pow_pos n)
 omega
theorem qso {m n c : Nat} (hc : n ≤ c) (h : m / 2 ^ c % 2 = 1) : 2 ^ n ≤ m := by
 have h1 : 2 ^ n ≤ 2 ^ c := Nat.pow_le_pow_right (by decide) hc
 rcases Nat.lt_or_ge m (2 ^ c) with h2 | h2
 ·rw [Nat.div_eq_of_lt h2] at h; omega
 ·omega
def shpS (s : Sta) : Bool := (cfgOk s && qmm s) && (allN s.cl.length (fun c => clOk (s.cl.getD c 0)) && allN s.sp.length (rowOk s))
structure ShA0 (x : Stm) : Prop where
 cfg : cfgOk x.sta = true
 cl : (x.cl.length : Int) = x.cpus
 cu : (x.cu.length : Int) = x.cpus
 rs : x.rs.length = x.gs.length
 cls : ∀ c, c < x.cl.length → clOk (x.cl.getD c 0) = true
 row : ∀ g, g < x.rs.length → rowOk x.sta g = true
section
variable {x : Stm} {g : Nat}
theorem qzb (h : cfgOk x.sta = false) : shpS x.sta = false := by unfold shpS; rw [h]; rfl
theorem ql6 (h : ¬ ((x.cl.length : Int) = x.cpus ∧ (x.cu.length : Int) = x.cpus ∧ x.rs.length = x.gs.length)) : shpS x.sta = false := by unfold shpS; rw [qer, decide_eq_false h, Bool.and_false, Bool.false_and]
theorem qxq {c : Nat} (hc : c < x.cl.length) (h : clOk (x.cl.getD c 0) = false) : shpS x.sta = false := by unfold shpS; rw [qy (n := x.sta.cl.length) hc (p := fun c => clOk (x.sta.cl.getD c 0)) h]; simp
theorem qsp (hg : g < x.rs.length) (h : rowOk x.sta g = false) : shpS x.sta = false := by unfold shpS; rw [qy (n := x.sta.sp.length) (by rwa [qaq]) h]; simp
theorem qzc (h1 : cfgOk x.sta = true) (h2 : (x.cl.length : Int) = x.cpus ∧ (x.cu.length : Int) = x.cpus ∧ x.rs.length = x.gs.length) (h3 : UpTo x.cl.length (fun c => clOk (x.cl.getD c 0))) (h4 : UpTo x.rs.length (rowOk x.sta)) : shpS x.sta = true := by
 unfold shpS
 rw [h1, qer, decide_eq_true h2, show allN x.sta.cl.length (fun c => clOk (x.sta.cl.getD c 0)) = true from h3.all, qaq, h4.all]
 rfl
theorem q09 (h : shpS x.sta = true) : ShA0 x := by
 unfold shpS at h
 simp only [Bool.and_eq_true] at h
 obtain ⟨⟨h1, h2⟩, h3, h4⟩ := h
 rw [qer, decide_eq_true_eq] at h2
 rw [qaq] at h4
 exact ⟨h1, h2.1, h2.2.1, h2.2.2, fun c hc => qb0 h3 hc, fun g hg => qb0 h4 hg⟩
theorem qgx : zb x.sta = (shpS x.sta && allN x.ts.length (tkAt x.sta)) := by
 unfold zb shpS
 simp only [Bool.and_assoc]
 rfl
end
theorem qsq {t : Int} (h : ¬ (0 ≤ t ∧ t ≤ 281474976710656)) : clOk t = false := decide_eq_false h
theorem qvz {t : Int} (h : 0 ≤ t ∧ t ≤ 281474976710656) : clOk t = true := decide_eq_true h
def mbrL (m : Mb) : List Value := [.int .u64 (m.v : Int), .int .i64 (m.k : Int), .int .i64 (m.id : Int)]
theorem qi2 (m : Mb) : (mbrL m).length = 3 := rfl
def Mb.rcells (m : Mb) : Array Value := #[.int .u64 (m.v : Int), .int .i64 (m.k : Int), .int .i64 (m.id : Int)]
def Mb.zero : Mb := ⟨0, 0, 0⟩
theorem ql7 (x : Mb) : ∀ v ∈ x.rcells.toList, v.oneCell' = true := by simp [Mb.rcells, Value.oneCell']
theorem qsr (l : List Mb) : ∀ u ∈ l.flatMap mbrL, u.oneCell' = true := by
 intro u hu
 obtain ⟨x, _, hx⟩ := List.mem_flatMap.1 hu
 simp only [mbrL, List.mem_cons, List.not_mem_nil, or_false] at hx
 rcases hx with rfl | rfl | rfl <;> rfl
def qc4 (l : List Mb) : Mb := bestM (l.getD 0 Mb.zero) (l.drop 1)
theorem qku {l : List Mb} (h : l ≠ []) (hk : ∀ m ∈ l, m.k ≤ 1 ∧ m.v < 18446744073709551616) : qc4 l = bestM topM l := by
 obtain ⟨m, r, rfl⟩ := List.exists_cons_of_ne_nil h
 have h1 := hk m (by simp)
 have e : m.lt topM = true := by
  unfold Mb.lt topM
  rw [decide_eq_true_eq]
  show m.v < 18446744073709551615 ∨ m.v = 18446744073709551615 ∧ (m.k < 18446744073709551615 ∨ m.k = 18446744073709551615 ∧ m.id < 18446744073709551615)
  omega
 show bestM m r = bestM (if m.lt topM then m else topM) r
 rw [e]; rfl
theorem qkv {l : List Mb} {b : Mb} {k : Nat} (h1 : 1 ≤ k) (hk : k < l.length) : bestM b ((l.take (k + 1)).drop 1) = if (l.getD k Mb.zero).lt (bestM b ((l.take k).drop 1)) then l.getD k Mb.zero else bestM b ((l.take k).drop 1) := by
 rw [qm4 Mb.zero hk, List.drop_append_of_le_length (by rw [List.length_take]; omega), qhq]
theorem lt_v {a b : Mb} (h : a.v ≠ b.v) : a.lt b = decide (a.v < b.v) := decide_eq_decide.2 (by omega)
theorem lt_k {a b : Mb} (h : a.v = b.v) (h2 : a.k ≠ b.k) : a.lt b = decide (a.k < b.k) := decide_eq_decide.2 (by omega)
theorem lt_id {a b : Mb} (h : a.v = b.v) (h2 : a.k = b.k) : a.lt b = decide (a.id < b.id) := decide_eq_decide.2 (by omega)
theorem qss {a b : Mb} {m n : Nat} (h : a.lt b = decide (m < n)) {w w' : World} (hb : Below w.heap.size w w') : Is w (.bool (a.lt b)) (.returned (.bool (decide ((m : Int) < (n : Int))))) w' := by
 rw [h]; exact qhj (by omega) hb
section
variable {x : Stm} {g i : Nat} {z : Sp} {t : Tk}
theorem qv0 (h : entOk z.v z.r (x.gs.getD g Gr.zero).weight = true) (h0 : g = 0) (hv : z.v = 0) : decide ((z.r : Int) > 0) = !spOk x.sta g z := by
 rw [← qq8 h h0 hv, Bool.eq_iff_iff, bne_iff_ne, decide_eq_true_eq]
 omega
theorem qst (ht : x.ts.getD i Tk.zero = t) (h : t.id ≤ qr x.ts i) : tkAt x.sta i = false := by
 unfold qr at h
 split at h
 ·exact qmy (qcf (by rw [ht]; omega))
 ·exact qmx (by omega) (by rw [ht]; omega)
theorem qzd {l : List Tk} {id : Int} (h : ¬ id ≤ qr l i) : i = 0 ∨ (l.getD (i - 1) Tk.zero).id < id := by
 unfold qr at h
 split at h
 ·exact .inl ‹_›
 ·exact .inr (by omega)
theorem qc5 (ht : x.ts.getD i Tk.zero = t) (h : tkOk1 x.sta t = false) : tkAt x.sta i = false := qmy (by rw [ht]; exact h)
theorem q1a (ht : x.ts.getD i Tk.zero = t) (h0 : ¬ t.id ≤ qr x.ts i) (h : tkOk1 x.sta t = true) : tkAt x.sta i = true := qux (by rw [ht]; exact qzd h0) (by rw [ht]; exact h)
end
theorem qze {s : Sta} (hok : s.Ok) (g c : Nat) : (s.spot g c).Ok := by
 have key : ∀ l : List Sp, (∀ z ∈ l, z.Ok) → (l.getD c Sp.zero).Ok := by
  intro l hl
  rcases Nat.lt_or_ge c l.length with h | h
  ·exact hl _ (qu Sp.zero h)
  ·rw [List.getD_eq_getElem?_getD, List.getElem?_eq_none h]
   exact ⟨by decide, by decide, by decide⟩
 refine key _ ?_
 rcases Nat.lt_or_ge g s.sp.length with h | h
 ·exact hok.sp _ (qu [] h)
 ·rw [List.getD_eq_getElem?_getD, List.getElem?_eq_none h]
  intro z hz
  cases hz
theorem qsu {x : Stm} (hok : x.sta.Ok) (g c : Nat) : ∀ m ∈ memS x.sta g c, m.k ≤ 1 ∧ m.v < 18446744073709551616 := by
 rw [qie]
 intro m hm
 rcases List.mem_append.1 hm with h | h
 ·obtain ⟨t, ht, h2⟩ := List.mem_filterMap.1 h
  unfold tkM at h2
  split at h2
  ·injection h2 with h2
   subst h2
   exact ⟨Nat.zero_le _, (hok.ts t ht).v⟩
  ·cases h2
 ·obtain ⟨i, _, h2⟩ := List.mem_filterMap.1 h
  unfold grpM at h2
  split at h2
  ·injection h2 with h2
   subst h2
   exact ⟨Nat.le_refl _, (qze hok i c).v⟩
  ·cases h2
theorem qv1 {β : Type} {f : Nat → Option β} {n g u : Nat} (h2 : u < n) (hf : g + 1 ≤ u → f u = none) : (((List.range n).drop (g + 1)).take (u + 1 - (g + 1))).filterMap f = (((List.range n).drop (g + 1)).take (u - (g + 1))).filterMap f := by
 rcases Nat.lt_or_ge u (g + 1) with h | h
 ·rw [show u + 1 - (g + 1) = u - (g + 1) by omega]
 ·rw [qio h h2, hf h]
  simp
def bestU (l : List Mb) (k : Nat) : Mb := bestM (l.getD 0 Mb.zero) ((l.take k).drop 1)
theorem qsv (l : List Mb) : bestU l 1 = l.getD 0 Mb.zero := by
 unfold bestU
 rw [List.drop_of_length_le (by rw [List.length_take]; omega)]
 rfl
theorem qsw {l : List Mb} {k : Nat} (h1 : 1 ≤ k) (hk : k < l.length) (h : (l.getD k Mb.zero).lt (bestU l k) = true) : bestU l (k + 1) = l.getD k Mb.zero := by
 unfold bestU at h ⊢
 rw [qkv h1 hk, if_pos h]
theorem qv2 {l : List Mb} {k : Nat} (h1 : 1 ≤ k) (hk : k < l.length) (h : (l.getD k Mb.zero).lt (bestU l k) = false) : bestU l (k + 1) = bestU l k := by
 unfold bestU at h ⊢
 rw [qkv h1 hk, if_neg (by rw [h]; decide)]
theorem qsx {l : List Mb} {k : Nat} (h : l.length ≤ k) : bestU l k = qc4 l := by
 unfold bestU qc4
 rw [List.take_of_length_le h]
def qxr (t : TypeId) (w : World) (R : List Mb) (r : Ending) (w' : World) : Prop :=
 (∃ A c, r = .returned (.slice A R.length c) ∧ w'.ownsRow w.heap.size t 3 (.slice A R.length c) R.length (R.flatMap mbrL) ∧ R.length ≤ c) ∧ Below w.heap.size w w'
theorem qsy {t : TypeId} {w w' : World} {q R : List Mb} {A : Option Addr} {c : Nat} (h : q = R) (ho : w'.ownsRow w.heap.size t 3 (.slice A q.length c) q.length (q.flatMap mbrL)) (hc : q.length ≤ c) (hb : Below w.heap.size w w') : qxr t w R (.returned (.slice A q.length c)) w' := by
 subst h
 exact ⟨⟨A, c, rfl, ho, hc⟩, hb⟩
theorem qi3 (x : Stm) (g c : Nat) : (memS x.sta g c).length ≤ x.ts.length + x.rs.length := by
 rw [qie, List.length_append]
 have h1 := List.length_filterMap_le (tkM · g c) x.sta.ts
 have h2 := List.length_filterMap_le (grpM x.sta c (fun h => memS x.sta h c) g) ((List.range x.sta.sp.length).drop (g + 1))
 rw [List.length_drop, List.length_range] at h2
 have hl := qaq (x := x)
 have h3 : x.sta.ts.length = x.ts.length := rfl
 omega
def StrC (l : List Nat) : Value := .string (bstr l)
def nameL : List (List Nat) := [[104, 101, 97, 100], [110, 101, 120, 116], [99, 111, 110, 102, 105, 103], [103, 114, 111, 117, 112, 115], [99, 108, 111, 99, 107, 115], [99, 117, 114, 114, 101, 110, 116], [116, 97, 115, 107, 115], [115, 112, 111, 116, 115], [115, 117, 109]]
def nmR (j : Nat) : ByteArray := bstr (nameL.getD j [])
theorem qxs {i : Nat} (h : i < 7) : nmR (i + 1) = qb i := by
 match i, h with
 | 0, _ => rfl
 | 1, _ => rfl
 | 2, _ => rfl
 | 3, _ => rfl
 | 4, _ => rfl
 | 5, _ => rfl
 | 6, _ => rfl
theorem qsz : ∀ j, ∀ b ∈ nameL.getD j [], b < 256
 | 0 => by decide
 | 1 => by decide
 | 2 => by decide
 | 3 => by decide
 | 4 => by decide
 | 5 => by decide
 | 6 => by decide
 | 7 => by decide
 | 8 => by decide
 | j + 9 => by intro b hb; cases hb
theorem qv3 : ∀ j, j < 9 → ∀ k, k < 9 → decide (nameL.getD j [] = nameL.getD k []) = decide (j = k) := by decide
theorem nm_eq {j k : Nat} (hj : j < 9) (hk : k < 9) : ((nmR j).toList == (nmR k).toList) = decide (j = k) := by
 unfold nmR
 rw [qga (qsz j) (qsz k), qv3 j hj k hk]
def ofF (s : Snm) (nm : ByteArray) : Nat → Nat → List Nat
 | 0, _ => []
 | f + 1, i => if (nm.toList == (qb i).toList) = true then secN s i else ofF s nm f (i + 1)
def ofR (s : Snm) (nm : ByteArray) : List Nat := ofF s nm 7 0
section
variable {s : Snm} {nm : ByteArray} {f i : Nat}
theorem qe9 (h : (nm.toList == (qb i).toList) = true) : ofF s nm (f + 1) i = secN s i := if_pos h
theorem of_no (h : (nm.toList == (qb i).toList) = false) : ofF s nm (f + 1) i = ofF s nm f (i + 1) := if_neg (by rw [h]; decide)
end
theorem of_at (s : Snm) {j : Nat} (hj : j < 9) : ∀ (f i : Nat), i + f = 7 → ofF s (nmR j) f i = if i < j ∧ j < 8 then secN s (j - 1) else []
 | 0, i, h => by
  rw [if_neg (by omega)]
  rfl
 | f + 1, i, h => by
  by_cases hji : j = i + 1
  ·subst hji
   rw [qe9 (by rw [← qxs (show i < 7 by omega), nm_eq hj hj]; simp), if_pos ⟨by omega, by omega⟩]
   rfl
  ·rw [of_no (by rw [← qxs (show i < 7 by omega), nm_eq hj (show i + 1 < 9 by omega), decide_eq_false hji]), of_at s hj f (i + 1) (by omega)]
   by_cases hc : i < j ∧ j < 8
   ·rw [if_pos hc, if_pos ⟨by omega, hc.2⟩]
   ·rw [if_neg hc, if_neg (by omega)]
def secR (s : Snm) (j : Nat) : List Nat := ofR s (nmR j)
theorem ql8 (s : Snm) {j : Nat} (hj : j < 9) : secR s j = if 0 < j ∧ j < 8 then secN s (j - 1) else [] := of_at s hj 7 0 rfl
theorem qkw (s : Snm) {j : Nat} (hj : j < 9) (h : j = 0 ∨ j = 8) : secR s j = [] := by rw [ql8 s hj, if_neg (by omega)]
theorem qca (s : Snm) {i : Nat} (h : i < 7) : secR s (i + 1) = secN s i := by rw [ql8 s (by omega), if_pos ⟨by omega, by omega⟩]; rfl
theorem numsR (s : Snm) : upF 9 (secR s) = numsS s := by
 rw [qm6, qq, qq, qq, qq, qq, qq, qq, qq, qq, qcr, qkw s (j := 0) (by omega) (.inl rfl), qkw s (j := 8) (by omega) (.inr rfl),
  qca s (i := 0) (by omega), qca s (i := 1) (by omega), qca s (i := 2) (by omega), qca s (i := 3) (by omega), qca s (i := 4) (by omega), qca s (i := 5) (by omega), qca s (i := 6) (by omega)]
 simp
theorem qnw {s : Snm} (h : ShAt s.st) {j : Nat} (hj : j < 9) : (secR s j).length ≤ 600000 := by
 rw [ql8 s hj]
 split
 ·exact qu6 h (by omega)
 ·exact Nat.zero_le _
theorem qs0 {s : Snm} (h : ShAt s.st) : ∀ k, k ≤ 9 → (upF k (secR s)).length ≤ 600000 * k
 | 0, _ => Nat.zero_le _
 | k + 1, hk => by
  have h1 := qs0 h k (by omega)
  have h2 := qnw h (show k < 9 by omega)
  rw [qq, List.length_append]
  omega
theorem q1b {l : List Gr} {g : Nat} (h : 1 ≤ g) : gsN l (g - 1) = [toU (l.getD g Gr.zero).parent, toU (l.getD g Gr.zero).weight] := by unfold gsN; rw [Nat.sub_add_cancel h]
theorem qpc {l : List Tk} {i : Nat} (h : 0 < i) : qr l i = (l.getD (i - 1) Tk.zero).id := if_neg (by omega)
theorem qs1 {l : List Tk} {i : Nat} (h : ¬ 0 < i) : qr l i = 0 := if_pos (by omega)
def qv4 (t : TypeId) (w : World) (r : Ending) (w' : World) : Prop :=
 (∃ g, r = .returned (.slice (some ⟨g, 0, none⟩) 9 9) ∧ w'.ownsRow w.heap.size t 1 (.slice (some ⟨g, 0, none⟩) 9 9) 9 (nameL.map StrC)) ∧ Below w.heap.size w w'
structure SnGood (T : List Fact) (S : Snm) : Prop where
 ok : S.st.sta.Ok
 few : StFew S.st
 cap : StCap S.st
 rd : ∀ (W w : World) (fs : List Fact), Mem W w fs → (∀ f ∈ T, f ∈ fs) → StRd w S.st
theorem SnGood.at {T fs : List Fact} {S : Snm} {W w : World} (h : SnGood T S) (HM : Mem W w fs) (n : Nat) (he : fs.drop n = T) : StRd w S.st := h.rd _ _ _ HM fun _ hf => List.mem_of_mem_drop (he ▸ hf)
theorem Yl.q0d {P : Program} {S : World → Prop} {σ : List (Nat × Value)} {o : Oper} {t e : TypeId} {z : Value} {size bytes : Nat} (ei : EI P t e z size bytes) {x hi mx : Operand} {A : Option Addr} {m c j q : Nat} {k' k2 : IntKind} (hop : o.op = .slice t x none (some hi) (some mx)) (hx : look σ x = some (.slice A m c)) (hh : look σ hi = some (.int k' (j : Int))) (hm : look σ mx = some (.int k2 (q : Int))) (hj : j ≤ q) (hq : q ≤ c) :
  Yl P S σ o (.slice A j q) := fun a n D HF w hS => by
 obtain ⟨inf, hinf, _, hs, _⟩ := info_parts ei.hi
 have e1 : (Instr.sliceAt t (.slice A m c) none (some (.int k' (j : Int))) (some (.int k2 (q : Int)))).run P w = .ok (.slice A j q) w := by
  subst hs
  simp [Instr.sliceAt, run_underlying ei.ht, Instr.slice, Instr.sliceBounds, Instr.sliceBound, asIntOf, hj, hq, sizeOf, typeInfo, hinf, Addr.add]
 unfold execOp
 simp only [hop, HF.eval hx, HF.eval hh, HF.eval hm, Option.map_some, Option.map_none, Sem.run_bind, e1, Result.andThen_ok]
 rfl
def Sp3 (l : List Sp) : Prop := l.length = 3 ∧ ∀ z ∈ l, z.Ok
theorem Sp3.set {l : List Sp} (h : Sp3 l) (k : Nat) {x : Sp} (hx : x.Ok) : Sp3 (l.set k x) := ⟨by rw [List.length_set]; exact h.1, fun z hz => (List.mem_or_eq_of_mem_set hz).elim (h.2 z) (fun e => e ▸ hx)⟩
theorem Sp3.at {l : List Sp} (h : Sp3 l) {k : Nat} (hk : k < 3) : (l.getD k Sp.zero).Ok := h.2 _ (qu Sp.zero (by rw [h.1]; exact hk))
theorem qpj (s : Snm) (hok : s.st.sta.Ok) (hf : StFew s.st) (hc : StCap s.st) (w : World) (hx : StRd w s.st) :
    Calls Tryz.prog 29 #[.agg s.cells] w (Is w (.int .i64 (chkS s : Int))) := by
 refine s_ce Tryz.func29 [.agg s.cells] [(0, .agg s.cells)] fun a HF => ?_
 have HM := Mem.start w
 refine s_fs1 ?_
 refine fo HF 0 rfl rfl (s_eb HF HM s.cells ?_)
 clear HF HM; intro a w1 g1 HF HM
 refine fp HF 1 1 [(2, vI 0)] fun a HF => ?_
 refine s_d0 (wp_seq (wp_block (s_fs1 ?_)))
 refine fp HF 1 0 [(4, vP g1 0)] fun a HF => ?_
 refine s_fz HF HM 1 rfl (v := vI s.next) (Yl.qd rfl rfl (by kernel_rfl) (fun _ h => h.cell (i := 0) rfl (rfl))) fun a HF => ?_
 refine fp HF 2 2 [(7, .bool (decide ((s.next : Int) < (1 : Int))))] fun a HF => ?_
 rcases HF.tf 7 rfl with ⟨hb7, HF⟩ | ⟨hb7, HF⟩
 ·
  have hd7 := of_decide_eq_true hb7
  refine fp HF 5 4 [(3, .bool true)] fun a HF => ?_
  refine s_d0 (s_ct HF (s_fs1 ?_))
  refine fp HF 1 0 [(2, vI 330)] fun a HF => ?_
  refine s_d0 (wp_ret ?_)
  exact s_rt1 rfl HF rfl (⟨by rw [qfk (by omega)]; rfl, HM.below⟩)
 have hd7 := of_decide_eq_false hb7
 refine fp HF 1 4 [(8, vP g1 0)] fun a HF => ?_
 refine s_fz HF HM 5 rfl (v := vI s.next) (Yl.qd rfl rfl (by kernel_rfl) (fun _ h => h.cell (i := 0) rfl (rfl))) fun a HF => ?_
 refine fp HF 3 6 [(3, .bool (decide ((s.next : Int) > (281474976710657 : Int))))] fun a HF => ?_
 refine s_d0 ?_
 rcases HF.tf 3 rfl with ⟨hb3, HF⟩ | ⟨hb3, HF⟩
 ·
  have hd3 := of_decide_eq_true hb3
  refine s_ct HF (s_fs1 ?_)
  refine fp HF 1 0 [(2, vI 330)] fun a HF => ?_
  refine s_d0 (wp_ret ?_)
  exact s_rt1 rfl HF rfl (⟨by rw [qfk (by omega)]; rfl, HM.below⟩)
 have hd3 := of_decide_eq_false hb3
 refine s_cf HF (s_fs1 ?_)
 refine fp HF 1 0 [(13, vP g1 1)] fun a HF => ?_
 refine s_fz HF HM 1 rfl (v := .agg #[vI s.st.cpus, vQ s.st.credit, .slice s.st.gA s.st.gs.length s.st.gc, .slice s.st.lA s.st.cl.length s.st.lc, .slice s.st.uA s.st.cu.length s.st.uc, .slice s.st.tA s.st.ts.length s.st.tc, .slice s.st.sA s.st.rs.length s.st.sc]) (Yl.qt rfl rfl si_st rfl (fun _ h => h.sub (i := 0) rfl 1 rfl)) fun a HF => ?_
 replace HF := HF.sp 14 (.agg s.st.cells) rfl (rfl)
 refine fo HF 2 rfl rfl (e_is HF HM [.agg s.st.cells] (.bool (zz s.st.sta)) rfl rfl (ql0 s.st hok hf _ (hx.old HM)) fun w15 hbw HM a HF => ?_)
 refine fp HF 2 3 [(12, .bool (!(zz s.st.sta)))] fun a HF => ?_
 refine s_d0 ?_
 rcases HF.tf 12 rfl with ⟨hb12, HF⟩ | ⟨hb12, HF⟩
 ·
  refine s_ct HF (s_fs1 ?_)
  refine fp HF 1 0 [(2, vI 331)] fun a HF => ?_
  refine s_d0 (wp_ret ?_)
  exact s_rt1 rfl HF rfl (⟨by rw [qkd (by omega) (by simpa using hb12)]; rfl, HM.below⟩)
 refine s_cf HF (wp_skip (s_fs1 ?_))
 refine fp HF 1 0 [(2, vI 0)] fun a HF => ?_
 refine s_d0 (wp_ret ?_)
 exact s_rt1 rfl HF rfl (⟨by rw [qke (by omega) (by simpa using hb12)]; rfl, HM.below⟩)
end Go.Proofs.YtggpmlaappaopaaGreatDoor
