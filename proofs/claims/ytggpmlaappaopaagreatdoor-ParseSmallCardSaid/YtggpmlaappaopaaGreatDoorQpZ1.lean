/- Parts. -/
import Derived.Test.YtggpmlaappaopaaGreatDoorQpSep18
import Derived.Test.YtggpmlaappaopaaGreatDoorQpSep7
import Derived.Test.YtggpmlaappaopaaGreatDoorQpSep10
import Derived.Test.YtggpmlaappaopaaGreatDoorQpSta
import Derived.Test.YtggpmlaappaopaaGreatDoorQpTail
import Derived.Test.YtggpmlaappaopaaGreatDoorQpIs
import Derived.Test.YtggpmlaappaopaaGreatDoorQpRnd1
import Derived.Test.YtggpmlaappaopaaGreatDoorQpSep16
import Derived.Test.YtggpmlaappaopaaGreatDoorQpSep19
import Derived.Test.YtggpmlaappaopaaGreatDoorQpLst
import Derived.Test.YtggpmlaappaopaaGreatDoorQpMark
import Derived.Test.YtggpmlaappaopaaGreatDoorQpSep6
import Derived.Test.YtggpmlaappaopaaGreatDoorQpDoorIt
import Derived.Test.YtggpmlaappaopaaGreatDoorRows
import Derived.Test.YtggpmlaappaopaaGreatDoorQpRnd2
set_option linter.all false
set_option maxRecDepth 100000
set_option maxHeartbeats 1000000
namespace Go.Proofs.YtggpmlaappaopaaGreatDoor
open Go.RowKit
section
variable {P : Program} {ops : Array Oper} {Q : Exit → Act → World → Prop} {a : Act} {W w : World} {n i j d fuel : Nat} {D : List Deferred} {σ σ' : List (Nat × Value)} {o : Oper} {v : Value} {md : Region.Mode} {S : World → Prop} {K : Act → World → Prop} {listed : Array Bool} {fs fs' : List Fact} {ex : List Nat}
theorem s_d0 (h : Q .normal a w) (hi : ops.size = i := by exact rfl) : za P ops Q i a w := qbm hi h
theorem s_fs1 {id : Nat} {c : Code} {o2 : Array Oper} (h : za P o2 (Exit.then (fun a w => c.wp P Q a w) Q) 0 a w) : (Code.seq (.region id o2 false) c).wp P Q a w := wp_seq (qa h)
theorem s_ct {c : Operand} {x y : Code} (M : Fr a n D σ) (h : x.wp P Q a w) (hc : look σ c = some (.bool true) := by exact rfl) : (Code.cond c x y).wp P Q a w := qqw M hc h
theorem s_cf {c : Operand} {x y : Code} (M : Fr a n D σ) (h : y.wp P Q a w) (hc : look σ c = some (.bool false) := by exact rfl) : (Code.cond c x y).wp P Q a w := qe4 M hc h
theorem s_fz (M : Fr a n D σ) (O : Mem W w fs) (i : Nat) (ho : ops[i]? = some o) (hy : Yl P (fun wS => Mem W wS fs) σ o v) (k : ∀ a', Fr a' n D ((d, v) :: σ) → za P ops Q (i + 1) a' w) (hw : wantB ops σ o = some true := by exact rfl) (hd : o.dst = some d := by exact rfl) (hdn : d < n := by decide) : za P ops Q i a w := fy M O i ho hw hd hy k hdn
theorem s_fc {t : TypeId} {x : Operand} {g off : Nat} {cs : Array Value} {tb : TypeId} (M : Fr a n D σ) (O : Mem W w fs) (i j : Nat) (k : ∀ a', Fr a' n D ((d, v) :: σ) → za P ops Q (i + 1) a' w) (ho : ops[i]? = some o := by exact rfl) (hop : o.op = .load t x := by exact rfl) (hx : look σ x = some (.pointer (some ⟨g, off, none⟩)) := by exact rfl) (hi : fs[j]? = some (.blk g cs tb) := by exact rfl) (hv : cs[off]? = some v := by exact rfl) (hw : wantB ops σ o = some true := by exact rfl) (hd : o.dst = some d := by exact rfl) (ht : isOne P t = true := by kernel_rfl) (hdn : d < n := by decide) : za P ops Q i a w := fy M O i ho hw hd (Yl.qk hop hx ht fun _ h => h.cell hi hv) k hdn
theorem s_fl {t : TypeId} {x : Operand} {A : Option Addr} {m c : Nat} (M : Fr a n D σ) (i : Nat) (k : ∀ a', Fr a' n D ((d, .int .i64 (m : Int)) :: σ) → za P ops Q (i + 1) a' w) (ho : ops[i]? = some o := by exact rfl) (hop : o.op = .call { callee := .builtin .len, args := #[x], argTypes := #[t] } := by exact rfl) (hx : look σ x = some (.slice A m c) := by exact rfl) (hw : wantB ops σ o = some true := by exact rfl) (hd : o.dst = some d := by exact rfl) (ht : isSl P t = true := by kernel_rfl) (hdn : d < n := by decide) : za P ops Q i a w := qiy (S := fun _ => True) M trivial ho hw hd hdn (Yl.len hop hx ht) k
theorem s_fk {x : Operand} {p : Addr} (M : Fr a n D σ) (i : Nat) (k : ∀ a', Fr a' n D ((d, .pointer (some p)) :: σ) → za P ops Q (i + 1) a' w) (ho : ops[i]? = some o := by exact rfl) (hop : o.op = .nilCheck x := by exact rfl) (hx : look σ x = some (.pointer (some p)) := by exact rfl) (hw : wantB ops σ o = some true := by exact rfl) (hd : o.dst = some d := by exact rfl) (hdn : d < n := by decide) : za P ops Q i a w := qiy (S := fun _ => True) M trivial ho hw hd hdn (Yl.nilCheck hop hx) k
theorem Yl.o1 {α : Type} {F : α → Value} {l : List α} {g of m : Nat} {t : TypeId} {x : Operand} (hr : Rd W W.heap.size 1 (some ⟨g, of, none⟩) m (l.map F)) (kk : Nat) (dd : α) (hk : kk < l.length) (hop : o.op = .load t x) (hx : look σ x = some (.pointer (some ⟨g, of + kk * 1, none⟩))) (ht : isOne P t = true := by kernel_rfl) (hv : F (l.getD kk dd) = v := by exact rfl) : Yl P (fun wS => Mem W wS fs) σ o v := by
 subst hv
 exact Yl.qk hop hx ht fun _ h => (h.old hr).zu (k := kk) (zq (getD_at dd hk))
theorem Yl.r1 {α : Type} {F : α → Value} {l : List α} {g m c : Nat} {t e : TypeId} {x : Operand} (j kk : Nat) (dd : α) (hk : kk < l.length) (hop : o.op = .load t x) (hx : look σ x = some (.pointer (some ⟨g, kk * 1, none⟩))) (hi : fs[j]? = some (.row (.slice (some ⟨g, 0, none⟩) m c) m (l.map F) e 1)) (ht : isOne P t = true := by kernel_rfl) (hv : F (l.getD kk dd) = v := by exact rfl) : Yl P (fun wS => Mem W wS fs) σ o v := by
 subst hv
 exact Yl.qk hop hx ht fun _ h => h.q2v hi (zq (getD_at dd hk))
def bt (n : Nat) (l : List Nat) : Array Bool := ((List.range n).map fun i => !l.contains i).toArray
def bf (n : Nat) (l : List Nat) : Array Bool := ((List.range n).map fun i => l.contains i).toArray
theorem s_az (M : Fr a n D σ) (hS : S w) (i : Nat) (ho : ops[i]? = some o) (hy : Yl P S σ o v) (k : ∀ a', Fr a' n D ((d, v) :: σ) → q2 P md ops Q S ex fuel (listed.setIfInBounds i true) a' w) (hw : wantB ops σ o = some true := by exact rfl) (hd : o.dst = some d := by exact rfl)
  (hdn : d < n := by decide) (hok : qhs md ops ex listed i = true := by kernel_rfl) (hQ : ∀ c (a : Act) w, Q (.panic c) (a.put o.dst v) w → Q (.panic c) a w := by intro _ _ _ h; exact h) : q2 P md ops Q S ex (fuel + 1) listed a w := qm4 M hS ho hw hd hdn hok hQ hy k
theorem s_ac {t : TypeId} {x : Operand} {g off : Nat} {cs : Array Value} {tb : TypeId} (M : Fr a n D σ) (hS : Mem W w fs) (i j : Nat) (k : ∀ a', Fr a' n D ((d, v) :: σ) → q2 P md ops Q (fun wS => Mem W wS fs) ex fuel (listed.setIfInBounds i true) a' w) (ho : ops[i]? = some o := by exact rfl) (hop : o.op = .load t x := by exact rfl) (hx : look σ x = some (.pointer (some ⟨g, off, none⟩)) := by exact rfl) (hi : fs[j]? = some (.blk g cs tb) := by exact rfl) (hv : cs[off]? = some v := by exact rfl) (hw : wantB ops σ o = some true := by exact rfl) (hd : o.dst = some d := by exact rfl)
  (ht : isOne P t = true := by kernel_rfl) (hdn : d < n := by decide) (hok : qhs md ops ex listed i = true := by kernel_rfl) (hQ : ∀ c (a : Act) w, Q (.panic c) (a.put o.dst v) w → Q (.panic c) a w := by intro _ _ _ h; exact h) : q2 P md ops Q (fun wS => Mem W wS fs) ex (fuel + 1) listed a w := qm4 M hS ho hw hd hdn hok hQ (Yl.qk hop hx ht fun _ h => h.cell hi hv) k
theorem s_al {t : TypeId} {x : Operand} {A : Option Addr} {m c : Nat} (M : Fr a n D σ) (hS : S w) (i : Nat) (k : ∀ a', Fr a' n D ((d, .int .i64 (m : Int)) :: σ) → q2 P md ops Q S ex fuel (listed.setIfInBounds i true) a' w) (ho : ops[i]? = some o := by exact rfl) (hop : o.op = .call { callee := .builtin .len, args := #[x], argTypes := #[t] } := by exact rfl) (hx : look σ x = some (.slice A m c) := by exact rfl) (hw : wantB ops σ o = some true := by exact rfl) (hd : o.dst = some d := by exact rfl)
  (ht : isSl P t = true := by kernel_rfl) (hdn : d < n := by decide) (hok : qhs md ops ex listed i = true := by kernel_rfl) (hQ : ∀ c (a : Act) w, Q (.panic c) (a.put o.dst (.int .i64 (m : Int))) w → Q (.panic c) a w := by intro _ _ _ h; exact h) : q2 P md ops Q S ex (fuel + 1) listed a w := qm4 M hS ho hw hd hdn hok hQ (Yl.len hop hx ht) k
theorem s_an {x : Operand} {p : Addr} (M : Fr a n D σ) (hS : pastB ex listed = false → S w) (i : Nat) (k : ∀ a', Fr a' n D ((d, .pointer (some p)) :: σ) → q2 P md ops Q S ex fuel (listed.setIfInBounds i true) a' w) (ho : ops[i]? = some o := by exact rfl) (hop : o.op = .nilCheck x := by exact rfl) (hx : look σ x = some (.pointer (some p)) := by exact rfl) (hw : wantB ops σ o = some true := by exact rfl) (hd : o.dst = some d := by exact rfl)
  (hdn : d < n := by decide) (hok : qht md ops ex listed i = true := by kernel_rfl) (hQ : ∀ c (a : Act) w, Q (.panic c) (a.put o.dst (.pointer (some p))) w → Q (.panic c) a w := by intro _ _ _ h; exact h) : q2 P md ops Q S ex (fuel + 1) listed a w := qg M hS ho hw hd hdn hok hQ (fun _ => Yl.nilCheck hop hx) k
theorem s_am {x : Operand} {p : Addr} (M : Fr a n D σ) (hS : S w) (i : Nat) (k : ∀ a', Fr a' n D ((d, .pointer (some p)) :: σ) → q2 P md ops Q S ex fuel (listed.setIfInBounds i true) a' w) (ho : ops[i]? = some o := by exact rfl) (hop : o.op = .nilCheck x := by exact rfl) (hx : look σ x = some (.pointer (some p)) := by exact rfl) (hw : wantB ops σ o = some true := by exact rfl) (hd : o.dst = some d := by exact rfl)
  (hdn : d < n := by decide) (hok : qhs md ops ex listed i = true := by kernel_rfl) (hQ : ∀ c (a : Act) w, Q (.panic c) (a.put o.dst (.pointer (some p))) w → Q (.panic c) a w := by intro _ _ _ h; exact h) : q2 P md ops Q S ex (fuel + 1) listed a w := qm4 M hS ho hw hd hdn hok hQ (Yl.nilCheck hop hx) k
theorem s_on (M : Fr a n D σ) (i : Nat) (ho : ops[i]? = some o) (h : o.wp P a w (fun a' w' => (pastB ex (listed.setIfInBounds i true) = false → S w') ∧ q2 P md ops Q S ex fuel (listed.setIfInBounds i true) a' w') Q) (hr : Region.ready md ops listed = [i] := by kernel_rfl) (hw : wantB ops σ o = some true := by exact rfl) : q2 P md ops Q S ex (fuel + 1) listed a w := qw [i] hr rfl (all_cons (qq M ho hw h) all_nil)
theorem s_ek {f : FuncId} {xs : Array Operand} {ts : Array TypeId} {V : Option Addr → Nat → Value} {m sz : Nat} {e : TypeId} {ys : List Value} (M : Fr a n D σ) (O : Mem W w fs) (vs : List Value) (hC : Calls P f vs.toArray w (fun r w' => (∃ A c, r = .returned (V A c) ∧ w'.ownsRow w.heap.size e sz (.slice A m c) m ys ∧ m ≤ c) ∧ Below w.heap.size w w'))
  (k : ∀ A c w', m ≤ c → Mem W w' (.row (.slice A m c) m ys e sz :: fs) → ∀ a', Fr a' n D ((d, V A c) :: σ) → K a' w') (hop : o.op = .call { callee := .value (.func f), args := xs, argTypes := ts } := by exact rfl) (hd : o.dst = some d := by exact rfl) (hv : looks σ xs.toList = some vs := by kernel_rfl) (hf : callable P f = true := by kernel_rfl) (hdn : d < n := by decide) : o.wp P a w K Q :=
 e_cl M vs hop hd hC (fun e w' ⟨⟨A, c, h1, h2, h3⟩, h4⟩ => ⟨_, h1, fun a' M => k A c w' h3 (O.callRow h4 h2) a' M⟩) hv hf hdn
theorem s_em {f : FuncId} {xs : Array Operand} {ts : Array TypeId} (M : Fr a n D σ) (vs : List Value) (hC : Calls P f vs.toArray w (fun r w' => r = .returned v ∧ Mem W w' fs')) (k : ∀ w', Mem W w' fs' → ∀ a', Fr a' n D ((d, v) :: σ) → K a' w') (hop : o.op = .call { callee := .value (.func f), args := xs, argTypes := ts } := by exact rfl) (hd : o.dst = some d := by exact rfl) (hv : looks σ xs.toList = some vs := by kernel_rfl) (hf : callable P f = true := by kernel_rfl) (hdn : d < n := by decide) : o.wp P a w K Q :=
 e_cl M vs hop hd hC (fun e w' ⟨h1, h2⟩ => ⟨_, h1, k w' h2⟩) hv hf hdn
theorem s_ce {f N : Nat} {fn : Func} {c : Code} {R : Ending → World → Prop} (hf : P.funcs[f]? = some fn) (vs : List Value) (σ0 : List (Nat × Value)) (k : ∀ a, Fr a N [] σ0 → c.wp P (bodyPost P fn R) a w) (hb : fn.body = some c := by exact rfl) (hn : fn.ntmps = N := by exact rfl) (hl : decide (vs.length ≤ N) = true := by kernel_rfl) (h0 : qbw 0 vs = σ0 := by exact rfl) : Calls P f vs.toArray w R := qgi hf hb hn hl h0 k
theorem Mem.pk (h : Mem W w fs) (is : List Nat) (hn : is.Nodup := by decide) (he : Go.Proofs.YtggpmlaappaopaaGreatDoor.picks fs is = fs' := by exact rfl) : Mem W w fs' := h.picks is hn he
theorem Mem.pt (h : Mem W w fs) (n : Nat) (is : List Nat) (hn : is.Nodup := by decide) (hlt : (is.all (· < n)) = true := by decide) (he : Go.Proofs.YtggpmlaappaopaaGreatDoor.picks fs is ++ fs.drop n = fs' := by exact rfl) : Mem W w fs' := h.qyl n is hn hlt he
theorem s_ea (M : Fr a n D σ) (O : Mem W w fs) {e : TypeId} (cs : Array Value) (k : ∀ a' w' g, Fr a' n D ((d, .pointer (some ⟨g, 0, none⟩)) :: σ) → Mem W w' (.blk g cs e :: fs) → K a' w') (hop : o.op = .alloc e := by exact rfl) (hz : qan P e = some cs := by kernel_rfl) (hd : o.dst = some d := by exact rfl) (hdn : d < n := by decide) : o.wp P a w K Q := qyo M O hop hz hd hdn k
theorem s_eb (M : Fr a n D σ) (O : Mem W w fs) {e : TypeId} {x : Operand} (cs : Array Value) (k : ∀ a' w' g, Fr a' n D ((d, .pointer (some ⟨g, 0, none⟩)) :: σ) → Mem W w' (.blk g cs e :: fs) → K a' w') (hop : o.op = .box e x := by exact rfl) (hx : look σ x = some v := by exact rfl) (hc : v.cells = cs := by exact rfl) (hd : o.dst = some d := by exact rfl) (hdn : d < n := by decide) : o.wp P a w K Q := e_box M O hop hx hc hd hdn k
theorem s_es (M : Fr a n D σ) (O : Mem W w fs) (i : Nat) {t : TypeId} {x y : Operand} {g off : Nat} {cs : Array Value} {tb : TypeId} (k : ∀ w', Mem W w' (fs.set i (.blk g (cs.setIfInBounds off v) tb)) → K a w') (hop : o.op = .store t x y := by exact rfl) (hd : o.dst = none := by exact rfl) (hx : look σ x = some (.pointer (some ⟨g, off, none⟩)) := by exact rfl) (hy : look σ y = some v := by exact rfl) (hs : (P.info? t).map (·.size) = some 1 := by kernel_rfl) (hv : v.oneCell' = true := by exact rfl) (hi : fs[i]? = some (.blk g cs tb) := by exact rfl) (ho : off < cs.size := by simp) : o.wp P a w K Q := qlt M O hop hd hx hy hs hv hi ho k
theorem s_el {t len e : Nat} {ps : Array (Nat × Operand)} {z : Value} {size bytes : Nat} (M : Fr a n D σ) (O : Mem W w fs) (ei : EI P t e z size bytes) (vs : List (Nat × Value)) (cs : Array Value) (k : ∀ a' w' g, Fr a' n D ((d, .slice (some ⟨g, 0, none⟩) len len) :: σ) → Mem W w' (.blk g cs e :: fs) → K a' w') (hop : o.op = .buildSlice t len ps := by exact rfl) (hl : decide (0 < len ∧ len * size ≤ 16777216) = true := by decide) (hv : qbv σ ps.toList = some vs := by exact rfl)
  (hf : Instr.fill (fun i => some (i * size, size)) (qe3 z.cells (len * size)) vs = some cs := by kernel_rfl) (hd : o.dst = some d := by exact rfl) (hdn : d < n := by decide) : o.wp P a w K Q := qyp M O hop ei hl hv hf hd hdn k
section
variable {fn : Func} {R : Ending → World → Prop} {t1 t2 t3 : Nat} {v1 v2 v3 : Value}
theorem s_rt1 (hr : fn.results = #[.tmp t1]) (M : Fr a n [] σ) (h1 : σ.lookup t1 = some v1) (hR : R (.returned v1) w) : bodyPost P fn R .ret a w := ret1 hr M (.tmp M h1) hR
theorem s_rt2 (hr : fn.results = #[.tmp t1, .tmp t2]) (M : Fr a n [] σ) (h1 : σ.lookup t1 = some v1) (h2 : σ.lookup t2 = some v2) (hR : R (.returned (.tuple #[v1, v2])) w) : bodyPost P fn R .ret a w := ret2 hr M (.tmp M h1) (.tmp M h2) hR
theorem s_rt3 (hr : fn.results = #[.tmp t1, .tmp t2, .tmp t3]) (M : Fr a n [] σ) (h1 : σ.lookup t1 = some v1) (h2 : σ.lookup t2 = some v2) (h3 : σ.lookup t3 = some v3) (hR : R (.returned (.tuple #[v1, v2, v3])) w) : bodyPost P fn R .ret a w := ret3 hr M (.tmp M h1) (.tmp M h2) (.tmp M h3) hR
end
end
def grL (x : Gr) : List Value := [.int .i64 x.parent, .int .i64 x.weight]
def tkL (x : Tk) : List Value := [.int .i64 x.id, .int .i64 x.group, .int .i64 x.weight, .int .i64 x.cpu, .int .u64 (x.mask : Int), .bool x.ready, .int .u64 (x.v : Int), .int .u32 (x.r : Int)]
def spL (x : Sp) : List Value := [.int .u64 (x.v : Int), .int .u32 (x.r : Int), .int .u64 (x.floor : Int)]
def Gr.cells (x : Gr) : Array Value := #[.int .i64 x.parent, .int .i64 x.weight]
def Tk.cells (x : Tk) : Array Value := #[.int .i64 x.id, .int .i64 x.group, .int .i64 x.weight, .int .i64 x.cpu, .int .u64 (x.mask : Int), .bool x.ready, .int .u64 (x.v : Int), .int .u32 (x.r : Int)]
def Sp.cells (x : Sp) : Array Value := #[.int .u64 (x.v : Int), .int .u32 (x.r : Int), .int .u64 (x.floor : Int)]
theorem zx (x : Gr) : (grL x).length = 2 := rfl
theorem z7 (x : Tk) : (tkL x).length = 8 := rfl
theorem qau (x : Sp) : (spL x).length = 3 := rfl
theorem qkc (x : Tk) : ∀ v ∈ x.cells.toList, v.oneCell' = true := by simp [Tk.cells, Value.oneCell']
theorem qxg (x : Sp) : ∀ v ∈ x.cells.toList, v.oneCell' = true := by simp [Sp.cells, Value.oneCell']
structure Rw where
 A : Option Addr
 c : Nat
 l : List Sp
def Rw.zero : Rw := ⟨none, 0, []⟩
def Rw.val (x : Rw) : Value := .slice x.A x.l.length x.c
def Rw.own (x : Rw) : Own := ⟨x.A, x.l.length, x.c, x.l.flatMap spL⟩
structure Stm where
 cpus : Int
 credit : Nat
 gA : Option Addr
 gc : Nat
 gs : List Gr
 lA : Option Addr
 lc : Nat
 cl : List Int
 uA : Option Addr
 uc : Nat
 cu : List Int
 tA : Option Addr
 tc : Nat
 ts : List Tk
 sA : Option Addr
 sc : Nat
 rs : List Rw
def Stm.sta (x : Stm) : Sta := ⟨x.cpus, x.credit, x.gs, x.cl, x.cu, x.ts, x.rs.map Rw.l⟩
def Stm.cells (x : Stm) : Array Value := #[.int .i64 x.cpus, .int .u64 (x.credit : Int), .slice x.gA x.gs.length x.gc, .slice x.lA x.cl.length x.lc, .slice x.uA x.cu.length x.uc, .slice x.tA x.ts.length x.tc, .slice x.sA x.rs.length x.sc]
theorem qgq (x : Stm) : ∀ v ∈ x.cells.toList, v.oneCell' = true := by simp [Stm.cells, Value.oneCell']
structure StRd (w : World) (x : Stm) : Prop where
 g : Rd w w.heap.size 2 x.gA x.gs.length (x.gs.flatMap grL)
 l : Rd w w.heap.size 1 x.lA x.cl.length (x.cl.map I64i)
 u : Rd w w.heap.size 1 x.uA x.cu.length (x.cu.map I64i)
 t : Rd w w.heap.size 8 x.tA x.ts.length (x.ts.flatMap tkL)
 s : Rd w w.heap.size 1 x.sA x.rs.length (x.rs.map Rw.val)
 r : ∀ y ∈ x.rs, Rd w w.heap.size 3 y.A y.l.length (y.l.flatMap spL)
structure StCap (x : Stm) : Prop where
 g : x.gs.length ≤ x.gc
 l : x.cl.length ≤ x.lc
 u : x.cu.length ≤ x.uc
 t : x.ts.length ≤ x.tc
 s : x.rs.length ≤ x.sc
 r : ∀ y ∈ x.rs, y.l.length ≤ y.c
structure StFew (x : Stm) : Prop where
 g : x.gs.length ≤ 1000000
 l : x.cl.length ≤ 1000000
 u : x.cu.length ≤ 1000000
 t : x.ts.length ≤ 1000000
 s : x.rs.length ≤ 1000000
 r : ∀ y ∈ x.rs, y.l.length ≤ 1000000
theorem StRd.old {W w : World} {fs : List Fact} {x : Stm} (h : StRd W x) (O : Mem W w fs) : StRd w x := ⟨O.old h.g, O.old h.l, O.old h.u, O.old h.t, O.old h.s, fun y hy => O.old (h.r y hy)⟩
theorem rs_at {x : Stm} {g : Nat} (h : g < x.rs.length) : x.sta.sp.getD g [] = (x.rs.getD g Rw.zero).l := by
 show (x.rs.map Rw.l).getD g [] = _
 rw [List.getD_eq_getElem?_getD, List.getD_eq_getElem?_getD, List.getElem?_map, List.getElem?_eq_getElem h]
 rfl
theorem StRd.row {w : World} {x : Stm} (h : StRd w x) {g : Nat} (hg : g < x.rs.length) : Rd w w.heap.size 3 (x.rs.getD g Rw.zero).A (x.rs.getD g Rw.zero).l.length ((x.rs.getD g Rw.zero).l.flatMap spL) := h.r _ (qr Rw.zero hg)
theorem si_gr : SI Tryz.prog 40 2 := ⟨by kernel_rfl, by kernel_rfl⟩
theorem si_tk : SI Tryz.prog 46 8 := ⟨by kernel_rfl, by kernel_rfl⟩
theorem si_sp : SI Tryz.prog 43 3 := ⟨by kernel_rfl, by kernel_rfl⟩
theorem qbo : SI Tryz.prog 25 3 := ⟨by kernel_rfl, by kernel_rfl⟩
theorem si_st : SI Tryz.prog 30 7 := ⟨by kernel_rfl, by kernel_rfl⟩
theorem qxh : SI Tryz.prog 183 3 := ⟨by kernel_rfl, by kernel_rfl⟩
theorem qrd : SI Tryz.prog 200 3 := ⟨by kernel_rfl, by kernel_rfl⟩
theorem z6 : SI Tryz.prog 32 8 := ⟨by kernel_rfl, by kernel_rfl⟩
theorem zn : SI Tryz.prog 56 8 := ⟨by kernel_rfl, by kernel_rfl⟩
theorem ei_gr : EI Tryz.prog 23 40 (.agg Gr.zero.cells) 2 16 := ⟨by kernel_rfl, by kernel_rfl, rfl, by omega⟩
theorem ei_tk : EI Tryz.prog 27 46 (.agg Tk.zero.cells) 8 64 := ⟨by kernel_rfl, by kernel_rfl, rfl, by omega⟩
theorem ei_sp : EI Tryz.prog 44 43 (.agg Sp.zero.cells) 3 24 := ⟨by kernel_rfl, by kernel_rfl, rfl, by omega⟩
theorem ei_rw : EI Tryz.prog 28 44 (.slice none 0 0) 1 24 := ⟨by kernel_rfl, by kernel_rfl, rfl, by omega⟩
section
variable {w w' : World} {p q : Prop} [Decidable p] [Decidable q]
theorem qh0 (h : q ↔ p) (hb : Below w.heap.size w w') : Is w (.bool (decide p)) (.returned (.bool (decide q))) w' := ⟨by rw [decide_eq_decide.2 h], hb⟩
theorem qh1 (h : p) (hb : Below w.heap.size w w') : Is w (.bool (decide p)) (.returned (.bool true)) w' := ⟨by rw [decide_eq_true h], hb⟩
theorem is_no (h : ¬ p) (hb : Below w.heap.size w w') : Is w (.bool (decide p)) (.returned (.bool false)) w' := ⟨by rw [decide_eq_false h], hb⟩
theorem is_as {a b : Bool} (h : a = b) (hb : Below w.heap.size w w') : Is w (.bool b) (.returned (.bool a)) w' := h ▸ ⟨rfl, hb⟩
end
theorem qci {l : List Gr} (h : ¬ (1 ≤ l.length ∧ l.length ≤ 256 ∧ l.getD 0 Gr.zero = ⟨0, 1⟩)) : gsOk l = false := by unfold gsOk; rw [decide_eq_false h, Bool.false_and]
theorem qe7 {l : List Gr} {g : Nat} (hg : g < l.length) (h : gOk l g = false) : gsOk l = false := by unfold gsOk; rw [q8 hg h, Bool.and_false]
theorem qnb {l : List Gr} (h : 1 ≤ l.length ∧ l.length ≤ 256 ∧ l.getD 0 Gr.zero = ⟨0, 1⟩) (hu : UpTo l.length (gOk l)) : gsOk l = true := by unfold gsOk; rw [decide_eq_true h, hu.all]; rfl
theorem qnc (l : List Gr) : gOk l 0 = true := rfl
theorem qh2 {l : List Gr} {g : Nat} (h0 : 0 < g) (h : ¬ (0 ≤ (l.getD g Gr.zero).parent ∧ (l.getD g Gr.zero).parent < g ∧ (1 ≤ (l.getD g Gr.zero).weight ∧ (l.getD g Gr.zero).weight ≤ 65536) ∧ depG l g ≤ 4)) : gOk l g = false := by
 unfold gOk wOk
 rw [Bool.or_eq_false_iff, beq_eq_false_iff_ne, decide_eq_false_iff_not, decide_eq_true_eq]
 exact ⟨by omega, h⟩
theorem qre {l : List Gr} {g : Nat} (h : 0 ≤ (l.getD g Gr.zero).parent ∧ (l.getD g Gr.zero).parent < g ∧ (1 ≤ (l.getD g Gr.zero).weight ∧ (l.getD g Gr.zero).weight ≤ 65536) ∧ depG l g ≤ 4) : gOk l g = true := by
 unfold gOk wOk
 rw [Bool.or_eq_true, decide_eq_true_eq, decide_eq_true_eq]
 exact .inr h
theorem qrf {l : List Gr} {g : Nat} (hu : UpTo g (gOk l)) (h : 0 ≤ (l.getD g Gr.zero).parent ∧ (l.getD g Gr.zero).parent < g) : ∀ i, 0 < i → i ≤ g → ParB l i := fun i h0 hi => by
 rcases Nat.lt_or_ge i g with h1 | h1
 ·exact qiv (hu i h1) h0
 ·obtain rfl : i = g := by omega
  exact h
theorem qnd (x y : Gr) : zt Tryz.prog 4 40 (.agg x.cells) (.agg y.cells) = some (decide (x = y)) := by
 have h : zt Tryz.prog 4 40 (.agg x.cells) (.agg y.cells) = some ((x.parent == y.parent) && ((x.weight == y.weight) && true)) := by kernel_rfl
 refine h.trans (congrArg some ?_)
 obtain ⟨a, b⟩ := x
 obtain ⟨c, d⟩ := y
 rw [Bool.eq_iff_iff]
 simp only [Bool.and_eq_true, beq_iff_eq, decide_eq_true_eq, Gr.mk.injEq, and_true]
theorem qyv {m n : Nat} (h : 1 ≤ n) : (((m / 2 ^ (n - 1) / 2 : Nat) : Int) != (0 : Int)) = decide (2 ^ n ≤ m) := by
 have e : m / 2 ^ (n - 1) / 2 = m / 2 ^ n := by rw [Nat.div_div_eq_div_mul, ← Nat.pow_succ, show (n - 1).succ = n by omega]
 rw [e, Bool.eq_iff_iff, bne_iff_ne, decide_eq_true_eq]
 have h1 := @Nat.div_pos_iff m (2 ^ n)
 have h2 : 0 < 2 ^ n := Nat.two_pow_pos n
 generalize m / 2 ^ n = q at *
 constructor
 ·intro h3
  exact (h1.1 (by omega)).2
 ·intro h3
  have := h1.2 ⟨h2, h3⟩
  omega
section
variable {x : Stm} {t : Tk}
theorem qcr (h : ¬ (1 ≤ t.id ∧ t.id ≤ 65535 ∧ 0 ≤ t.group ∧ t.group < x.rs.length ∧ 0 ≤ t.cpu ∧ t.cpu < x.cpus)) : tkOk1 x.sta t = false := by
 unfold tkOk1
 rw [decide_eq_false (by rwa [show x.sta.sp.length = x.rs.length from List.length_map ..]), Bool.false_and]
theorem qrg (h : ¬ (1 ≤ t.weight ∧ t.weight ≤ 65536)) : tkOk1 x.sta t = false := by unfold tkOk1 wOk; rw [decide_eq_false h, Bool.false_and, Bool.and_false]
theorem qxj (h : 2 ^ x.cpus.toNat ≤ t.mask) : tkOk1 x.sta t = false := by
 unfold tkOk1 qqp
 rw [show decide (2 ^ x.sta.cpus.toNat ≤ t.mask) = true from decide_eq_true h]
 simp
theorem qxk (h : ¬ t.mask / 2 ^ t.cpu.toNat % 2 = 1) : tkOk1 x.sta t = false := by unfold tkOk1; rw [decide_eq_false h]; simp
theorem qrh (h : 1 ≤ t.id ∧ t.id ≤ 65535 ∧ 0 ≤ t.group ∧ t.group < x.rs.length ∧ 0 ≤ t.cpu ∧ t.cpu < x.cpus) (h2 : 1 ≤ t.weight ∧ t.weight ≤ 65536) (h3 : ¬ 2 ^ x.cpus.toNat ≤ t.mask) (h4 : t.mask / 2 ^ t.cpu.toNat % 2 = 1) : tkOk1 x.sta t = entOk t.v t.r t.weight := by
 unfold tkOk1 wOk qqp
 rw [decide_eq_true (by rwa [show x.sta.sp.length = x.rs.length from List.length_map ..]), decide_eq_true h2, show decide (2 ^ x.sta.cpus.toNat ≤ t.mask) = false from decide_eq_false h3, decide_eq_true h4]
 simp
theorem qh3 (h : ¬ (1 ≤ x.cpus ∧ x.cpus ≤ 64 ∧ x.credit ≤ 1099511627776)) : cfgOk x.sta = false := by unfold cfgOk; rw [show decide (1 ≤ x.sta.cpus ∧ x.sta.cpus ≤ 64 ∧ x.sta.credit ≤ 1099511627776) = false from decide_eq_false h]; rfl
theorem qri (h : 1 ≤ x.cpus ∧ x.cpus ≤ 64 ∧ x.credit ≤ 1099511627776) : cfgOk x.sta = gsOk x.gs := by unfold cfgOk; rw [show decide (1 ≤ x.sta.cpus ∧ x.sta.cpus ≤ 64 ∧ x.sta.credit ≤ 1099511627776) = true from decide_eq_true h]; rfl
theorem qdg (h : cfgOk x.sta = true) : 1 ≤ x.cpus ∧ x.cpus ≤ 64 ∧ x.credit ≤ 1099511627776 ∧ gsOk x.gs = true := by
 unfold cfgOk at h
 rw [Bool.and_eq_true, decide_eq_true_eq] at h
 exact ⟨h.1.1, h.1.2.1, h.1.2.2, h.2⟩
end
def BadAt (w : World) (n : Nat) (p : Nat → Bool) (r : Ending) (w' : World) : Prop := (∃ i : Int, r = .returned (.int .i64 i) ∧ decide (i ≥ 0) = !allN n p) ∧ Below w.heap.size w w'
theorem qpb {w w' : World} {n k : Nat} {p : Nat → Bool} (hk : k < n) (h : p k = false) (hb : Below w.heap.size w w') : BadAt w n p (.returned (.int .i64 (k : Int))) w' := ⟨⟨k, rfl, by rw [q8 hk h, decide_eq_true (by omega)]; rfl⟩, hb⟩
theorem qpc {w w' : World} {n : Nat} {p : Nat → Bool} (hu : UpTo n p) (hb : Below w.heap.size w w') : BadAt w n p (.returned (.int .i64 (-1))) w' := ⟨⟨-1, rfl, by rw [hu.all]; rfl⟩, hb⟩
def qgv (w : World) (l : List Gr) (r : Ending) (w' : World) : Prop := (∃ i e : Int, r = .returned (.tuple #[.int .i64 i, .int .i64 e]) ∧ ((e == 0) = gsOk l)) ∧ Below w.heap.size w w'
theorem qa4 {w w' : World} {l : List Gr} {i e : Int} (h : gsOk l = false) (he : e ≠ 0) (hb : Below w.heap.size w w') : qgv w l (.returned (.tuple #[.int .i64 i, .int .i64 e])) w' := ⟨⟨i, e, rfl, by rw [h]; exact beq_false_of_ne he⟩, hb⟩
theorem ql2 {w w' : World} {l : List Gr} {i : Int} (h : gsOk l = true) (hb : Below w.heap.size w w') : qgv w l (.returned (.tuple #[.int .i64 i, .int .i64 0])) w' := ⟨⟨i, 0, rfl, by rw [h]; rfl⟩, hb⟩
section
variable {x : Stm} {g c i : Nat}
theorem qaz : x.sta.sp.length = x.rs.length := List.length_map ..
theorem qe8 : qm3 x.sta = decide ((x.cl.length : Int) = x.cpus ∧ (x.cu.length : Int) = x.cpus ∧ x.rs.length = x.gs.length) := by unfold qm3; rw [qaz]; rfl
theorem q1c (h : cfgOk x.sta = false) : zg x.sta = false := by unfold zg; rw [h]; rfl
theorem qrj (h : ¬ ((x.cl.length : Int) = x.cpus ∧ (x.cu.length : Int) = x.cpus ∧ x.rs.length = x.gs.length)) : zg x.sta = false := by unfold zg; rw [qe8, decide_eq_false h, Bool.and_false, Bool.false_and]
theorem sh_cl (h : allN x.cl.length (fun c => clOk (x.cl.getD c 0)) = false) : zg x.sta = false := by unfold zg; rw [show allN x.sta.cl.length (fun c => clOk (x.sta.cl.getD c 0)) = false from h]; simp
theorem qxl (hg : g < x.rs.length) (h : rowOk x.sta g = false) : zg x.sta = false := by unfold zg; rw [q8 (n := x.sta.sp.length) (by rwa [qaz]) h]; simp
theorem sh_tk (hi : i < x.ts.length) (h : tkAt x.sta i = false) : zg x.sta = false := by unfold zg; rw [q8 (n := x.sta.ts.length) hi h]; simp
theorem q1d (h1 : cfgOk x.sta = true) (h2 : (x.cl.length : Int) = x.cpus ∧ (x.cu.length : Int) = x.cpus ∧ x.rs.length = x.gs.length) (h3 : allN x.cl.length (fun c => clOk (x.cl.getD c 0)) = true) (h4 : UpTo x.rs.length (rowOk x.sta)) (h5 : UpTo x.ts.length (tkAt x.sta)) : zg x.sta = true := by
 unfold zg
 rw [h1, qe8, decide_eq_true h2, show allN x.sta.cl.length (fun c => clOk (x.sta.cl.getD c 0)) = true from h3, qaz, h4.all, show allN x.sta.ts.length (tkAt x.sta) = true from h5.all]
 rfl
structure ShAt (x : Stm) : Prop where
 cfg : cfgOk x.sta = true
 cl : (x.cl.length : Int) = x.cpus
 cu : (x.cu.length : Int) = x.cpus
 rs : x.rs.length = x.gs.length
 cls : ∀ c, c < x.cl.length → clOk (x.cl.getD c 0) = true
 row : ∀ g, g < x.rs.length → rowOk x.sta g = true
 tk : ∀ i, i < x.ts.length → tkAt x.sta i = true
theorem sh_at (h : zg x.sta = true) : ShAt x := by
 unfold zg at h
 simp only [Bool.and_eq_true] at h
 obtain ⟨⟨h1, h2⟩, h3, h4, h5⟩ := h
 rw [qe8, decide_eq_true_eq] at h2
 rw [qaz] at h4
 exact ⟨h1, h2.1, h2.2.1, h2.2.2, fun c hc => qcb h3 hc, fun g hg => qcb h4 hg, fun i hi => qcb h5 hi⟩
theorem qne (hg : g < x.rs.length) : rowOk x.sta g = (decide (((x.rs.getD g Rw.zero).l.length : Int) = x.cpus) && allN (x.rs.getD g Rw.zero).l.length fun c => spOk x.sta g ((x.rs.getD g Rw.zero).l.getD c Sp.zero)) := by
 unfold rowOk Sta.spot
 rw [rs_at hg]
 rfl
theorem qrk (hg : g < x.rs.length) (h : ((x.rs.getD g Rw.zero).l.length : Int) ≠ x.cpus) : rowOk x.sta g = false := by rw [qne hg, decide_eq_false h]; rfl
theorem qrl (hg : g < x.rs.length) (hc : c < (x.rs.getD g Rw.zero).l.length) (h : spOk x.sta g ((x.rs.getD g Rw.zero).l.getD c Sp.zero) = false) : rowOk x.sta g = false := by rw [qne hg, q8 hc h, Bool.and_false]
theorem qrm (hg : g < x.rs.length) (h : ((x.rs.getD g Rw.zero).l.length : Int) = x.cpus) (hu : UpTo (x.rs.getD g Rw.zero).l.length (fun c => spOk x.sta g ((x.rs.getD g Rw.zero).l.getD c Sp.zero))) : rowOk x.sta g = true := by rw [qne hg, decide_eq_true h, hu.all]; rfl
theorem qgw (hg : g < x.rs.length) (h : rowOk x.sta g = true) : ((x.rs.getD g Rw.zero).l.length : Int) = x.cpus ∧ ∀ c, c < (x.rs.getD g Rw.zero).l.length → spOk x.sta g ((x.rs.getD g Rw.zero).l.getD c Sp.zero) = true := by
 rw [qne hg, Bool.and_eq_true, decide_eq_true_eq] at h
 exact ⟨h.1, fun c hc => qcb h.2 hc⟩
variable {z : Sp}
theorem qxm (h : entOk z.v z.r (x.gs.getD g Gr.zero).weight = false) : spOk x.sta g z = false := by unfold spOk; rw [show entOk z.v z.r (x.sta.gs.getD g Gr.zero).weight = false from h]; rfl
theorem qxn (h0 : g = 0) (h : ¬ (z.v = 0 ∧ z.r = 0)) : spOk x.sta g z = false := by unfold spOk; rw [decide_eq_false h, h0]; simp
theorem qrn (h : entOk z.v z.r (x.gs.getD g Gr.zero).weight = true) (h0 : g ≠ 0) : spOk x.sta g z = true := by unfold spOk; rw [show entOk z.v z.r (x.sta.gs.getD g Gr.zero).weight = true from h]; simp [h0]
theorem qro (h : entOk z.v z.r (x.gs.getD g Gr.zero).weight = true) (h0 : g = 0) (hv : z.v = 0) : ((z.r : Int) != (0 : Int)) = !spOk x.sta g z := by
 unfold spOk
 rw [show entOk z.v z.r (x.sta.gs.getD g Gr.zero).weight = true from h, h0, hv]
 rw [Bool.eq_iff_iff, bne_iff_ne]
 simp
theorem qrp (h0 : i = 0 ∨ (x.ts.getD (i - 1) Tk.zero).id < (x.ts.getD i Tk.zero).id) : tkAt x.sta i = tkOk1 x.sta (x.ts.getD i Tk.zero) := by
 unfold tkAt
 rw [show (i == 0 || decide ((x.sta.ts.getD (i - 1) Tk.zero).id < (x.sta.ts.getD i Tk.zero).id)) = true from by rw [Bool.or_eq_true, beq_iff_eq, decide_eq_true_eq]; exact h0]
 rfl
theorem qnf (h0 : 0 < i) (h : ¬ (x.ts.getD (i - 1) Tk.zero).id < (x.ts.getD i Tk.zero).id) : tkAt x.sta i = false := by
 unfold tkAt
 rw [show decide ((x.sta.ts.getD (i - 1) Tk.zero).id < (x.sta.ts.getD i Tk.zero).id) = false from decide_eq_false h, show (i == 0) = false from by rw [beq_eq_false_iff_ne]; omega]
 rfl
theorem qng (h : tkOk1 x.sta (x.ts.getD i Tk.zero) = false) : tkAt x.sta i = false := by unfold tkAt; rw [show tkOk1 x.sta (x.sta.ts.getD i Tk.zero) = false from h, Bool.and_false]
theorem qvc (h0 : i = 0 ∨ (x.ts.getD (i - 1) Tk.zero).id < (x.ts.getD i Tk.zero).id) (h : tkOk1 x.sta (x.ts.getD i Tk.zero) = true) : tkAt x.sta i = true := by
 unfold tkAt
 rw [show tkOk1 x.sta (x.sta.ts.getD i Tk.zero) = true from h, Bool.and_true, Bool.or_eq_true, beq_iff_eq, decide_eq_true_eq]
 exact h0
theorem qi5 (h : tkAt x.sta i = true) : (i = 0 ∨ (x.ts.getD (i - 1) Tk.zero).id < (x.ts.getD i Tk.zero).id) ∧ tkOk1 x.sta (x.ts.getD i Tk.zero) = true := by
 unfold tkAt at h
 rw [Bool.and_eq_true, Bool.or_eq_true, beq_iff_eq, decide_eq_true_eq] at h
 exact h
end
theorem wt_at {l : List Gr} (h : gsOk l = true) {g : Nat} (hg : g < l.length) : 1 ≤ (l.getD g Gr.zero).weight ∧ (l.getD g Gr.zero).weight ≤ 65536 := by
 obtain ⟨_, _, h3, h4⟩ := qga h
 rcases Nat.eq_zero_or_pos g with h0 | h0
 ·subst h0; rw [h3]; decide
 ·have := h4 g hg
  unfold gOk wOk at this
  rw [Bool.or_eq_true, beq_iff_eq, decide_eq_true_eq, decide_eq_true_eq] at this
  rcases this with h | h
  ·omega
  ·exact h.2.2.1
def cmpI (a b : Int) : Int := if a < b then -1 else if b < a then 1 else 0
theorem qrq {a b : Int} : decide (cmpI a b < 0) = decide (a < b) := by
 unfold cmpI
 split
 ·rename_i h; rw [decide_eq_true h]; rfl
 ·rename_i h; rw [decide_eq_false h]; split <;> rfl
theorem qrr {a b : Int} : (cmpI a b == 0) = decide (a = b) := by
 unfold cmpI
 split
 ·rename_i h; rw [decide_eq_false (by omega)]; rfl
 ·split
  ·rw [decide_eq_false (by omega)]; rfl
  ·rw [decide_eq_true (by omega)]; rfl
theorem qyw {a b : Int} : (cmpI a b != 0) = decide (a ≠ b) := by
 rw [bne, qrr, decide_not]
def SortT (l : List Tk) : Prop := ∀ i j, i < j → j < l.length → (l.getD i Tk.zero).id < (l.getD j Tk.zero).id
theorem qyx {x : Stm} (h : ShAt x) : SortT x.ts := by
 have step : ∀ i, i + 1 < x.ts.length → (x.ts.getD i Tk.zero).id < (x.ts.getD (i + 1) Tk.zero).id := fun i hi => by
  have := (qi5 (h.tk (i + 1) hi)).1
  rw [Nat.add_sub_cancel] at this
  rcases this with h | h
  ·omega
  ·exact h
 intro i j hij
 induction j with
 | zero => omega
 | succ j ih =>
  intro hj
  have h1 := step j hj
  rcases Nat.lt_or_ge i j with h2 | h2
  ·have := ih h2 (by omega); omega
  ·obtain rfl : i = j := by omega
   exact h1
theorem qki {l : List Tk} {id : Int} {i : Nat} (hi : i < l.length) (h : (l.getD i Tk.zero).id = id) (hn : ∀ k, k < i → (l.getD k Tk.zero).id ≠ id) : findS l id = some i := by
 unfold findS
 rw [List.findIdx?_eq_some_iff_getElem]
 have e : ∀ k (hk : k < l.length), l.getD k Tk.zero = l[k] := fun k hk => by rw [List.getD_eq_getElem?_getD, List.getElem?_eq_getElem hk]; rfl
 refine ⟨hi, by rw [← e i hi]; exact beq_iff_eq.2 h, fun k hk => ?_⟩
 have := hn k hk
 rw [e k (by omega)] at this
 simpa using this
theorem qgx {l : List Tk} {id : Int} (hn : ∀ k, k < l.length → (l.getD k Tk.zero).id ≠ id) : findS l id = none := by
 unfold findS
 rw [List.findIdx?_eq_none_iff]
 intro t ht
 obtain ⟨k, hk, rfl⟩ := List.getElem_of_mem ht
 have := hn k hk
 rw [List.getD_eq_getElem?_getD, List.getElem?_eq_getElem hk] at this
 simpa using this
theorem qrs {l : List Tk} {id : Int} {i : Nat} (h : findS l id = some i) : i < l.length ∧ (l.getD i Tk.zero).id = id := by
 unfold findS at h
 rw [List.findIdx?_eq_some_iff_getElem] at h
 obtain ⟨hi, h1, _⟩ := h
 exact ⟨hi, by rw [List.getD_eq_getElem?_getD, List.getElem?_eq_getElem hi]; exact beq_iff_eq.1 h1⟩
def fidx (l : List Tk) (id : Int) : Int := match findS l id with
 | some i => (i : Int)
 | none => -1
def qf0 (w : World) (l : List Tk) (id : Int) (r : Ending) (w' : World) : Prop := (∃ (i : Nat) (b : Bool), r = .returned (.tuple #[.int .i64 (i : Int), .bool b]) ∧ i ≤ l.length ∧ (if b = true then (i : Int) else -1) = fidx l id) ∧ Below w.heap.size w w'
theorem qrt {w w' : World} {l : List Tk} {id : Int} {i : Nat} (hs : SortT l) (hi : i < l.length) (h1 : ∀ k, k < i → (l.getD k Tk.zero).id < id) (h2 : ∀ k, i ≤ k → k < l.length → id ≤ (l.getD k Tk.zero).id) (hb : Below w.heap.size w w') : qf0 w l id (.returned (.tuple #[.int .i64 (i : Int), .bool (decide ((l.getD i Tk.zero).id = id))])) w' := by
 refine ⟨⟨i, _, rfl, by omega, ?_⟩, hb⟩
 unfold fidx
 by_cases h : (l.getD i Tk.zero).id = id
 ·rw [decide_eq_true h, if_pos rfl, qki hi h (fun k hk => by have := h1 k hk; omega)]
 ·rw [decide_eq_false h, if_neg (by decide), qgx (fun k hk => ?_)]
  rcases Nat.lt_or_ge k i with h3 | h3
  ·have := h1 k h3; omega
  ·have h4 := h2 i (Nat.le_refl _) hi
   rcases Nat.lt_or_ge i k with h5 | h5
   ·have := hs i k h5 hk; omega
   ·obtain rfl : k = i := by omega
    exact h
theorem search_end {w w' : World} {l : List Tk} {id : Int} (h1 : ∀ k, k < l.length → (l.getD k Tk.zero).id < id) (hb : Below w.heap.size w w') : qf0 w l id (.returned (.tuple #[.int .i64 (l.length : Int), .bool false])) w' := by
 refine ⟨⟨_, _, rfl, Nat.le_refl _, ?_⟩, hb⟩
 unfold fidx
 rw [if_neg (by decide), qgx (fun k hk => by have := h1 k hk; omega)]
theorem qd7 {x : Stm} {c : Nat} (h0 : x.cu.getD c 0 ≠ 0) {i : Nat} (hi : findS x.ts (x.cu.getD c 0) = some i) : curOk x.sta c = ((x.ts.getD i Tk.zero).ready && decide ((x.ts.getD i Tk.zero).cpu = c)) := by
 unfold curOk
 rw [show findS x.sta.ts (x.sta.cu.getD c 0) = some i from hi, show decide (x.sta.cu.getD c 0 = 0) = false from decide_eq_false h0]
 rfl
theorem qh4 {x : Stm} {c : Nat} (h0 : x.cu.getD c 0 ≠ 0) (hi : findS x.ts (x.cu.getD c 0) = none) : curOk x.sta c = false := by
 unfold curOk
 rw [show findS x.sta.ts (x.sta.cu.getD c 0) = none from hi, show decide (x.sta.cu.getD c 0 = 0) = false from decide_eq_false h0]
 rfl
theorem qh5 {x : Stm} {c : Nat} (h0 : x.cu.getD c 0 = 0) : curOk x.sta c = true := by
 unfold curOk
 rw [show decide (x.sta.cu.getD c 0 = 0) = true from decide_eq_true h0]
 rfl
theorem qh6 (l : List Tk) (id : Int) : (fidx l id = -1 ∧ findS l id = none) ∨ ∃ i : Nat, fidx l id = i ∧ findS l id = some i ∧ i < l.length ∧ (l.getD i Tk.zero).id = id := by
 unfold fidx
 cases h : findS l id with
 | none => exact .inl ⟨rfl, rfl⟩
 | some i => exact .inr ⟨i, rfl, rfl, qrs h⟩
def Mb.nums (m : Mb) : List Nat := [m.v, m.k, m.id]
def Mb.cells (m : Mb) : Array Value := #[.int .u64 (m.v : Int), .int .u64 (m.k : Int), .int .u64 (m.id : Int)]
def Mb.Ok (m : Mb) : Prop := m.v < 18446744073709551616 ∧ m.k < 18446744073709551616 ∧ m.id < 18446744073709551616
theorem qnj (x : Mb) : ∀ v ∈ x.cells.toList, v.oneCell' = true := by simp [Mb.cells, Value.oneCell']
theorem qvd {a b : Mb} {k : Nat} (hk : k < 3) (he : ∀ i, i < k → a.nums.getD i 0 = b.nums.getD i 0) (hn : a.nums.getD k 0 ≠ b.nums.getD k 0) : decide (cmpI (a.nums.getD k 0 : Int) (b.nums.getD k 0 : Int) < 0) = a.lt b := by
 rw [qrq]
 obtain ⟨a0, a1, a2⟩ := a
 obtain ⟨b0, b1, b2⟩ := b
 unfold Mb.lt
 rw [decide_eq_decide]
 dsimp only
 rcases k with _ | _ | _ | k
 ·simp [Mb.nums] at hn ⊢; omega
 ·have h0 := he 0 (by omega)
  simp [Mb.nums] at hn h0 ⊢; omega
 ·have h0 := he 0 (by omega)
  have h1 := he 1 (by omega)
  simp [Mb.nums] at hn h0 h1 ⊢; omega
 ·omega
theorem qve {a b : Mb} (he : ∀ i, i < 3 → a.nums.getD i 0 = b.nums.getD i 0) : a.lt b = false := by
 obtain ⟨a0, a1, a2⟩ := a
 obtain ⟨b0, b1, b2⟩ := b
 have h0 := he 0 (by omega)
 have h1 := he 1 (by omega)
 have h2 := he 2 (by omega)
 simp [Mb.nums] at h0 h1 h2
 subst h0; subst h1; subst h2
 unfold Mb.lt
 rw [decide_eq_false_iff_not]
 simp
def MbCmp (w : World) (a b : Mb) (r : Ending) (w' : World) : Prop := (∃ c : Int, r = .returned (.int .i64 c) ∧ decide (c < 0) = a.lt b) ∧ Below w.heap.size w w'
theorem qh7 (b : Mb) (l : List Mb) (m : Mb) : bestM b (l ++ [m]) = if m.lt (bestM b l) then m else bestM b l := by unfold bestM; rw [List.foldl_append]; rfl
theorem qae {α β : Type} {f : α → Option β} {l : List α} {k : Nat} (d : α) (hk : k < l.length) : (l.take (k + 1)).filterMap f = (l.take k).filterMap f ++ (f (l.getD k d)).toList := by
 rw [takeSnoc' d hk, List.filterMap_append]
 congr 1
where
 takeSnoc' {α : Type} {l : List α} {k : Nat} (d : α) (hk : k < l.length) : l.take (k + 1) = l.take k ++ [l.getD k d] := by
  rw [List.take_add_one, List.getElem?_eq_getElem hk, List.getD_eq_getElem?_getD, List.getElem?_eq_getElem hk]
  rfl
theorem qvf {w w' : World} {a b : Mb} {k : Nat} (hk : k < 3) (he : ∀ i, i < k → a.nums.getD i 0 = b.nums.getD i 0) (hn : a.nums.getD k 0 ≠ b.nums.getD k 0) (hb : Below w.heap.size w w') : MbCmp w a b (.returned (.int .i64 (cmpI (a.nums.getD k 0 : Int) (b.nums.getD k 0 : Int)))) w' := ⟨⟨_, rfl, qvd hk he hn⟩, hb⟩
theorem qvg {w w' : World} {a b : Mb} (he : ∀ i, i < 3 → a.nums.getD i 0 = b.nums.getD i 0) (hb : Below w.heap.size w w') : MbCmp w a b (.returned (.int .i64 0)) w' := ⟨⟨_, rfl, by rw [qve he]; rfl⟩, hb⟩
theorem ql3 {n g h : Nat} (h1 : g + 1 ≤ h) (h2 : h < n) : ((List.range n).drop (g + 1)).getD (h - (g + 1)) 0 = h ∧ h - (g + 1) < ((List.range n).drop (g + 1)).length := by
 have hl : h - (g + 1) < ((List.range n).drop (g + 1)).length := by simp; omega
 refine ⟨?_, hl⟩
 rw [List.getD_eq_getElem?_getD, List.getElem?_eq_getElem hl, List.getElem_drop, List.getElem_range]
 show g + 1 + (h - (g + 1)) = h
 omega
theorem qi6 {β : Type} {f : Nat → Option β} {n g h : Nat} (h1 : g + 1 ≤ h) (h2 : h < n) : (((List.range n).drop (g + 1)).take (h + 1 - (g + 1))).filterMap f = (((List.range n).drop (g + 1)).take (h - (g + 1))).filterMap f ++ (f h).toList := by
 obtain ⟨e, hl⟩ := ql3 h1 h2
 have := qae (f := f) 0 hl
 rw [e] at this
 rw [show h + 1 - (g + 1) = h - (g + 1) + 1 by omega]
 exact this
theorem qru {β : Type} {f : Nat → Option β} {n g : Nat} : (((List.range n).drop (g + 1)).take (n - (g + 1))).filterMap f = ((List.range n).drop (g + 1)).filterMap f := by rw [List.take_of_length_le (by simp)]
section
variable {x : Stm} {g c h : Nat} {m : Nat → List Mb}
theorem qkj (hp : (x.gs.getD h Gr.zero).parent ≠ g) : grpM x.sta c m g h = none := if_neg (fun hh => hp hh.1)
theorem qkk (hm : m h = []) : grpM x.sta c m g h = none := if_neg (fun hh => hh.2 hm)
theorem qnk (hr : h < x.rs.length) (hp : (x.gs.getD h Gr.zero).parent = g) (hm : m h ≠ []) : grpM x.sta c m g h = some ⟨((x.rs.getD h Rw.zero).l.getD c Sp.zero).v, 1, h⟩ := by
 unfold grpM
 rw [if_pos ⟨hp, hm⟩]
 unfold Sta.spot
 rw [rs_at hr]
theorem r_no0 (h0 : zg x.sta = false) : qac x.sta = false := by unfold qac; rw [h0]; rfl
theorem r_no1 (hc : c < x.cu.length) (h : curOk x.sta c = false) : qac x.sta = false := by unfold qac; rw [q8 (n := x.sta.cu.length) hc (by rw [h]; rfl), Bool.and_false]
theorem r_no2 (hc : c < x.cu.length) (hg : g < x.rs.length) (h : lowS x.sta g c = false) : qac x.sta = false := by
 unfold qac
 rw [q8 (n := x.sta.cu.length) hc (by rw [q8 (n := x.sta.sp.length) (p := fun g => lowS x.sta g c) (i := g) (by rwa [qaz]) h, Bool.and_false]), Bool.and_false]
theorem r_yes (h0 : zg x.sta = true) (hu : UpTo x.cu.length fun c => curOk x.sta c && allN x.rs.length fun g => lowS x.sta g c) : qac x.sta = true := by
 unfold qac
 rw [h0, qaz, show allN x.sta.cu.length _ = true from hu.all]
 rfl
theorem ql4 (h : memS x.sta g c = []) : lowS x.sta g c = true := decide_eq_true (.inl h)
theorem qrv (h : memS x.sta g c ≠ []) : lowS x.sta g c = decide ((bestM topM (memS x.sta g c)).v ≤ (x.sta.spot g c).floor) := by
 unfold lowS
 exact decide_eq_decide.2 ⟨fun hh => hh.resolve_left h, .inr⟩
theorem ql5 (hr : g < x.rs.length) : x.sta.spot g c = (x.rs.getD g Rw.zero).l.getD c Sp.zero := by unfold Sta.spot; rw [rs_at hr]
end
theorem qyz {l : List Gr} {g : Nat} (h : ∀ i, 0 < i → i ≤ g → ParB l i) : depG l g ≤ g := by
 induction g using Nat.strongRecOn with
 | _ g ih =>
  rcases Nat.eq_zero_or_pos g with h0 | h0
  ·subst h0; exact Nat.le_refl _
  ·have hg := h g h0 (Nat.le_refl _)
   unfold ParB at hg
   have := ih (l.getD g Gr.zero).parent.toNat (by omega) (fun i h1 h2 => h i h1 (by omega))
   rw [qf9 h h0]
   omega
theorem qkl (x : Int) (w : World) : Calls Tryz.prog 153 #[.int .i64 x] w (Is w (.bool (decide (1 ≤ x ∧ x ≤ 65536)))) := by
 refine s_ce Tryz.func153 [vI x] [(0, vI x)] fun a M => ?_
 have O := Mem.start w
 refine s_fs1 ?_
 refine fp M 1 0 [(2, .bool false)] fun a M => s_d0 (s_fs1 ?_)
 refine fp M 3 0 [(5, .bool (decide ((x : Int) ≥ (1 : Int))))] fun a M => ?_
 rcases M.tf 5 rfl with ⟨hb5, M⟩ | ⟨hb5, M⟩
 ·
  have hd5 := of_decide_eq_true hb5
  refine fp M 4 3 [(2, .bool (decide ((x : Int) ≤ (65536 : Int))))] fun a M => s_d0 (wp_ret ?_)
  exact s_rt1 rfl M rfl (qh0 (by omega) O.below)
 have hd5 := of_decide_eq_false hb5
 refine fp M 4 3 [(2, .bool false)] fun a M => s_d0 (wp_ret ?_)
 exact s_rt1 rfl M rfl (is_no (by omega) O.below)
theorem qkm (x : Int) (w : World) : Calls Tryz.prog 141 #[.int .i64 x] w (Is w (.bool (decide (1 ≤ x ∧ x ≤ 65536)))) := by
 refine s_ce Tryz.func141 [vI x] [(0, vI x)] fun a M => ?_
 have O := Mem.start w
 refine s_fs1 ?_
 refine fp M 1 0 [(2, .bool false)] fun a M => s_d0 (s_fs1 ?_)
 refine fp M 3 0 [(5, .bool (decide ((x : Int) ≥ (1 : Int))))] fun a M => ?_
 rcases M.tf 5 rfl with ⟨hb5, M⟩ | ⟨hb5, M⟩
 ·
  have hd5 := of_decide_eq_true hb5
  refine fp M 4 3 [(2, .bool (decide ((x : Int) ≤ (65536 : Int))))] fun a M => s_d0 (wp_ret ?_)
  exact s_rt1 rfl M rfl (qh0 (by omega) O.below)
 have hd5 := of_decide_eq_false hb5
 refine fp M 4 3 [(2, .bool false)] fun a M => s_d0 (wp_ret ?_)
 exact s_rt1 rfl M rfl (is_no (by omega) O.below)
theorem qkn (x : Int) (w : World) : Calls Tryz.prog 142 #[.int .i64 x] w (Is w (.bool (decide (1 ≤ x ∧ x ≤ 65536)))) := by
 refine s_ce Tryz.func142 [vI x] [(0, vI x)] fun a M => ?_
 have O := Mem.start w
 refine s_fs1 ?_
 refine fp M 1 0 [(2, .bool false)] fun a M => s_d0 (s_fs1 ?_)
 refine fp M 3 0 [(5, .bool (decide ((x : Int) ≥ (1 : Int))))] fun a M => ?_
 rcases M.tf 5 rfl with ⟨hb5, M⟩ | ⟨hb5, M⟩
 ·
  have hd5 := of_decide_eq_true hb5
  refine fp M 4 3 [(2, .bool (decide ((x : Int) ≤ (65536 : Int))))] fun a M => s_d0 (wp_ret ?_)
  exact s_rt1 rfl M rfl (qh0 (by omega) O.below)
 have hd5 := of_decide_eq_false hb5
 refine fp M 4 3 [(2, .bool false)] fun a M => s_d0 (wp_ret ?_)
 exact s_rt1 rfl M rfl (is_no (by omega) O.below)
theorem qi7 (x : Int) (w : World) : Calls Tryz.prog 149 #[.int .i64 x] w (Is w (.bool (decide (1 ≤ x ∧ x ≤ 65536)))) := by
 refine s_ce Tryz.func149 [vI x] [(0, vI x)] fun a M => ?_
 have O := Mem.start w
 refine s_fs1 ?_
 refine fp M 1 0 [(2, .bool false)] fun a M => s_d0 (s_fs1 ?_)
 refine fp M 3 0 [(5, .bool (decide ((x : Int) ≥ (1 : Int))))] fun a M => ?_
 rcases M.tf 5 rfl with ⟨hb5, M⟩ | ⟨hb5, M⟩
 ·
  have hd5 := of_decide_eq_true hb5
  refine fp M 4 3 [(2, .bool (decide ((x : Int) ≤ (65536 : Int))))] fun a M => s_d0 (wp_ret ?_)
  exact s_rt1 rfl M rfl (qh0 (by omega) O.below)
 have hd5 := of_decide_eq_false hb5
 refine fp M 4 3 [(2, .bool false)] fun a M => s_d0 (wp_ret ?_)
 exact s_rt1 rfl M rfl (is_no (by omega) O.below)
theorem qy0 (W w : World) (gg gl lp : Nat) (A : Option Addr) (c : Nat) (l : List Gr) (g : Nat) (Inv : Nat → List Fact → Prop) (F0 : List Fact) (hr : Rd W W.heap.size 2 A l.length (l.flatMap grL)) (hn : l.length ≤ 1000000) (hg : g < l.length) (hp : ∀ i, 0 < i → i ≤ g → ParB l i)
    (hy : qna Tryz.prog W lp (depG l g + 1) Inv) (hI0 : Inv 0 F0) (O : Mem W w (.blk gg #[.int .i64 (g : Int)] 3 :: .blk gl #[.slice A l.length c] 23 :: F0)) :
    Calls Tryz.prog 156 (.func (.yield lp) #[] #[] :: [.pointer (some ⟨gg, 0, none⟩), .pointer (some ⟨gl, 0, none⟩)]).toArray w (qyu W (Inv (depG l g + 1))) := by
 refine s_ce Tryz.func156 [.func (.yield lp) #[] #[], vP gg 0, vP gl 0] [(0, .func (.yield lp) #[] #[]), (1, vP gg 0), (2, vP gl 0)] fun a M => ?_
 refine wp_block ?_
 refine qe (fun mS aS wS => ∃ (x : Nat) (i : Nat) (F : List Fact), (Inv i F) ∧ (x ≤ g) ∧ (depG l x + i = depG l g) ∧ mS = 0 + x ∧ Fr aS 16 [] [(0, .func (.yield lp) #[] #[]), (1, vP gg 0), (2, vP gl 0)] ∧ Mem W wS (.blk gg #[vI x] 3 :: .blk gl #[.slice A l.length c] 23 :: F)) (m := 0 + g) ⟨g, 0, F0, hI0, Nat.le_refl _, Nat.add_zero _, rfl, M.sub (by kernel_rfl), O.pt 2 [0, 1]⟩ ?_
 clear M O; rintro mS a w_ ⟨x, i, F, hI, hxg, hd, rfl, M, O⟩
 refine wp_seq (wp_seq ?_)
 refine qkf (i := 2) ?_
 refine fp M 1 0 [(4, .func (.yield lp) #[] #[])] fun a M => s_fc M O 1 0 fun a M => ?_
 refine s_d0 (qvb M (i := 2) (vs := [vI x]) rfl rfl rfl rfl rfl rfl (by decide) (hy i F [.blk gg #[vI x] 3, .blk gl #[.slice A l.length c] 23] _ (x : Int) hI (by omega) (Mem.qum (es := F) O)) qgs ?_)
 clear M O; rintro v w20 a ⟨F2, O, hv, hI2⟩ M; injection hv with hv; subst hv
 replace O : Mem W w20 (.blk gg #[vI x] 3 :: .blk gl #[.slice A l.length c] 23 :: F2) := Mem.qum (es := [.blk gg #[vI x] 3, .blk gl #[.slice A l.length c] 23]) O
 refine fp M 1 3 [(7, .bool true)] fun a M => s_fc M O 4 0 fun a M => ?_
 refine fp M 2 5 [(10, .bool (decide ((x : Int) > (0 : Int))))] fun a M => s_d0 ?_
 rcases M.tf 10 rfl with ⟨hb10, M⟩ | ⟨hb10, M⟩
 ·
  have hd10 := of_decide_eq_true hb10
  have hx0 : 0 < x := by omega
  obtain ⟨hp1, hp2⟩ := hp x hx0 hxg
  obtain ⟨y, hy2⟩ : ∃ y : Nat, (l.getD x Gr.zero).parent = (y : Int) := ⟨(l.getD x Gr.zero).parent.toNat, by omega⟩
  have hdx := qf9 (l := l) (g := x) (fun i h0 hi => hp i h0 (by omega)) hx0
  rw [hy2, Int.toNat_natCast] at hdx
  refine s_ct M (wp_skip (wp_block (qa ?_)))
  refine s_fc M O 0 1 fun a M => ?_
  refine s_fc M O 1 0 fun a M => ?_
  obtain ⟨gA, oA, rfl, _⟩ := hr.qi (Nat.lt_of_le_of_lt (Nat.zero_le _) (show x < l.length from by omega)) (by decide)
  refine s_fz M O 2 rfl (v := vP gA (oA + x * 2)) (Yl.ix gA oA x 2 rfl rfl rfl) fun a M => ?_
  refine fp M 1 3 [(14, vP gA (oA + x * 2))] fun a M => s_fz M O 4 rfl (v := vI ((l.getD x Gr.zero).parent)) (Yl.qk rfl rfl (by kernel_rfl) (fun _ h => (by have := (h.old hr).partAt zx (k := x) (j := 0) (x := (l.getD x Gr.zero)) ((getD_at Gr.zero (by omega))) rfl; simpa using this))) fun a M => ?_
  replace M := M.sp 15 (vI y) rfl (by rw [hy2])
  refine fo M 5 rfl rfl (s_es M O 0 fun w1_5 O => ?_)
  refine s_d0 ?_
  exact ⟨_, (by omega), y, i + 1, F2, hI2, by omega, by omega, rfl, M.sub (by kernel_rfl), O.pt 2 [0, 1]⟩
 have hd10 := of_decide_eq_false hb10
 obtain rfl : x = 0 := by omega
 have hd0 := qjz l
 refine s_cf M (wp_exit ?_)
 have hin : i + 1 = depG l g + 1 := by omega
 rw [hin] at hI2
 exact norm0 rfl M ⟨_, rfl, F2, Mem.qw8 [.blk gg #[vI 0] 3, .blk gl #[.slice A l.length c] 23] O, hI2⟩
theorem q1e (A : Option Addr) (n c : Nat) (g : Int) (w : World) :
    Calls Tryz.prog 155 #[.slice A n c, .int .i64 g] w fun r w' => ∃ gg gl, r = .returned (.func (.func 156) #[] #[.pointer (some ⟨gg, 0, none⟩), .pointer (some ⟨gl, 0, none⟩)]) ∧ Mem w w' [.blk gg #[.int .i64 g] 3, .blk gl #[.slice A n c] 23] := by
 refine s_ce Tryz.func155 [.slice A n c, vI g] [(0, .slice A n c), (1, vI g)] fun a M => ?_
 have O := Mem.start w
 refine s_fs1 ?_
 refine fo M 0 rfl rfl (s_eb M O #[.slice A n c] fun a w2 g2 M O => ?_)
 refine fo M 1 rfl rfl (s_eb M O #[vI g] fun a w3 g3 M O => ?_)
 refine fp M 1 2 [(4, .nilFunc)] fun a M => s_d0 (s_fs1 ?_)
 refine s_fz M O 0 rfl (v := .func (.func 156) #[] #[vP g3 0, vP g2 0]) (Yl.makeFunc (fst := []) (caps := [vP g3 0, vP g2 0]) rfl rfl rfl) fun a M => ?_
 refine fp M 1 1 [(4, .func (.func 156) #[] #[vP g3 0, vP g2 0])] fun a M => s_d0 (wp_ret ?_)
 exact s_rt1 rfl M rfl (⟨_, _, rfl, O.pk [0, 1]⟩)
theorem qry (A : Option Addr) (c : Nat) (l : List Gr) (g : Nat) (w : World) (hr : Rd w w.heap.size 2 A l.length (l.flatMap grL)) (hn : l.length ≤ 1000000) (hg : g < l.length) (hp : ∀ i, 0 < i → i ≤ g → ParB l i) :
    Calls Tryz.prog 154 #[.slice A l.length c, .int .i64 (g : Int)] w (Is w (.int .i64 (depG l g : Int))) := by
 have hdep := qyz hp
 refine qi4 (vs := [.slice A l.length c, vI g]) Tryz.func154 rfl rfl (by kernel_rfl) (σ0 := [(0, .slice A l.length c), (1, vI g)]) rfl ?_
 intro a M
 have O := Mem.start w
 refine s_fs1 ?_
 refine fp M 1 0 [(4, vI 0)] fun a M => s_d0 (s_fs1 ?_)
 refine fo M 0 rfl rfl (s_ea M O #[vI 0] fun a w5 g5 M O => ?_)
 refine fo M 1 rfl rfl (s_es M O 0 fun w1_1 O => ?_)
 refine s_d0 (wp_seq (s_fs1 ?_))
 refine fp M 2 0 [(7, vI g), (6, .slice A l.length c)] fun a M => fo M 2 rfl rfl ?_
 refine e_cl M [.slice A l.length c, vI g] rfl rfl (q1e A l.length c (g : Int) _) ?_
 rintro _ w8 ⟨gg, gl, rfl, hm⟩
 refine ⟨_, rfl, ?_⟩
 replace O := O.join hm
 clear M; intro a M
 refine s_d0 (wp_block ?_)
 refine q1b M O (fun F => F = [.blk g5 #[vI (((depG l g + 1) : Int) - 1)] 3]) (fun _ _ => False) rfl (by kernel_rfl) ?_ ?_ (fun _ _ _ _ _ h => h.elim)
 ·
  clear M O; intro lp B rec w1 hrec O
  have hy : qna Tryz.prog w lp (depG l g + 1) (fun i F => F = (.obj lp (.loop (rec .ready none)) :: .obj B (.deferred (some [])) :: [.blk g5 #[vI ((i : Int) - 1)] 3])) := by
   rintro i F fr w3 x rfl hi O
   replace O : Mem w _ (.obj lp (.loop (rec .ready none)) :: .obj B (.deferred (some [])) :: .blk g5 #[vI ((i : Int) - 1)] 3 :: fr) := O
   refine qkg (v1 := vI x) hrec O (by decide) fun a M => ?_
   refine wpIn_skip ?_
   refine ⟨(.obj B (.deferred (some [])) :: .blk g5 #[vI ((i : Int) - 1)] 3 :: fr), O.pt (fs' := (.obj lp (.loop (rec .ready none)) :: .obj B (.deferred (some [])) :: .blk g5 #[vI ((i : Int) - 1)] 3 :: fr)) 3 [0, 1, 2], fun w4 O => ?_⟩
   refine wpIn_block ?_
   refine qkd ?_
   refine s_fc M O 0 2 fun a M => ?_
   refine fp M 1 1 [(11, vI (IntKind.i64.wrap (((i : Int) - 1) + 1)))] fun a M => ?_
   replace M := M.sp 11 (vI (((i + 1 : Nat) : Int) - 1)) rfl (by have hdl := hdep; exact (qqz ⟨by omega, by omega⟩).trans (congrArg (Value.int .i64) (by omega)))
   refine fo M 2 rfl rfl (s_es M O 2 fun w3_2 O => ?_)
   refine s_d0 (⟨(.obj B (.deferred (some [])) :: .blk g5 #[vI (((i + 1 : Nat) : Int) - 1)] 3 :: fr), O.pt (fs' := (.obj lp (.loop (rec .busy none)) :: .obj B (.deferred (some [])) :: .blk g5 #[vI (((i + 1 : Nat) : Int) - 1)] 3 :: fr)) 3 [0, 1, 2], fun w5 O => ?_⟩)
   exact ⟨(.obj lp (.loop (rec .ready none)) :: .obj B (.deferred (some [])) :: .blk g5 #[vI (((i + 1 : Nat) : Int) - 1)] 3 :: []), O, rfl, rfl⟩
  refine (qy0 w w1 gg gl lp A c l g _ _ hr hn hg hp hy rfl (O.pk [2, 3, 0, 1, 4])).mono ?_
  rintro r w2 ⟨v, rfl, F2, HM2, rfl⟩
  exact ⟨v, rfl, .inl ⟨_, rfl, HM2⟩⟩
 clear M O; rintro B a w6 _ rfl M O
 refine s_fs1 ?_
 refine s_fc M O 0 1 fun a M => ?_
 refine fp M 1 1 [(4, vI (((depG l g + 1 : Nat) : Int) - 1))] fun a M => s_d0 (wp_ret ?_)
 refine qyt M O (i := 0) rfl fun a w7 M O => ?_
 exact s_rt1 rfl M rfl (⟨by congr 2; omega, O.below⟩)
theorem qpd (A : Option Addr) (c : Nat) (l : List Gr) (hok : ∀ x ∈ l, x.Ok) (w : World) (hr : Rd w w.heap.size 2 A l.length (l.flatMap grL)) (hn : l.length ≤ 1000000) :
    Calls Tryz.prog 151 #[.slice A l.length c] w (qgv w l) := by
 refine s_ce Tryz.func151 [.slice A l.length c] [(0, .slice A l.length c)] fun a M => ?_
 have O := Mem.start w
 refine s_fs1 ?_
 refine fp M 2 0 [(3, vI 0), (2, vI 0)] fun a M => s_d0 (wp_seq (wp_block (s_fs1 ?_)))
 refine fp M 1 0 [(6, .slice A l.length c)] fun a M => s_fl M 1 fun a M => ?_
 refine fp M 2 2 [(5, .bool (decide ((l.length : Int) > (256 : Int))))] fun a M => s_d0 ?_
 rcases M.tf 5 rfl with ⟨hb5, M⟩ | ⟨hb5, M⟩
 ·
  have hd5 := of_decide_eq_true hb5
  refine s_ct M (s_fs1 ?_)
  refine fp M 2 0 [(3, vI 5), (2, vI (-1))] fun a M => s_d0 (wp_ret ?_)
  exact s_rt2 rfl M rfl rfl (qa4 (qci (by omega)) (by decide) O.below)
 have hd5 := of_decide_eq_false hb5
 refine s_cf M (s_fs1 ?_)
 refine fp M 1 0 [(10, .slice A l.length c)] fun a M => s_fl M 1 fun a M => ?_
 refine fp M 2 2 [(13, .bool ((l.length : Int) == (0 : Int)))] fun a M => ?_
 rcases M.tf 13 rfl with ⟨hb13, M⟩ | ⟨hb13, M⟩
 ·
  have hd13 := eq_of_beq hb13
  refine fp M 7 4 [(9, .bool true)] fun a M => s_d0 (s_ct M (s_fs1 ?_))
  refine fp M 2 0 [(3, vI 190), (2, vI 0)] fun a M => s_d0 (wp_ret ?_)
  exact s_rt2 rfl M rfl rfl (qa4 (qci (by omega)) (by decide) O.below)
 have hd13 := ne_of_beq_false hb13
 obtain ⟨gA, oA, rfl, _⟩ := hr.qi (Nat.lt_of_le_of_lt (Nat.zero_le _) (show 0 < l.length from by omega)) (by decide)
 refine fp M 1 4 [(14, .slice (some ⟨gA, oA, none⟩) l.length c)] fun a M => s_fz M O 5 rfl (v := vP gA oA) (Yl.indexAddr (ad := ⟨gA, oA, none⟩) (y := 0) (sz := 2) rfl rfl rfl (by omega) (by kernel_rfl)) fun a M => ?_
 refine s_fz M O 6 rfl (v := .agg ((l.getD 0 Gr.zero).cells)) (Yl.qt rfl rfl si_gr rfl (fun _ h => (h.old hr).zf zx ((getD_at Gr.zero (by omega))))) fun a M => ?_
 refine s_fz M O 7 rfl (v := .agg #[vI 0, vI 1]) (Yl.build (vs := [(1, vI 1)]) rfl (by kernel_rfl) (by kernel_rfl)) fun a M => ?_
 refine s_fz M O 8 rfl (v := .bool (!(decide ((l.getD 0 Gr.zero) = ⟨0, 1⟩)))) (Yl.qlr rfl rfl rfl (qnd (l.getD 0 Gr.zero) ⟨0, 1⟩)) fun a M => ?_
 refine fp M 2 9 [(9, .bool (!(decide ((l.getD 0 Gr.zero) = ⟨0, 1⟩))))] fun a M => s_d0 ?_
 rcases M.tf 9 rfl with ⟨hb9, M⟩ | ⟨hb9, M⟩
 ·
  have hd9 := of_decide_eq_false ((Bool.not_eq_true' _).mp hb9)
  refine s_ct M (s_fs1 ?_)
  refine fp M 2 0 [(3, vI 190), (2, vI 0)] fun a M => s_d0 (wp_ret ?_)
  exact s_rt2 rfl M rfl rfl (qa4 (qci (fun h => by rw [h.2.2] at hb9; simp at hb9)) (by decide) O.below)
 have hd9 := of_decide_eq_true ((Bool.not_eq_false' _).mp hb9)
 refine s_cf M (wp_skip (wp_seq (s_fs1 ?_)))
 refine fp M 1 0 [(4, vI 1)] fun a M => s_d0 (wp_block ?_)
 refine qe (fun mS aS wS => ∃ (g : Nat), (1 ≤ g) ∧ (g ≤ l.length) ∧ (UpTo g (gOk l)) ∧ mS = l.length - g ∧ Fr aS 58 [] [(4, vI g), (9, .bool false), (5, .bool false), (3, vI 0), (2, vI 0), (0, .slice (some ⟨gA, oA, none⟩) l.length c)] ∧ Mem w wS []) (m := l.length - 1) ⟨1, Nat.le_refl _, by omega, UpTo.zero.succ (qnc l), rfl, M.sub (by kernel_rfl), O.pk []⟩ ?_
 clear M O; rintro mS a w_ ⟨g, hg1, hgl, hu, rfl, M, O⟩
 refine wp_seq (s_fs1 ?_)
 refine fp M 2 0 [(21, .slice (some ⟨gA, oA, none⟩) l.length c), (20, vI g)] fun a M => s_fl M 2 fun a M => ?_
 refine fp M 1 3 [(23, .bool (decide ((g : Int) < (l.length : Int))))] fun a M => s_d0 ?_
 rcases M.tf 23 rfl with ⟨hb23, M⟩ | ⟨hb23, M⟩
 ·
  have hd23 := of_decide_eq_true hb23
  have hg23 : g < l.length := by omega
  have hOk := hok _ (qr Gr.zero hg23)
  have hOp := hOk.parent
  unfold I64 at hOp
  have hOw := hOk.weight
  unfold I64 at hOw
  refine s_ct M (wp_skip (wp_seq (wp_block (wp_block (s_fs1 ?_)))))
  refine fp M 2 0 [(28, vI g), (27, .slice (some ⟨gA, oA, none⟩) l.length c)] fun a M => s_fz M O 2 rfl (v := vP gA (oA + g * 2)) (Yl.ix gA oA g 2 rfl rfl rfl) fun a M => ?_
  refine fp M 1 3 [(30, vP gA (oA + g * 2))] fun a M => s_fz M O 4 rfl (v := vI ((l.getD g Gr.zero).parent)) (Yl.qk rfl rfl (by kernel_rfl) (fun _ h => (by have := (h.old hr).partAt zx (k := g) (j := 0) (x := (l.getD g Gr.zero)) ((getD_at Gr.zero (by omega))) rfl; simpa using this))) fun a M => ?_
  refine fp M 2 5 [(33, .bool (decide (((l.getD g Gr.zero).parent : Int) < (0 : Int))))] fun a M => ?_
  rcases M.tf 33 rfl with ⟨hb33, M⟩ | ⟨hb33, M⟩
  ·
   have hd33 := of_decide_eq_true hb33
   refine fp M 9 7 [(26, .bool true)] fun a M => s_d0 (s_ct M (s_fs1 ?_))
   refine fp M 3 0 [(3, vI 191), (2, vI g)] fun a M => s_d0 (wp_ret ?_)
   exact s_rt2 rfl M rfl rfl (qa4 (qe7 hg23 (qh2 (by omega) (by omega))) (by decide) O.below)
  have hd33 := of_decide_eq_false hb33
  refine fp M 2 7 [(35, vI g), (34, .slice (some ⟨gA, oA, none⟩) l.length c)] fun a M => s_fz M O 9 rfl (v := vP gA (oA + g * 2)) (Yl.ix gA oA g 2 rfl rfl rfl) fun a M => ?_
  refine fp M 1 10 [(37, vP gA (oA + g * 2))] fun a M => s_fz M O 11 rfl (v := vI ((l.getD g Gr.zero).parent)) (Yl.qk rfl rfl (by kernel_rfl) (fun _ h => (by have := (h.old hr).partAt zx (k := g) (j := 0) (x := (l.getD g Gr.zero)) ((getD_at Gr.zero (by omega))) rfl; simpa using this))) fun a M => ?_
  refine fp M 4 12 [(26, .bool (decide (((l.getD g Gr.zero).parent : Int) ≥ (g : Int))))] fun a M => s_d0 ?_
  rcases M.tf 26 rfl with ⟨hb26, M⟩ | ⟨hb26, M⟩
  ·
   have hd26 := of_decide_eq_true hb26
   refine s_ct M (s_fs1 ?_)
   refine fp M 3 0 [(3, vI 191), (2, vI g)] fun a M => s_d0 (wp_ret ?_)
   exact s_rt2 rfl M rfl rfl (qa4 (qe7 hg23 (qh2 (by omega) (by omega))) (by decide) O.below)
  have hd26 := of_decide_eq_false hb26
  have hpg := qrf hu ⟨by omega, by omega⟩
  refine s_cf M (s_fs1 ?_)
  refine fp M 2 0 [(45, vI g), (44, .slice (some ⟨gA, oA, none⟩) l.length c)] fun a M => s_fz M O 2 rfl (v := vP gA (oA + g * 2)) (Yl.ix gA oA g 2 rfl rfl rfl) fun a M => ?_
  refine fp M 1 3 [(47, vP gA (oA + g * 2 + 1))] fun a M => s_fz M O 4 rfl (v := vI ((l.getD g Gr.zero).weight)) (Yl.qk rfl rfl (by kernel_rfl) (fun _ h => (h.old hr).partAt zx (k := g) (j := 1) (x := (l.getD g Gr.zero)) ((getD_at Gr.zero (by omega))) rfl)) fun a M => ?_
  refine fo M 5 rfl rfl ?_
  refine e_cl M [vI ((l.getD g Gr.zero).weight)] rfl rfl (qkl ((l.getD g Gr.zero).weight) _) ?_
  rintro _ w49 ⟨rfl, hbw⟩
  refine ⟨_, rfl, ?_⟩
  replace O := O.call hbw
  clear M; intro a M
  refine fp M 2 6 [(43, .bool (!(decide (1 ≤ (l.getD g Gr.zero).weight ∧ (l.getD g Gr.zero).weight ≤ 65536))))] fun a M => s_d0 ?_
  rcases M.tf 43 rfl with ⟨hb43, M⟩ | ⟨hb43, M⟩
  ·
   have hd43 := of_decide_eq_false ((Bool.not_eq_true' _).mp hb43)
   refine s_ct M (s_fs1 ?_)
   refine fp M 3 0 [(3, vI 192), (2, vI g)] fun a M => s_d0 (wp_ret ?_)
   exact s_rt2 rfl M rfl rfl (qa4 (qe7 hg23 (qh2 (by omega) (by omega))) (by decide) O.below)
  have hd43 := of_decide_eq_true ((Bool.not_eq_false' _).mp hb43)
  refine s_cf M (s_fs1 ?_)
  refine fp M 2 0 [(54, vI g), (53, .slice (some ⟨gA, oA, none⟩) l.length c)] fun a M => fo M 2 rfl rfl (e_is M O [.slice (some ⟨gA, oA, none⟩) l.length c, vI g] (vI (depG l g)) rfl rfl (qry (some ⟨gA, oA, none⟩) c l g _ (O.old hr) hn (by omega) hpg) fun w55 hbw O a M => ?_)
  refine fp M 2 3 [(52, .bool (decide ((depG l g : Int) > (4 : Int))))] fun a M => s_d0 ?_
  rcases M.tf 52 rfl with ⟨hb52, M⟩ | ⟨hb52, M⟩
  ·
   have hd52 := of_decide_eq_true hb52
   refine s_ct M (s_fs1 ?_)
   refine fp M 3 0 [(3, vI 193), (2, vI g)] fun a M => s_d0 (wp_ret ?_)
   exact s_rt2 rfl M rfl rfl (qa4 (qe7 hg23 (qh2 (by omega) (by omega))) (by decide) O.below)
  have hd52 := of_decide_eq_false hb52
  refine s_cf M (wp_skip (qa ?_))
  refine fp M 2 0 [(25, vI (IntKind.i64.wrap ((g : Int) + 1)))] fun a M => ?_
  replace M := M.sp 25 (vI (g + 1 : Nat)) rfl (qc (by omega) (by omega))
  refine fp M 1 2 [(4, vI (g + 1 : Nat))] fun a M => s_d0 ?_
  exact ⟨_, (by omega), g + 1, by omega, by omega, hu.succ (qre ⟨by omega, by omega, by omega, by omega⟩), rfl, M.sub (by kernel_rfl), O.pk []⟩
 have hd23 := of_decide_eq_false hb23
 refine s_cf M (wp_exit (s_fs1 ?_))
 refine fp M 2 0 [(3, vI 0), (2, vI (-1))] fun a M => s_d0 (wp_ret ?_)
 exact s_rt2 rfl M rfl rfl (ql2 (qnb ⟨by omega, by omega, by simpa using hb9⟩ (fun i hi => hu i (by omega))) O.below)
theorem qpe (A : Option Addr) (c : Nat) (l : List Gr) (hok : ∀ x ∈ l, x.Ok) (w : World) (hr : Rd w w.heap.size 2 A l.length (l.flatMap grL)) (hn : l.length ≤ 1000000) :
    Calls Tryz.prog 139 #[.slice A l.length c] w (Is w (.bool (gsOk l))) := by
 refine s_ce Tryz.func139 [.slice A l.length c] [(0, .slice A l.length c)] fun a M => ?_
 have O := Mem.start w
 refine s_fs1 ?_
 refine fp M 1 0 [(2, .bool false)] fun a M => s_d0 (s_fs1 ?_)
 refine fp M 1 0 [(6, .slice A l.length c)] fun a M => fo M 1 rfl rfl ?_
 refine e_cl M [.slice A l.length c] rfl rfl (qpd A c l hok _ (O.old hr) hn) ?_
 rintro _ w7 ⟨⟨i, e, rfl, he⟩, hbw⟩
 refine ⟨_, rfl, ?_⟩
 replace O := O.call hbw
 clear M; intro a M
 refine fp M 5 2 [(4, vI e)] fun a M => s_d0 (s_fs1 ?_)
 refine fp M 3 0 [(2, .bool ((e : Int) == (0 : Int)))] fun a M => s_d0 (wp_ret ?_)
 exact s_rt1 rfl M rfl (is_as he O.below)
theorem qh8 (v r : Nat) (wt : Int) (hv : v < 18446744073709551616) (hr : r < 4294967296) (hw : 0 ≤ wt ∧ wt < 4294967296) (w : World) :
    Calls Tryz.prog 120 #[.agg #[.int .u64 (v : Int), .int .u32 (r : Int), .int .u32 wt]] w (Is w (.bool (entOk v r wt))) := by
 obtain ⟨z, rfl⟩ : ∃ z : Nat, wt = (z : Int) := ⟨wt.toNat, by omega⟩
 refine s_ce Tryz.func120 [.agg #[vQ v, vW r, vW z]] [(0, .agg #[vQ v, vW r, vW z])] fun a M => ?_
 have O := Mem.start w
 refine s_fs1 ?_
 refine fo M 0 rfl rfl (s_eb M O #[vQ v, vW r, vW z] fun a w1 g1 M O => ?_)
 refine fp M 1 1 [(2, .bool false)] fun a M => s_d0 (s_fs1 ?_)
 refine fp M 1 0 [(3, vP g1 2)] fun a M => s_fc M O 1 0 fun a M => ?_
 refine fp M 1 2 [(5, vI (IntKind.i64.wrap (z : Int)))] fun a M => ?_
 replace M := M.sp 5 (vI z) rfl (qc rfl (by omega))
 refine fo M 3 rfl rfl ?_
 refine e_cl M [vI z] rfl rfl (qkm (z : Int) _) ?_
 rintro _ w6 ⟨rfl, hbw⟩
 refine ⟨_, rfl, ?_⟩
 replace O := O.call hbw
 clear M; intro a M
 refine fp M 1 4 [(7, .bool (decide (1 ≤ (z : Int) ∧ (z : Int) ≤ 65536)))] fun a M => ?_
 rcases M.tf 7 rfl with ⟨hb7, M⟩ | ⟨hb7, M⟩
 ·
  have hd7 := of_decide_eq_true hb7
  refine fp M 1 5 [(8, vP g1 1)] fun a M => s_fc M O 6 0 fun a M => ?_
  refine fp M 1 7 [(10, vP g1 2)] fun a M => s_fc M O 8 0 fun a M => ?_
  refine fp M 3 9 [(14, .bool (decide ((r : Int) < (z : Int))))] fun a M => ?_
  rcases M.tf 14 rfl with ⟨hb14, M⟩ | ⟨hb14, M⟩
  ·
   have hd14 := of_decide_eq_true hb14
   refine fp M 1 12 [(15, vP g1 0)] fun a M => s_fc M O 13 0 fun a M => ?_
   refine fp M 2 14 [(18, .bool (decide ((v : Int) < (18446744073709551615 : Int))))] fun a M => ?_
   rcases M.tf 18 rfl with ⟨hb18, M⟩ | ⟨hb18, M⟩
   ·
    have hd18 := of_decide_eq_true hb18
    refine fp M 6 16 [(2, .bool true)] fun a M => s_d0 (wp_ret ?_)
    replace O := O.pk (fs' := []) []
    exact s_rt1 rfl M rfl (qh1 (by omega) O.below)
   have hd18 := of_decide_eq_false hb18
   refine fp M 1 16 [(19, vP g1 1)] fun a M => s_fc M O 17 0 fun a M => ?_
   refine fp M 4 18 [(2, .bool ((r : Int) == (0 : Int)))] fun a M => s_d0 (wp_ret ?_)
   replace O := O.pk (fs' := []) []
   exact s_rt1 rfl M rfl (qh0 (by omega) O.below)
  have hd14 := of_decide_eq_false hb14
  refine fp M 10 12 [(2, .bool false)] fun a M => s_d0 (wp_ret ?_)
  replace O := O.pk (fs' := []) []
  exact s_rt1 rfl M rfl (is_no (by omega) O.below)
 have hd7 := of_decide_eq_false hb7
 refine fp M 17 5 [(2, .bool false)] fun a M => s_d0 (wp_ret ?_)
 replace O := O.pk (fs' := []) []
 exact s_rt1 rfl M rfl (is_no (by omega) O.below)
theorem qh9 (v r : Nat) (wt : Int) (hw : 0 ≤ wt ∧ wt < 4294967296) (w : World) :
    Calls Tryz.prog 121 #[.int .u64 (v : Int), .int .u32 (r : Int), .int .i64 wt] w (Is w (.agg #[.int .u64 (v : Int), .int .u32 (r : Int), .int .u32 wt])) := by
 obtain ⟨z, rfl⟩ : ∃ z : Nat, wt = (z : Int) := ⟨wt.toNat, by omega⟩
 refine s_ce Tryz.func121 [vQ v, vW r, vI z] [(0, vQ v), (1, vW r), (2, vI z)] fun a M => ?_
 have O := Mem.start w
 refine s_fs1 ?_
 refine fo M 0 rfl rfl (s_ea M O #[vQ 0, vW 0, vW 0] fun a w6 g6 M O => ?_)
 refine s_d0 (s_fs1 ?_)
 refine fp M 4 0 [(10, vW (IntKind.u32.wrap (z : Int))), (8, vW r), (7, vQ v)] fun a M => ?_
 replace M := M.sp 10 (vW z) rfl (qa3 rfl (by omega))
 refine s_fz M O 4 rfl (v := .agg #[vQ v, vW r, vW z]) (Yl.build (vs := [(0, vQ v), (1, vW r), (2, vW z)]) rfl (by kernel_rfl) (by kernel_rfl)) fun a M => ?_
 refine fo M 5 rfl rfl (e_sa M O 0 rfl rfl rfl rfl rfl qxh rfl rfl (by simp [Value.oneCell']) fun w1_5 O => ?_)
 refine s_d0 (wp_ret ?_)
 exact ret1 rfl M (.cellS (i := 0) M O rfl rfl qxh rfl) (⟨rfl, O.below⟩)
theorem qvi (m n : Nat) (hm : m < 18446744073709551616) (hn : 1 ≤ n ∧ n ≤ 64) (w : World) :
    Calls Tryz.prog 143 #[.int .u64 (m : Int), .int .i64 (n : Int)] w (Is w (.bool (decide (2 ^ n ≤ m)))) := by
 refine s_ce Tryz.func143 [vQ m, vI n] [(0, vQ m), (1, vI n)] fun a M => ?_
 have O := Mem.start w
 refine s_fs1 ?_
 refine fp M 1 0 [(4, .bool false)] fun a M => s_d0 (s_fs1 ?_)
 refine fp M 3 0 [(7, vI (IntKind.i64.wrap ((n : Int) - 1))), (5, vQ m)] fun a M => ?_
 replace M := M.sp 7 (vI (n - 1 : Nat)) rfl (qc (by omega) (by omega))
 refine s_fz M O 3 rfl (v := vQ (m / 2 ^ (n - 1) : Nat)) (Yl.shrN (m := m) (n := (n - 1)) rfl rfl rfl (by show _ ≤ 64; omega)) fun a M => ?_
 refine fp M 1 4 [(9, vQ (Int.fdiv ((m / 2 ^ (n - 1) : Nat) : Int) (2 ^ (min (1 : Int).toNat (IntKind.u64).bits))))] fun a M => ?_
 replace M := M.sp 9 (vQ ((m / 2 ^ (n - 1)) / 2 : Nat)) rfl (qd5 .u64 (m / 2 ^ (n - 1)) (j := 1) (q := 2) rfl rfl)
 refine fp M 2 5 [(4, .bool ((((m / 2 ^ (n - 1)) / 2 : Nat) : Int) != (0 : Int)))] fun a M => s_d0 (wp_ret ?_)
 exact s_rt1 rfl M rfl (is_as (qyv hn.1) O.below)
theorem qd9 (x : Stm) (t : Tk) (hok : t.Ok) (hx : 1 ≤ x.cpus ∧ x.cpus ≤ 64) (hf : x.rs.length ≤ 1000000) (w : World) :
    Calls Tryz.prog 122 #[.agg x.cells, .agg t.cells] w (Is w (.bool (tkOk1 x.sta t))) := by
 obtain ⟨n, hn⟩ : ∃ n : Nat, x.cpus = (n : Int) := ⟨x.cpus.toNat, by omega⟩
 have hn64 : 1 ≤ n ∧ n ≤ 64 := by omega
 have hv := hok.v
 have hr := hok.r
 have hi := hok.id
 have hg := hok.group
 have hc := hok.cpu
 have hw := hok.weight
 have hm := hok.mask
 unfold I64 at hi hg hc hw
 refine s_ce Tryz.func122 [.agg x.cells, .agg t.cells] [(0, .agg x.cells), (1, .agg t.cells)] fun a M => ?_
 have O := Mem.start w
 refine s_fs1 ?_
 refine fo M 0 rfl rfl (s_eb M O x.cells fun a w2 g2 M O => ?_)
 refine fo M 1 rfl rfl (s_eb M O t.cells fun a w3 g3 M O => ?_)
 refine fp M 1 2 [(4, .bool false)] fun a M => s_d0 (s_fs1 ?_)
 refine fp M 1 0 [(5, vP g3 0)] fun a M => s_fc M O 1 0 (v := vI t.id) fun a M => ?_
 refine fp M 2 2 [(8, .bool (decide ((t.id : Int) ≥ (1 : Int))))] fun a M => ?_
 rcases M.tf 8 rfl with ⟨hb8, M⟩ | ⟨hb8, M⟩
 ·
  have hd8 := of_decide_eq_true hb8
  refine fp M 1 4 [(9, vP g3 0)] fun a M => s_fc M O 5 0 (v := vI t.id) fun a M => ?_
  refine fp M 3 6 [(13, .bool (decide ((t.id : Int) ≤ (65535 : Int))))] fun a M => ?_
  rcases M.tf 13 rfl with ⟨hb13, M⟩ | ⟨hb13, M⟩
  ·
   have hd13 := of_decide_eq_true hb13
   refine fp M 1 9 [(14, vP g3 1)] fun a M => s_fc M O 10 0 (v := vI t.group) fun a M => ?_
   refine fp M 3 11 [(18, .bool (decide ((t.group : Int) ≥ (0 : Int))))] fun a M => ?_
   rcases M.tf 18 rfl with ⟨hb18, M⟩ | ⟨hb18, M⟩
   ·
    have hd18 := of_decide_eq_true hb18
    refine fp M 1 14 [(19, vP g3 1)] fun a M => s_fc M O 15 0 (v := vI t.group) fun a M => ?_
    refine fp M 1 16 [(21, vP g2 6)] fun a M => s_fc M O 17 1 (v := .slice x.sA x.rs.length x.sc) fun a M => ?_
    refine s_fl M 18 fun a M => ?_
    refine fp M 3 19 [(26, .bool (decide ((t.group : Int) < (x.rs.length : Int))))] fun a M => ?_
    rcases M.tf 26 rfl with ⟨hb26, M⟩ | ⟨hb26, M⟩
    ·
     have hd26 := of_decide_eq_true hb26
     refine fp M 1 22 [(27, vP g3 3)] fun a M => s_fc M O 23 0 (v := vI t.cpu) fun a M => ?_
     refine fp M 3 24 [(31, .bool (decide ((t.cpu : Int) ≥ (0 : Int))))] fun a M => ?_
     rcases M.tf 31 rfl with ⟨hb31, M⟩ | ⟨hb31, M⟩
     ·
      have hd31 := of_decide_eq_true hb31
      refine fp M 1 27 [(32, vP g3 3)] fun a M => s_fc M O 28 0 (v := vI t.cpu) fun a M => ?_
      refine fp M 2 29 [(35, vP g2 0)] fun a M => s_fc M O 31 1 (v := vI x.cpus) fun a M => ?_
      refine fp M 3 32 [(39, .bool (decide ((t.cpu : Int) < (x.cpus : Int))))] fun a M => ?_
      rcases M.tf 39 rfl with ⟨hb39, M⟩ | ⟨hb39, M⟩
      ·
       have hd39 := of_decide_eq_true hb39
       obtain ⟨k, hk⟩ : ∃ k : Nat, t.cpu = (k : Int) := ⟨t.cpu.toNat, by omega⟩
       refine fp M 1 35 [(40, vP g3 2)] fun a M => s_fc M O 36 0 (v := vI t.weight) fun a M => ?_
       refine fo M 37 rfl rfl ?_
       refine e_cl M [vI t.weight] rfl rfl (qkn t.weight _) ?_
       rintro _ w42 ⟨rfl, hbw⟩
       refine ⟨_, rfl, ?_⟩
       replace O := O.call hbw
       clear M; intro a M
       refine fp M 2 38 [(44, .bool (decide (1 ≤ t.weight ∧ t.weight ≤ 65536)))] fun a M => ?_
       rcases M.tf 44 rfl with ⟨hb44, M⟩ | ⟨hb44, M⟩
       ·
        have hd44 := of_decide_eq_true hb44
        refine fp M 1 40 [(45, vP g3 4)] fun a M => s_fc M O 41 0 (v := vQ t.mask) fun a M => ?_
        refine fp M 2 42 [(48, vP g2 0)] fun a M => s_fc M O 44 1 (v := vI x.cpus) fun a M => ?_
        replace M := M.sp 49 (vI n) rfl (by rw [hn])
        refine fo M 45 rfl rfl (e_is M O [vQ t.mask, vI n] (.bool (decide (2 ^ n ≤ t.mask))) rfl rfl (qvi t.mask n hok.mask hn64 _) fun w50 hbw O a M => ?_)
        refine fp M 3 46 [(53, .bool (!(decide (2 ^ n ≤ t.mask))))] fun a M => ?_
        rcases M.tf 53 rfl with ⟨hb53, M⟩ | ⟨hb53, M⟩
        ·
         have hd53 := of_decide_eq_false ((Bool.not_eq_true' _).mp hb53)
         have hsh := Nat.div_le_self t.mask (2 ^ k)
         refine fp M 1 49 [(54, vP g3 4)] fun a M => s_fc M O 50 0 (v := vQ t.mask) fun a M => ?_
         refine fp M 1 51 [(56, vP g3 3)] fun a M => s_fc M O 52 0 (v := vI t.cpu) fun a M => ?_
         replace M := M.sp 57 (vI k) rfl (by rw [hk])
         refine s_fz M O 53 rfl (v := vQ (t.mask / 2 ^ k : Nat)) (Yl.shrN (m := t.mask) (n := k) rfl rfl rfl (by show _ ≤ 64; omega)) fun a M => ?_
         refine fp M 1 54 [(59, vQ (IntKind.u64.wrap (BitVec.ofInt (IntKind.u64).bits ((t.mask / 2 ^ k : Nat) : Int) &&& BitVec.ofInt (IntKind.u64).bits 1).toNat))] fun a M => ?_
         replace M := M.sp 59 (vQ ((t.mask / 2 ^ k) % 2 : Nat)) rfl (qut (n := 1) (j := 1) rfl (by decide) (by omega))
         refine fp M 3 55 [(62, .bool ((((t.mask / 2 ^ k) % 2 : Nat) : Int) == (1 : Int)))] fun a M => ?_
         rcases M.tf 62 rfl with ⟨hb62, M⟩ | ⟨hb62, M⟩
         ·
          have hd62 := eq_of_beq hb62
          refine fp M 1 58 [(63, vP g3 6)] fun a M => s_fc M O 59 0 (v := vQ t.v) fun a M => ?_
          refine fp M 1 60 [(65, vP g3 7)] fun a M => s_fc M O 61 0 (v := vW t.r) fun a M => ?_
          refine fp M 1 62 [(67, vP g3 2)] fun a M => s_fc M O 63 0 (v := vI t.weight) fun a M => ?_
          refine fo M 64 rfl rfl (e_is M O [vQ t.v, vW t.r, vI t.weight] (.agg #[vQ t.v, vW t.r, vW t.weight]) rfl rfl (qh9 t.v t.r t.weight (by omega) _) fun w69 hbw O a M => ?_)
          refine fo M 65 rfl rfl (e_is M O [.agg #[vQ t.v, vW t.r, vW t.weight]] (.bool (entOk t.v t.r t.weight)) rfl rfl (qh8 t.v t.r t.weight (by omega) (by omega) (by omega) _) fun w70 hbw O a M => ?_)
          refine fp M 2 66 [(4, .bool (entOk t.v t.r t.weight))] fun a M => s_d0 ?_
          replace M := M.to [(4, .bool (entOk t.v t.r t.weight))]
          refine wp_ret ?_
          exact s_rt1 rfl M rfl (is_as (qrh (by omega) (by omega) (by rw [hn, Int.toNat_natCast]; simpa using hb53) (by rw [hk, Int.toNat_natCast]; omega)).symm O.below)
         have hd62 := ne_of_beq_false hb62
         refine fp M 10 58 [(4, .bool false)] fun a M => s_d0 ?_
         replace M := M.to [(4, .bool false)]
         refine wp_ret ?_
         exact s_rt1 rfl M rfl (is_as (qxk (by rw [hk, Int.toNat_natCast]; omega)).symm O.below)
        have hd53 := of_decide_eq_true ((Bool.not_eq_false' _).mp hb53)
        refine fp M 19 49 [(4, .bool false)] fun a M => s_d0 ?_
        replace M := M.to [(4, .bool false)]
        refine wp_ret ?_
        exact s_rt1 rfl M rfl (is_as (qxj (by rw [hn, Int.toNat_natCast]; simpa using hb53)).symm O.below)
       have hd44 := of_decide_eq_false hb44
       refine fp M 28 40 [(4, .bool false)] fun a M => s_d0 (wp_ret ?_)
       exact s_rt1 rfl M rfl (is_as (qrg (by omega)).symm O.below)
      have hd39 := of_decide_eq_false hb39
      refine fp M 33 35 [(4, .bool false)] fun a M => s_d0 (wp_ret ?_)
      exact s_rt1 rfl M rfl (is_as (qcr (by omega)).symm O.below)
     have hd31 := of_decide_eq_false hb31
     refine fp M 41 27 [(4, .bool false)] fun a M => s_d0 (wp_ret ?_)
     exact s_rt1 rfl M rfl (is_as (qcr (by omega)).symm O.below)
    have hd26 := of_decide_eq_false hb26
    refine fp M 46 22 [(4, .bool false)] fun a M => s_d0 (wp_ret ?_)
    exact s_rt1 rfl M rfl (is_as (qcr (by omega)).symm O.below)
   have hd18 := of_decide_eq_false hb18
   refine fp M 54 14 [(4, .bool false)] fun a M => s_d0 (wp_ret ?_)
   exact s_rt1 rfl M rfl (is_as (qcr (by omega)).symm O.below)
  have hd13 := of_decide_eq_false hb13
  refine fp M 59 9 [(4, .bool false)] fun a M => s_d0 (wp_ret ?_)
  exact s_rt1 rfl M rfl (is_as (qcr (by omega)).symm O.below)
 have hd8 := of_decide_eq_false hb8
 refine fp M 64 4 [(4, .bool false)] fun a M => s_d0 (wp_ret ?_)
 exact s_rt1 rfl M rfl (is_as (qcr (by omega)).symm O.below)
theorem qgz (x : Stm) (hok : x.sta.Ok) (hf : StFew x) (w : World) (hx : StRd w x) :
    Calls Tryz.prog 117 #[.agg #[.int .i64 x.cpus, .int .u64 (x.credit : Int), .slice x.gA x.gs.length x.gc]] w (Is w (.bool (cfgOk x.sta))) := by
 have hc := hok.cpus
 have hcr := hok.credit
 replace hc : I64 x.cpus := hc
 replace hcr : x.credit < 18446744073709551616 := hcr
 unfold I64 at hc
 refine s_ce Tryz.func117 [.agg #[vI x.cpus, vQ x.credit, .slice x.gA x.gs.length x.gc]] [(0, .agg #[vI x.cpus, vQ x.credit, .slice x.gA x.gs.length x.gc])] fun a M => ?_
 have O := Mem.start w
 refine s_fs1 ?_
 refine fo M 0 rfl rfl (s_eb M O #[vI x.cpus, vQ x.credit, .slice x.gA x.gs.length x.gc] fun a w1 g1 M O => ?_)
 refine fp M 1 1 [(2, .bool false)] fun a M => s_d0 (s_fs1 ?_)
 refine fp M 1 0 [(3, vP g1 0)] fun a M => s_fc M O 1 0 fun a M => ?_
 refine fp M 2 2 [(6, .bool (decide ((x.cpus : Int) ≥ (1 : Int))))] fun a M => ?_
 rcases M.tf 6 rfl with ⟨hb6, M⟩ | ⟨hb6, M⟩
 ·
  have hd6 := of_decide_eq_true hb6
  refine fp M 1 4 [(7, vP g1 0)] fun a M => s_fc M O 5 0 fun a M => ?_
  refine fp M 3 6 [(11, .bool (decide ((x.cpus : Int) ≤ (64 : Int))))] fun a M => ?_
  rcases M.tf 11 rfl with ⟨hb11, M⟩ | ⟨hb11, M⟩
  ·
   have hd11 := of_decide_eq_true hb11
   refine fp M 1 9 [(12, vP g1 1)] fun a M => s_fc M O 10 0 fun a M => ?_
   refine fp M 3 11 [(16, .bool (decide ((x.credit : Int) ≤ (1099511627776 : Int))))] fun a M => ?_
   rcases M.tf 16 rfl with ⟨hb16, M⟩ | ⟨hb16, M⟩
   ·
    have hd16 := of_decide_eq_true hb16
    refine fp M 1 14 [(17, vP g1 2)] fun a M => s_fc M O 15 0 fun a M => ?_
    refine fo M 16 rfl rfl (e_is M O [.slice x.gA x.gs.length x.gc] (.bool (gsOk x.gs)) rfl rfl (qpe x.gA x.gc x.gs hok.gs _ (O.old hx.g) hf.g) fun w19 hbw O a M => ?_)
    refine fp M 2 17 [(2, .bool (gsOk x.gs))] fun a M => s_d0 (wp_ret ?_)
    exact s_rt1 rfl M rfl (is_as (qri (by omega)).symm O.below)
   have hd16 := of_decide_eq_false hb16
   refine fp M 5 14 [(2, .bool false)] fun a M => s_d0 (wp_ret ?_)
   exact s_rt1 rfl M rfl (is_as (qh3 (by omega)).symm O.below)
  have hd11 := of_decide_eq_false hb11
  refine fp M 10 9 [(2, .bool false)] fun a M => s_d0 (wp_ret ?_)
  exact s_rt1 rfl M rfl (is_as (qh3 (by omega)).symm O.below)
 have hd6 := of_decide_eq_false hb6
 refine fp M 15 4 [(2, .bool false)] fun a M => s_d0 (wp_ret ?_)
 exact s_rt1 rfl M rfl (is_as (qh3 (by omega)).symm O.below)
theorem qrz (t : Int) (w : World) : Calls Tryz.prog 119 #[.int .i64 t] w (Is w (.bool (!clOk t))) := by
 refine s_ce Tryz.func119 [vI t] [(0, vI t)] fun a M => ?_
 have O := Mem.start w
 refine s_fs1 ?_
 refine fp M 1 0 [(2, .bool false)] fun a M => s_d0 (s_fs1 ?_)
 refine fp M 3 0 [(5, .bool (decide ((t : Int) < (0 : Int))))] fun a M => ?_
 rcases M.tf 5 rfl with ⟨hb5, M⟩ | ⟨hb5, M⟩
 ·
  have hd5 := of_decide_eq_true hb5
  refine fp M 4 3 [(2, .bool true)] fun a M => s_d0 (wp_ret ?_)
  exact s_rt1 rfl M rfl (is_as (by first | (unfold clOk; rw [decide_eq_false (by omega)]; rfl) | (unfold clOk; rw [← decide_not]; exact decide_eq_decide.2 (by omega))) O.below)
 have hd5 := of_decide_eq_false hb5
 refine fp M 4 3 [(2, .bool (decide ((t : Int) > (281474976710656 : Int))))] fun a M => s_d0 (wp_ret ?_)
 exact s_rt1 rfl M rfl (is_as (by first | (unfold clOk; rw [decide_eq_false (by omega)]; rfl) | (unfold clOk; rw [← decide_not]; exact decide_eq_decide.2 (by omega))) O.below)
theorem ql9 (A : Option Addr) (c : Nat) (l : List Int) (w : World) (hr : Rd w w.heap.size 1 A l.length (l.map I64i)) (hn : l.length ≤ 1000000) :
    Calls Tryz.prog 140 #[.slice A l.length c, .func (.func 119) #[] #[]] w (BadAt w l.length (fun c => clOk (l.getD c 0))) := by
 refine s_ce Tryz.func140 [.slice A l.length c, .func (.func 119) #[] #[]] [(0, .slice A l.length c), (1, .func (.func 119) #[] #[])] fun a M => ?_
 have O := Mem.start w
 refine s_fs1 ?_
 refine fp M 1 0 [(4, vI 0)] fun a M => s_d0 (wp_seq (s_fs1 ?_))
 refine fp M 1 0 [(6, .slice A l.length c)] fun a M => s_fl M 1 fun a M => ?_
 refine fp M 1 2 [(8, vI 0)] fun a M => s_d0 (wp_block ?_)
 refine qe (fun mS aS wS => ∃ (k : Nat), (k ≤ l.length) ∧ (UpTo k (fun c => clOk (l.getD c 0))) ∧ mS = l.length - k ∧ Fr aS 19 [] [(8, vI k), (7, vI l.length), (4, vI 0), (0, .slice A l.length c), (1, .func (.func 119) #[] #[])] ∧ Mem w wS []) (m := l.length - 0) ⟨0, Nat.zero_le _, UpTo.zero, rfl, M.sub (by kernel_rfl), O.pk []⟩ ?_
 clear M O; rintro mS a w_ ⟨k, hk, hu, rfl, M, O⟩
 refine s_fs1 ?_
 refine fp M 1 0 [(9, .bool (decide ((k : Int) < (l.length : Int))))] fun a M => s_d0 (wp_seq ?_)
 rcases M.tf 9 rfl with ⟨hb9, M⟩ | ⟨hb9, M⟩
 ·
  have hd9 := of_decide_eq_true hb9
  have hk9 : k < l.length := by omega
  refine s_ct M (wp_skip (wp_seq (wp_block (s_fs1 ?_))))
  refine fp M 2 0 [(5, vI k)] fun a M => s_d0 (s_fs1 ?_)
  refine fp M 3 0 [(13, vI k), (12, .slice A l.length c), (11, .func (.func 119) #[] #[])] fun a M => ?_
  obtain ⟨gA, oA, rfl, _⟩ := hr.qi (Nat.lt_of_le_of_lt (Nat.zero_le _) (show k < l.length from by omega)) (by decide)
  refine s_fz M O 3 rfl (v := vP gA (oA + k * 1)) (Yl.ix gA oA k 1 rfl rfl rfl) fun a M => ?_
  refine s_fz M O 4 rfl (v := vI (l.getD k 0)) (Yl.o1 hr k 0 (by omega) rfl rfl) fun a M => ?_
  refine fo M 5 rfl rfl ?_
  refine qgj M (f := 119) (vs := [vI (l.getD k 0)]) (fst := []) (caps := []) rfl rfl rfl (by kernel_rfl) rfl (by decide) (qrz (l.getD k 0) _) ?_
  rintro _ w16 ⟨rfl, hbw⟩
  refine ⟨_, rfl, ?_⟩
  replace O := O.call hbw
  clear M; intro a M
  refine s_d0 ?_
  rcases M.tf 16 rfl with ⟨hb16, M⟩ | ⟨hb16, M⟩
  ·
   refine s_ct M (s_fs1 ?_)
   refine fp M 2 0 [(4, vI k)] fun a M => s_d0 (wp_ret ?_)
   exact s_rt1 rfl M rfl (qpb hk9 (by simpa using hb16) O.below)
  refine s_cf M (wp_skip (qa ?_))
  refine fp M 1 0 [(18, vI (IntKind.i64.wrap ((k : Int) + 1)))] fun a M => ?_
  replace M := M.sp 18 (vI (k + 1 : Nat)) rfl (qc (by omega) (by omega))
  refine fp M 1 1 [(8, vI (k + 1 : Nat))] fun a M => s_d0 ?_
  exact ⟨_, (by omega), k + 1, by omega, hu.succ (by simpa using hb16), rfl, M.sub (by kernel_rfl), O.pk []⟩
 have hd9 := of_decide_eq_false hb9
 refine s_cf M (wp_exit (s_fs1 ?_))
 refine fp M 1 0 [(4, vI (-1))] fun a M => s_d0 (wp_ret ?_)
 exact s_rt1 rfl M rfl (qpc (fun i hi => hu i (by omega)) O.below)
theorem qhp (A : Option Addr) (c : Nat) (l : List Int) (w : World) (hr : Rd w w.heap.size 1 A l.length (l.map I64i)) (hn : l.length ≤ 1000000) :
    Calls Tryz.prog 118 #[.slice A l.length c, .func (.func 119) #[] #[]] w (Is w (.bool (!allN l.length (fun c => clOk (l.getD c 0))))) := by
 refine s_ce Tryz.func118 [.slice A l.length c, .func (.func 119) #[] #[]] [(0, .slice A l.length c), (1, .func (.func 119) #[] #[])] fun a M => ?_
 have O := Mem.start w
 refine s_fs1 ?_
 refine fp M 1 0 [(4, .bool false)] fun a M => s_d0 (s_fs1 ?_)
 refine fp M 2 0 [(6, .func (.func 119) #[] #[]), (5, .slice A l.length c)] fun a M => fo M 2 rfl rfl ?_
 refine e_cl M [.slice A l.length c, .func (.func 119) #[] #[]] rfl rfl (ql9 A c l _ (O.old hr) hn) ?_
 rintro _ w7 ⟨⟨i, rfl, he⟩, hbw⟩
 refine ⟨_, rfl, ?_⟩
 replace O := O.call hbw
 clear M; intro a M
 refine fp M 2 3 [(4, .bool (decide ((i : Int) ≥ (0 : Int))))] fun a M => s_d0 (wp_ret ?_)
 exact s_rt1 rfl M rfl (is_as he O.below)
theorem qpf (x : Stm) (hok : x.sta.Ok) (hf : StFew x) (w : World) (hx : StRd w x) :
    Calls Tryz.prog 92 #[.agg x.cells] w (Is w (.bool (zg x.sta))) := by
 have hfs := hf.s; have hft := hf.t; have hfg := hf.g; have hfl := hf.l; have hfu := hf.u
 refine s_ce Tryz.func92 [.agg x.cells] [(0, .agg x.cells)] fun a M => ?_
 have O := Mem.start w
 refine s_fs1 ?_
 refine fo M 0 rfl rfl (s_eb M O x.cells fun a w1 g1 M O => ?_)
 refine fp M 1 1 [(2, .bool false)] fun a M => s_d0 (wp_seq (s_fs1 ?_))
 refine fp M 1 0 [(9, vP g1 0)] fun a M => s_fz M O 1 rfl (v := .agg #[vI x.cpus, vQ x.credit, .slice x.gA x.gs.length x.gc]) (Yl.qt rfl rfl qbo rfl (fun _ h => h.sub (i := 0) rfl 0 rfl)) fun a M => ?_
 refine fo M 2 rfl rfl (e_is M O [.agg #[vI x.cpus, vQ x.credit, .slice x.gA x.gs.length x.gc]] (.bool (cfgOk x.sta)) rfl rfl (qgz x hok hf _ (hx.old O)) fun w11 hbw O a M => ?_)
 refine fp M 2 3 [(13, .bool (!(cfgOk x.sta)))] fun a M => ?_
 rcases M.tf 13 rfl with ⟨hb13, M⟩ | ⟨hb13, M⟩
 ·
  refine fp M 27 5 [(40, .bool true)] fun a M => s_d0 (s_ct M (s_fs1 ?_))
  refine fp M 1 0 [(2, .bool false)] fun a M => s_d0 (wp_ret ?_)
  exact s_rt1 rfl M rfl (is_as (q1c (by simpa using hb13)).symm O.below)
 have hcf : cfgOk x.sta = true := by simpa using hb13
 obtain ⟨hc1, hc2, hc3, hgs⟩ := qdg hcf
 have hcp : 1 ≤ x.cpus ∧ x.cpus ≤ 64 := ⟨hc1, hc2⟩
 refine fp M 1 5 [(14, vP g1 3)] fun a M => s_fc M O 6 0 (v := .slice x.lA x.cl.length x.lc) fun a M => ?_
 refine s_fl M 7 fun a M => ?_
 refine fp M 2 8 [(18, vP g1 0)] fun a M => s_fc M O 10 0 (v := vI x.cpus) fun a M => ?_
 refine fp M 3 11 [(22, .bool ((x.cl.length : Int) != (x.cpus : Int)))] fun a M => ?_
 rcases M.tf 22 rfl with ⟨hb22, M⟩ | ⟨hb22, M⟩
 ·
  have hd22 := bne_iff_ne.1 hb22
  refine fp M 18 14 [(40, .bool true)] fun a M => s_d0 (s_ct M (s_fs1 ?_))
  refine fp M 1 0 [(2, .bool false)] fun a M => s_d0 (wp_ret ?_)
  exact s_rt1 rfl M rfl (is_as (qrj (by omega)).symm O.below)
 have hd22 := bne_eq_false_iff_eq.1 hb22
 refine fp M 1 14 [(23, vP g1 4)] fun a M => s_fc M O 15 0 (v := .slice x.uA x.cu.length x.uc) fun a M => ?_
 refine s_fl M 16 fun a M => ?_
 refine fp M 2 17 [(27, vP g1 0)] fun a M => s_fc M O 19 0 (v := vI x.cpus) fun a M => ?_
 refine fp M 3 20 [(31, .bool ((x.cu.length : Int) != (x.cpus : Int)))] fun a M => ?_
 rcases M.tf 31 rfl with ⟨hb31, M⟩ | ⟨hb31, M⟩
 ·
  have hd31 := bne_iff_ne.1 hb31
  refine fp M 9 23 [(40, .bool true)] fun a M => s_d0 (s_ct M (s_fs1 ?_))
  refine fp M 1 0 [(2, .bool false)] fun a M => s_d0 (wp_ret ?_)
  exact s_rt1 rfl M rfl (is_as (qrj (by omega)).symm O.below)
 have hd31 := bne_eq_false_iff_eq.1 hb31
 refine fp M 1 23 [(32, vP g1 6)] fun a M => s_fc M O 24 0 (v := .slice x.sA x.rs.length x.sc) fun a M => ?_
 refine s_fl M 25 fun a M => ?_
 refine fp M 2 26 [(36, vP g1 2)] fun a M => s_fc M O 28 0 (v := .slice x.gA x.gs.length x.gc) fun a M => ?_
 refine s_fl M 29 fun a M => ?_
 refine fp M 2 30 [(40, .bool ((x.rs.length : Int) != (x.gs.length : Int)))] fun a M => s_d0 ?_
 rcases M.tf 40 rfl with ⟨hb40, M⟩ | ⟨hb40, M⟩
 ·
  have hd40 := bne_iff_ne.1 hb40
  refine s_ct M (s_fs1 ?_)
  refine fp M 1 0 [(2, .bool false)] fun a M => s_d0 (wp_ret ?_)
  exact s_rt1 rfl M rfl (is_as (qrj (by omega)).symm O.below)
 have hd40 := bne_eq_false_iff_eq.1 hb40
 refine s_cf M (wp_skip (wp_seq (s_fs1 ?_)))
 refine fp M 1 0 [(41, vP g1 3)] fun a M => s_fc M O 1 0 (v := .slice x.lA x.cl.length x.lc) fun a M => ?_
 refine fo M 2 rfl rfl (e_is M O [.slice x.lA x.cl.length x.lc, .func (.func 119) #[] #[]] (.bool (!allN x.cl.length (fun c => clOk (x.cl.getD c 0)))) rfl rfl (qhp x.lA x.lc x.cl _ (O.old hx.l) hf.l) fun w43 hbw O a M => ?_)
 refine s_d0 ?_
 rcases M.tf 43 rfl with ⟨hb43, M⟩ | ⟨hb43, M⟩
 ·
  refine s_ct M (s_fs1 ?_)
  refine fp M 1 0 [(2, .bool false)] fun a M => s_d0 (wp_ret ?_)
  exact s_rt1 rfl M rfl (is_as (sh_cl (by simpa using hb43)).symm O.below)
 have hcl : allN x.cl.length (fun c => clOk (x.cl.getD c 0)) = true := by simpa using hb43
 refine s_cf M (wp_skip (wp_seq (s_fs1 ?_)))
 refine fp M 1 0 [(44, vP g1 6)] fun a M => s_fc M O 1 0 (v := .slice x.sA x.rs.length x.sc) fun a M => ?_
 refine s_fl M 2 fun a M => ?_
 refine fp M 1 3 [(47, vI 0)] fun a M => s_d0 (wp_block ?_)
 refine qe (fun mS aS wS => ∃ (g : Nat), (g ≤ x.rs.length) ∧ (UpTo g (rowOk x.sta)) ∧ mS = x.rs.length - g ∧ Fr aS 123 [] [(47, vI g), (46, vI x.rs.length), (45, .slice x.sA x.rs.length x.sc), (43, .bool false), (40, .bool false), (2, .bool false), (1, vP g1 0)] ∧ Mem w wS [.blk g1 x.cells 30]) (m := x.rs.length - 0) ⟨0, Nat.zero_le _, UpTo.zero, rfl, M.sub (by kernel_rfl), O.pk [0]⟩ ?_
 clear M O; rintro mS a w_ ⟨g, hg, hu, rfl, M, O⟩
 refine s_fs1 ?_
 refine fp M 1 0 [(48, .bool (decide ((g : Int) < (x.rs.length : Int))))] fun a M => s_d0 (wp_seq ?_)
 rcases M.tf 48 rfl with ⟨hb48, M⟩ | ⟨hb48, M⟩
 ·
  have hd48 := of_decide_eq_true hb48
  have hg48 : g < x.rs.length := by omega
  obtain ⟨y, hy⟩ : ∃ z, x.rs.getD g Rw.zero = z := ⟨_, rfl⟩
  have hyr : Rd w w.heap.size 3 y.A y.l.length (y.l.flatMap spL) := by rw [← hy]; exact hx.row hg48
  have hyl : y.l.length ≤ 1000000 := by rw [← hy]; exact hf.r _ (qr Rw.zero hg48)
  have hyo : ∀ z ∈ y.l, z.Ok := by rw [← hy, ← rs_at hg48]; exact hok.sp _ (qr [] (by rw [qaz]; exact hg48))
  obtain ⟨wt, hwt⟩ : ∃ z, (x.gs.getD g Gr.zero).weight = z := ⟨_, rfl⟩
  have hw1 := wt_at hgs (show g < x.gs.length by omega)
  rw [hwt] at hw1
  obtain ⟨gq1, oq1, hq1, _⟩ := Rd.qi hx.g (Nat.lt_of_le_of_lt (Nat.zero_le _) (show g < x.gs.length from by omega)) (by decide)
  have hrq1 := hx.g; rw [hq1] at hrq1
  refine s_ct M (wp_skip (wp_seq (wp_block (s_fs1 ?_))))
  refine fp M 1 0 [(49, vI g)] fun a M => ?_
  obtain ⟨gq2, oq2, hq2, _⟩ := Rd.qi hx.s (Nat.lt_of_le_of_lt (Nat.zero_le _) (show g < x.rs.length from by omega)) (by decide)
  have hrq2 := hx.s; rw [hq2] at hrq2
  replace M := M.sp 45 (.slice (some ⟨gq2, oq2, none⟩) x.rs.length x.sc) rfl (by rw [hq2]; try rfl)
  refine s_fz M O 1 rfl (v := vP gq2 (oq2 + g * 1)) (Yl.ix gq2 oq2 g 1 rfl rfl rfl) fun a M => ?_
  refine s_fz M O 2 rfl (v := .slice ((x.rs.getD g Rw.zero).A) ((x.rs.getD g Rw.zero).l.length) ((x.rs.getD g Rw.zero).c)) (Yl.o1 hrq2 g Rw.zero (by first | omega | (simp; omega)) rfl rfl) fun a M => ?_
  replace M := M.sp 51 (.slice y.A y.l.length y.c) rfl (by rw [hy])
  refine fp M 2 3 [(4, .slice y.A y.l.length y.c), (3, vI g)] fun a M => s_d0 (wp_seq (s_fs1 ?_))
  refine fp M 1 0 [(52, .slice y.A y.l.length y.c)] fun a M => s_fl M 1 fun a M => ?_
  refine fp M 2 2 [(55, vP g1 0)] fun a M => s_fc M O 4 0 (v := vI x.cpus) fun a M => ?_
  refine fp M 1 5 [(57, .bool ((y.l.length : Int) != (x.cpus : Int)))] fun a M => s_d0 ?_
  rcases M.tf 57 rfl with ⟨hb57, M⟩ | ⟨hb57, M⟩
  ·
   have hd57 := bne_iff_ne.1 hb57
   refine s_ct M (s_fs1 ?_)
   refine fp M 1 0 [(2, .bool false)] fun a M => s_d0 (wp_ret ?_)
   exact s_rt1 rfl M rfl (is_as (qxl hg48 (qrk hg48 (by rw [hy]; omega))).symm O.below)
  have hd57 := bne_eq_false_iff_eq.1 hb57
  refine s_cf M (wp_skip (s_fs1 ?_))
  refine fp M 1 0 [(58, .slice y.A y.l.length y.c)] fun a M => s_fl M 1 fun a M => ?_
  refine fp M 1 2 [(60, vI 0)] fun a M => s_d0 (wp_block ?_)
  refine qe (fun mS aS wS => ∃ (c : Nat), (c ≤ y.l.length) ∧ (UpTo c (fun c => spOk x.sta g (y.l.getD c Sp.zero))) ∧ mS = y.l.length - c ∧ Fr aS 123 [] [(60, vI c), (59, vI y.l.length), (58, .slice y.A y.l.length y.c), (57, .bool false), (4, .slice y.A y.l.length y.c), (3, vI g), (45, .slice (some ⟨gq2, oq2, none⟩) x.rs.length x.sc), (48, .bool true), (47, vI g), (46, vI x.rs.length), (43, .bool false), (40, .bool false), (2, .bool false), (1, vP g1 0)] ∧ Mem w wS [.blk g1 x.cells 30]) (m := y.l.length - 0) ⟨0, Nat.zero_le _, UpTo.zero, rfl, M.sub (by kernel_rfl), O.pk [0]⟩ ?_
  clear M O; rintro mS a w_ ⟨c, hc, hu2, rfl, M, O⟩
  refine s_fs1 ?_
  refine fp M 1 0 [(61, .bool (decide ((c : Int) < (y.l.length : Int))))] fun a M => s_d0 (wp_seq ?_)
  rcases M.tf 61 rfl with ⟨hb61, M⟩ | ⟨hb61, M⟩
  ·
   have hd61 := of_decide_eq_true hb61
   have hc61 : c < y.l.length := by omega
   obtain ⟨z, hz⟩ : ∃ q, y.l.getD c Sp.zero = q := ⟨_, rfl⟩
   have hzo := hyo _ (qr Sp.zero hc61)
   rw [hz] at hzo
   have hzv := hzo.v; have hzr := hzo.r
   refine s_ct M (wp_skip (wp_seq (wp_block (s_fs1 ?_))))
   obtain ⟨gq3, oq3, hq3, _⟩ := Rd.qi hyr (Nat.lt_of_le_of_lt (Nat.zero_le _) (show c < y.l.length from by omega)) (by decide)
   have hrq3 := hyr; rw [hq3] at hrq3
   replace M := M.sp 58 (.slice (some ⟨gq3, oq3, none⟩) y.l.length y.c) rfl (by rw [hq3]; try rfl)
   refine s_fz M O 0 rfl (v := vP gq3 (oq3 + c * 3)) (Yl.ix gq3 oq3 c 3 rfl rfl rfl) fun a M => ?_
   refine s_fz M O 1 rfl (v := .agg ((y.l.getD c Sp.zero).cells)) (Yl.qt rfl rfl si_sp rfl (fun _ h => (h.old hrq3).zf qau ((getD_at Sp.zero hc61)))) fun a M => ?_
   replace M := M.sp 63 (.agg z.cells) rfl (by rw [hz])
   refine fo M 2 rfl rfl (s_ea M O #[vQ 0, vW 0, vQ 0] fun a w6 g6 M O => ?_)
   refine fo M 3 rfl rfl (e_sa M O 0 rfl rfl rfl rfl rfl si_sp rfl rfl (qxg z) fun w12_3 O => ?_)
   refine s_d0 (qaj (fun aS wS => Fr aS 123 [] [(91, .bool (!spOk x.sta g z)), (6, vP g6 0), (58, .slice (some ⟨gq3, oq3, none⟩) y.l.length y.c), (61, .bool true), (60, vI c), (59, vI y.l.length), (57, .bool false), (4, .slice y.A y.l.length y.c), (3, vI g), (45, .slice (some ⟨gq2, oq2, none⟩) x.rs.length x.sc), (48, .bool true), (47, vI g), (46, vI x.rs.length), (43, .bool false), (40, .bool false), (2, .bool false), (1, vP g1 0)] ∧ Mem w wS [.blk g6 z.cells 43, .blk g1 x.cells 30]) ?_ ?_)
   ·
    refine qz O [.blk g6 z.cells 43, .blk g1 x.cells 30] [0, 1] [] fun O Z => ?_
    refine ap M (fun _ => Z) [0, 2, 4, 5, 7] (bf 28 [0, 2, 4, 5, 7]) [(71, vI g), (69, vP g1 2), (66, vP g6 1), (64, vP g6 0)] fun a M => ?_
    refine s_ac M Z 1 0 (v := vQ z.v) fun a M => ?_
    refine s_ac M Z 3 0 (v := vW z.r) fun a M => ?_
    refine s_ac M Z 6 1 (v := .slice x.gA x.gs.length x.gc) fun a M => ?_
    replace M := M.sp 70 (.slice (some ⟨gq1, oq1, none⟩) x.gs.length x.gc) rfl (by rw [hq1]; try rfl)
    refine s_az M Z 8 rfl (v := vP gq1 (oq1 + g * 2)) (Yl.ix gq1 oq1 g 2 rfl rfl rfl) fun a M => ?_
    refine ap M (fun _ => Z) [9] (bf 28 [0, 1, 2, 3, 4, 5, 6, 7, 8, 9]) [(73, vP gq1 (oq1 + g * 2 + 1))] fun a M => ?_
    refine s_az M Z 10 rfl (v := vI ((x.gs.getD g Gr.zero).weight)) (Yl.qk rfl rfl (by kernel_rfl) (fun _ h => (h.old hrq1).partAt zx (k := g) (j := 1) (x := (x.gs.getD g Gr.zero)) ((getD_at Gr.zero (by omega))) rfl)) fun a M => ?_
    replace M := M.sp 74 (vI wt) rfl (by rw [hwt])
    refine s_on M 11 rfl (e_is M O [vQ z.v, vW z.r, vI wt] (.agg #[vQ z.v, vW z.r, vW wt]) rfl rfl (qh9 z.v z.r wt (by omega) _) fun w75 hbw O a M => ?_)
    refine keepS (O.pk [0, 1]) (fun Z => ?_)
    refine s_on M 12 rfl (e_is M O [.agg #[vQ z.v, vW z.r, vW wt]] (.bool (entOk z.v z.r wt)) rfl rfl (qh8 z.v z.r wt (by omega) (by omega) (by omega) _) fun w76 hbw O a M => ?_)
    refine keepS (O.pk [0, 1]) (fun Z => ?_)
    refine ap M (fun _ => Z) [13, 14] (bt 28 [15, 16, 17, 18, 19, 20, 21, 22, 23, 24, 25, 26, 27]) [(78, .bool (!(entOk z.v z.r wt)))] fun a M => ?_
    rcases M.tf 78 rfl with ⟨hb78, M⟩ | ⟨hb78, M⟩
    ·
     refine ap M (fun _ => Z) [15, 16, 17, 18, 19, 20, 21, 22, 23, 24, 25, 26, 27] (bt 28 []) [(91, .bool true)] fun a M => ?_
     refine qh (by kernel_rfl) ?_
     have M := M.sp 91 (.bool (!spOk x.sta g z)) rfl (congrArg Value.bool (by rw [qxm (by rw [hwt]; simpa using hb78)]; rfl))
     exact ⟨M.sub (by kernel_rfl), O.pk [0, 1]⟩
    refine ap M (fun _ => Z) [15, 16, 17] (bt 28 [18, 19, 20, 21, 22, 23, 24, 25, 26, 27]) [(81, .bool ((g : Int) == (0 : Int)))] fun a M => ?_
    rcases M.tf 81 rfl with ⟨hb81, M⟩ | ⟨hb81, M⟩
    ·
     have hd81 := eq_of_beq hb81
     refine ap M (fun _ => Z) [18] (bt 28 [19, 20, 21, 22, 23, 24, 25, 26, 27]) [(82, vP g6 0)] fun a M => ?_
     refine s_ac M Z 19 0 (v := vQ z.v) fun a M => ?_
     refine ap M (fun _ => Z) [20, 21] (bt 28 [22, 23, 24, 25, 26, 27]) [(85, .bool ((z.v : Int) != (0 : Int)))] fun a M => ?_
     rcases M.tf 85 rfl with ⟨hb85, M⟩ | ⟨hb85, M⟩
     ·
      have hd85 := bne_iff_ne.1 hb85
      refine ap M (fun _ => Z) [22, 23, 24, 25, 26, 27] (bt 28 []) [(91, .bool true)] fun a M => ?_
      refine qh (by kernel_rfl) ?_
      have M := M.sp 91 (.bool (!spOk x.sta g z)) rfl (congrArg Value.bool (by rw [qxn (by omega) (by omega)]; rfl))
      exact ⟨M.sub (by kernel_rfl), O.pk [0, 1]⟩
     have hd85 := bne_eq_false_iff_eq.1 hb85
     refine ap M (fun _ => Z) [22] (bt 28 [23, 24, 25, 26, 27]) [(86, vP g6 1)] fun a M => ?_
     refine s_ac M Z 23 0 (v := vW z.r) fun a M => ?_
     refine ap M (fun _ => Z) [24, 25, 26, 27] (bt 28 []) [(91, .bool ((z.r : Int) != (0 : Int)))] fun a M => ?_
     refine qh (by kernel_rfl) ?_
     have M := M.sp 91 (.bool (!spOk x.sta g z)) rfl (congrArg Value.bool (qro (by rw [hwt]; simpa using hb78) (by omega) (by omega)))
     exact ⟨M.sub (by kernel_rfl), O.pk [0, 1]⟩
    have hd81 := ne_of_beq_false hb81
    refine ap M (fun _ => Z) [18, 19, 20, 21, 22, 23, 24, 25, 26, 27] (bt 28 []) [(91, .bool false)] fun a M => ?_
    refine qh (by kernel_rfl) ?_
    have M := M.sp 91 (.bool (!spOk x.sta g z)) rfl (congrArg Value.bool (by rw [qrn (by rw [hwt]; simpa using hb78) (by omega)]; rfl))
    exact ⟨M.sub (by kernel_rfl), O.pk [0, 1]⟩
   clear M O; rintro a w13 ⟨M, O⟩
   rcases M.tf 91 rfl with ⟨hb91, M⟩ | ⟨hb91, M⟩
   ·
    refine s_ct M (s_fs1 ?_)
    refine fp M 1 0 [(2, .bool false)] fun a M => s_d0 (wp_ret ?_)
    exact s_rt1 rfl M rfl (is_as (qxl hg48 (qrl hg48 (by rw [hy]; exact hc61) (by rw [hy, hz]; simpa using hb91))).symm O.below)
   refine s_cf M (wp_skip (qa ?_))
   refine fp M 1 0 [(92, vI (IntKind.i64.wrap ((c : Int) + 1)))] fun a M => ?_
   replace M := M.sp 92 (vI (c + 1 : Nat)) rfl (qc (by omega) (by omega))
   refine fp M 1 1 [(60, vI (c + 1 : Nat))] fun a M => s_d0 ?_
   replace M := M.sp 58 (.slice y.A y.l.length y.c) rfl (by rw [hq3])
   exact ⟨_, (by omega), c + 1, by omega, hu2.succ (by rw [hz]; simpa using hb91), rfl, M.sub (by kernel_rfl), O.pk [1]⟩
  have hd61 := of_decide_eq_false hb61
  refine s_cf M (wp_exit (qa ?_))
  refine fp M 1 0 [(93, vI (IntKind.i64.wrap ((g : Int) + 1)))] fun a M => ?_
  replace M := M.sp 93 (vI (g + 1 : Nat)) rfl (qc (by omega) (by omega))
  refine fp M 1 1 [(47, vI (g + 1 : Nat))] fun a M => s_d0 ?_
  replace M := M.sp 45 (.slice x.sA x.rs.length x.sc) rfl (by rw [hq2])
  exact ⟨_, (by omega), g + 1, by omega, hu.succ (qrm hg48 (by rw [hy]; omega) (by rw [hy]; exact fun i hi => hu2 i (by omega))), rfl, M.sub (by kernel_rfl), O.pk [0]⟩
 have hd48 := of_decide_eq_false hb48
 refine s_cf M (wp_exit (wp_seq (s_fs1 ?_)))
 refine fp M 1 0 [(94, vP g1 5)] fun a M => s_fc M O 1 0 (v := .slice x.tA x.ts.length x.tc) fun a M => ?_
 refine s_fl M 2 fun a M => ?_
 refine fp M 1 3 [(97, vI 0)] fun a M => s_d0 (wp_block ?_)
 refine qe (fun mS aS wS => ∃ (i : Nat), (i ≤ x.ts.length) ∧ (UpTo i (tkAt x.sta)) ∧ mS = x.ts.length - i ∧ Fr aS 123 [] [(97, vI i), (96, vI x.ts.length), (95, .slice x.tA x.ts.length x.tc), (48, .bool false), (47, vI g), (46, vI x.rs.length), (45, .slice x.sA x.rs.length x.sc), (43, .bool false), (40, .bool false), (2, .bool false), (1, vP g1 0)] ∧ Mem w wS [.blk g1 x.cells 30]) (m := x.ts.length - 0) ⟨0, Nat.zero_le _, UpTo.zero, rfl, M.sub (by kernel_rfl), O.pk [0]⟩ ?_
 clear M O; rintro mS a w_ ⟨i, hi, hu3, rfl, M, O⟩
 refine s_fs1 ?_
 refine fp M 1 0 [(98, .bool (decide ((i : Int) < (x.ts.length : Int))))] fun a M => s_d0 (wp_seq ?_)
 rcases M.tf 98 rfl with ⟨hb98, M⟩ | ⟨hb98, M⟩
 ·
  have hd98 := of_decide_eq_true hb98
  have hi98 : i < x.ts.length := by omega
  obtain ⟨t, ht⟩ : ∃ q, x.ts.getD i Tk.zero = q := ⟨_, rfl⟩
  have htok : t.Ok := by rw [← ht]; exact hok.ts _ (qr Tk.zero hi98)
  have hti := htok.id
  unfold I64 at hti
  refine s_ct M (wp_skip (wp_seq (wp_block (s_fs1 ?_))))
  refine fp M 1 0 [(99, vI i)] fun a M => ?_
  obtain ⟨gq4, oq4, hq4, _⟩ := Rd.qi hx.t (Nat.lt_of_le_of_lt (Nat.zero_le _) (show i < x.ts.length from by omega)) (by decide)
  have hrq4 := hx.t; rw [hq4] at hrq4
  replace M := M.sp 95 (.slice (some ⟨gq4, oq4, none⟩) x.ts.length x.tc) rfl (by rw [hq4]; try rfl)
  refine s_fz M O 1 rfl (v := vP gq4 (oq4 + i * 8)) (Yl.ix gq4 oq4 i 8 rfl rfl rfl) fun a M => ?_
  refine s_fz M O 2 rfl (v := .agg ((x.ts.getD i Tk.zero).cells)) (Yl.qt rfl rfl si_tk rfl (fun _ h => (h.old hrq4).zf z7 ((getD_at Tk.zero hi98)))) fun a M => ?_
  replace M := M.sp 101 (.agg t.cells) rfl (by rw [ht])
  refine fo M 3 rfl rfl (s_ea M O #[vI 0, vI 0, vI 0, vI 0, vQ 0, .bool false, vQ 0, vW 0] fun a w8 g8 M O => ?_)
  refine fp M 1 4 [(7, vI i)] fun a M => fo M 5 rfl rfl (e_sa M O 0 rfl rfl rfl rfl rfl si_tk rfl rfl (qkc t) fun w19_5 O => ?_)
  refine s_d0 (qaj (fun aS wS => Fr aS 123 [] [(121, .bool (!tkAt x.sta i)), (7, vI i), (8, vP g8 0), (95, .slice (some ⟨gq4, oq4, none⟩) x.ts.length x.tc), (98, .bool true), (97, vI i), (96, vI x.ts.length), (48, .bool false), (47, vI g), (46, vI x.rs.length), (45, .slice x.sA x.rs.length x.sc), (43, .bool false), (40, .bool false), (2, .bool false), (1, vP g1 0)] ∧ Mem w wS [.blk g8 t.cells 46, .blk g1 x.cells 30]) ?_ ?_)
  ·
   refine qz O [.blk g8 t.cells 46, .blk g1 x.cells 30] [0, 1] [] fun O Z => ?_
   refine ap M (fun _ => Z) [0, 1, 2] (bf 20 [0, 1, 2]) [(104, .bool (decide ((i : Int) > (0 : Int))))] fun a M => ?_
   rcases M.tf 104 rfl with ⟨hb104, M⟩ | ⟨hb104, M⟩
   ·
    have hd104 := of_decide_eq_true hb104
    refine ap M (fun _ => Z) [3, 5, 10] (bf 20 [0, 1, 2, 3, 5, 10]) [(112, vP g8 0), (107, vI i), (105, vP g1 5)] fun a M => ?_
    refine s_ac M Z 4 1 (v := .slice x.tA x.ts.length x.tc) fun a M => ?_
    refine qg M (fun _ => Z) (i := 6) rfl rfl (d := 108) rfl (by decide) (by kernel_rfl) (fun _ _ _ h => h) (v := vI (IntKind.i64.wrap ((i : Int) - 1))) (fun _ => Yl.pure (by kernel_rfl)) fun a M => ?_
    replace M := M.sp 108 (vI (i - 1 : Nat)) rfl (qc (by omega) (by omega))
    replace M := M.sp 106 (.slice (some ⟨gq4, oq4, none⟩) x.ts.length x.tc) rfl (by rw [hq4]; try rfl)
    refine s_az M Z 7 rfl (v := vP gq4 (oq4 + (i - 1) * 8)) (Yl.ix gq4 oq4 (i - 1) 8 rfl rfl rfl) fun a M => ?_
    refine ap M (fun _ => Z) [8] (bf 20 [0, 1, 2, 3, 4, 5, 6, 7, 8, 10]) [(110, vP gq4 (oq4 + (i - 1) * 8))] fun a M => ?_
    refine s_az M Z 9 rfl (v := vI ((x.ts.getD (i - 1) Tk.zero).id)) (Yl.qk rfl rfl (by kernel_rfl) (fun _ h => (by have := (h.old hrq4).partAt z7 (k := (i - 1)) (j := 0) (x := (x.ts.getD (i - 1) Tk.zero)) ((getD_at Tk.zero (k := (i - 1)) (by first | omega | (simp; omega)))) rfl; simpa using this))) fun a M => ?_
    refine s_ac M Z 11 0 (v := vI t.id) fun a M => ?_
    refine ap M (fun _ => Z) [12, 13, 14] (bt 20 [15, 16, 17, 18, 19]) [(116, .bool (decide (((x.ts.getD (i - 1) Tk.zero).id : Int) ≥ (t.id : Int))))] fun a M => ?_
    rcases M.tf 116 rfl with ⟨hb116, M⟩ | ⟨hb116, M⟩
    ·
     have hd116 := of_decide_eq_true hb116
     refine ap M (fun _ => Z) [15, 16, 17, 18, 19] (bt 20 []) [(121, .bool true)] fun a M => ?_
     refine qh (by kernel_rfl) ?_
     have M := M.sp 121 (.bool (!tkAt x.sta i)) rfl (congrArg Value.bool (by rw [qnf (by omega) (by rw [ht]; omega)]; rfl))
     exact ⟨M.sub (by kernel_rfl), O.pk [0, 1]⟩
    have hd116 := of_decide_eq_false hb116
    refine s_az M Z 15 rfl (v := .agg x.cells) (Yl.qt rfl rfl si_st rfl (fun _ h => qf (h.blk (i := 1) rfl))) fun a M => ?_
    refine s_az M Z 16 rfl (v := .agg t.cells) (Yl.qt rfl rfl si_tk rfl (fun _ h => qf (h.blk (i := 0) rfl))) fun a M => ?_
    refine s_on M 17 rfl (e_is M O [.agg x.cells, .agg t.cells] (.bool (tkOk1 x.sta t)) rfl rfl (qd9 x t htok hcp hf.s _) fun w119 hbw O a M => ?_)
    refine keepS (O.pk [0, 1]) (fun Z => ?_)
    refine ap M (fun _ => Z) [18, 19] (bt 20 []) [(121, .bool (!(tkOk1 x.sta t)))] fun a M => ?_
    refine qh (by kernel_rfl) ?_
    have M := M.sp 121 (.bool (!tkAt x.sta i)) rfl (congrArg Value.bool (by rw [qrp (by rw [ht]; omega), ht]))
    exact ⟨M.sub (by kernel_rfl), O.pk [0, 1]⟩
   have hd104 := of_decide_eq_false hb104
   refine ap M (fun _ => Z) [3, 4, 5, 6, 7, 8, 9, 10, 11, 12, 13, 14] (bt 20 [15, 16, 17, 18, 19]) [(116, .bool false)] fun a M => ?_
   refine s_az M Z 15 rfl (v := .agg x.cells) (Yl.qt rfl rfl si_st rfl (fun _ h => qf (h.blk (i := 1) rfl))) fun a M => ?_
   refine s_az M Z 16 rfl (v := .agg t.cells) (Yl.qt rfl rfl si_tk rfl (fun _ h => qf (h.blk (i := 0) rfl))) fun a M => ?_
   refine s_on M 17 rfl (e_is M O [.agg x.cells, .agg t.cells] (.bool (tkOk1 x.sta t)) rfl rfl (qd9 x t htok hcp hf.s _) fun w119 hbw O a M => ?_)
   refine keepS (O.pk [0, 1]) (fun Z => ?_)
   refine ap M (fun _ => Z) [18, 19] (bt 20 []) [(121, .bool (!(tkOk1 x.sta t)))] fun a M => ?_
   refine qh (by kernel_rfl) ?_
   have M := M.sp 121 (.bool (!tkAt x.sta i)) rfl (congrArg Value.bool (by rw [qrp (by rw [ht]; omega), ht]))
   exact ⟨M.sub (by kernel_rfl), O.pk [0, 1]⟩
  clear M O; rintro a w20 ⟨M, O⟩
  rcases M.tf 121 rfl with ⟨hb121, M⟩ | ⟨hb121, M⟩
  ·
   refine s_ct M (s_fs1 ?_)
   refine fp M 1 0 [(2, .bool false)] fun a M => s_d0 (wp_ret ?_)
   exact s_rt1 rfl M rfl (is_as (sh_tk hi98 (by simpa using hb121)).symm O.below)
  refine s_cf M (wp_skip (qa ?_))
  refine fp M 1 0 [(122, vI (IntKind.i64.wrap ((i : Int) + 1)))] fun a M => ?_
  replace M := M.sp 122 (vI (i + 1 : Nat)) rfl (qc (by omega) (by omega))
  refine fp M 1 1 [(97, vI (i + 1 : Nat))] fun a M => s_d0 ?_
  replace M := M.sp 95 (.slice x.tA x.ts.length x.tc) rfl (by rw [hq4])
  exact ⟨_, (by omega), i + 1, by omega, hu3.succ (by simpa using hb121), rfl, M.sub (by kernel_rfl), O.pk [1]⟩
 have hd98 := of_decide_eq_false hb98
 refine s_cf M (wp_exit (s_fs1 ?_))
 refine fp M 1 0 [(2, .bool true)] fun a M => s_d0 (wp_ret ?_)
 exact s_rt1 rfl M rfl (is_as (q1d hcf (by omega) hcl (fun i hi => hu i (by omega)) (fun j hj => hu3 j (by omega))).symm O.below)
theorem q1f {l : List Tk} {id : Int} {m : Nat} (hs : SortT l) (hm : m < l.length) (h : (l.getD m Tk.zero).id < id) : ∀ k, k < m + 1 → (l.getD k Tk.zero).id < id := fun k hk => by
 rcases Nat.lt_or_ge k m with h1 | h1
 ·have := hs k m h1 hm; omega
 ·obtain rfl : k = m := by omega
  exact h
theorem qy1 {l : List Tk} {id : Int} {m : Nat} (hs : SortT l) (hm : m < l.length) (h : id ≤ (l.getD m Tk.zero).id) : ∀ k, m ≤ k → k < l.length → id ≤ (l.getD k Tk.zero).id := fun k hk hl => by
 rcases Nat.lt_or_ge m k with h1 | h1
 ·have := hs m k h1 hl; omega
 ·obtain rfl : k = m := by omega
  exact h
theorem qma {w w' : World} {l : List Tk} {id : Int} {i : Nat} (hi : i = l.length) (h1 : ∀ k, k < i → (l.getD k Tk.zero).id < id) (hb : Below w.heap.size w w') : qf0 w l id (.returned (.tuple #[.int .i64 (i : Int), .bool false])) w' := by
 subst hi
 exact search_end h1 hb
theorem qea : SI Tryz.prog 156 3 := ⟨by kernel_rfl, by kernel_rfl⟩
theorem nan_i (p : Int) (w : World) : Calls Tryz.prog 144 #[.int .i64 p] w (Is w (.bool false)) := by
 refine s_ce Tryz.func144 [vI p] [(0, vI p)] fun a M => ?_
 have O := Mem.start w
 refine s_fs1 ?_
 refine fp M 1 0 [(2, .bool false)] fun a M => s_d0 (s_fs1 ?_)
 refine fp M 3 0 [(5, .bool ((p : Int) != (p : Int)))] fun a M => ?_
 replace M := M.sp 5 (.bool false) rfl (by simp)
 refine fp M 1 3 [(2, .bool false)] fun a M => s_d0 (wp_ret ?_)
 exact s_rt1 rfl M rfl (⟨rfl, O.below⟩)
theorem cmp_i (p q : Int) (w : World) : Calls Tryz.prog 125 #[.int .i64 p, .int .i64 q] w (Is w (.int .i64 (cmpI p q))) := by
 refine s_ce Tryz.func125 [vI p, vI q] [(0, vI p), (1, vI q)] fun a M => ?_
 have O := Mem.start w
 refine s_fs1 ?_
 refine fp M 1 0 [(4, vI 0)] fun a M => s_d0 (s_fs1 ?_)
 refine fp M 1 0 [(7, vI p)] fun a M => fo M 1 rfl rfl ?_
 refine e_cl M [vI p] rfl rfl (nan_i _ _) ?_
 rintro _ w8 ⟨rfl, hbw⟩
 refine ⟨_, rfl, ?_⟩
 replace O := O.call hbw
 clear M; intro a M
 refine fp M 1 2 [(5, .bool false)] fun a M => s_d0 (s_fs1 ?_)
 refine fp M 1 0 [(9, vI q)] fun a M => fo M 1 rfl rfl ?_
 refine e_cl M [vI q] rfl rfl (nan_i _ _) ?_
 rintro _ w10 ⟨rfl, hbw⟩
 refine ⟨_, rfl, ?_⟩
 replace O := O.call hbw
 clear M; intro a M
 refine fp M 1 2 [(6, .bool false)] fun a M => s_d0 (wp_seq (s_fs1 ?_))
 refine fp M 1 0 [(11, .bool false)] fun a M => s_d0 (s_cf M (wp_skip (wp_seq (s_fs1 ?_))))
 refine fp M 1 0 [(13, .bool false)] fun a M => s_d0 (s_cf M (wp_skip (wp_seq (s_fs1 ?_))))
 refine fp M 3 0 [(16, .bool (decide ((p : Int) < (q : Int))))] fun a M => s_d0 ?_
 rcases M.tf 16 rfl with ⟨hb16, M⟩ | ⟨hb16, M⟩
 ·
  have hd16 := of_decide_eq_true hb16
  refine s_ct M (s_fs1 ?_)
  refine fp M 1 0 [(4, vI (-1))] fun a M => s_d0 (wp_ret ?_)
  exact s_rt1 rfl M rfl (⟨by rw [show cmpI p q = -1 from if_pos (by omega)], O.below⟩)
 have hd16 := of_decide_eq_false hb16
 refine s_cf M (wp_skip (wp_seq (s_fs1 ?_)))
 refine fp M 3 0 [(19, .bool (decide ((p : Int) > (q : Int))))] fun a M => s_d0 ?_
 rcases M.tf 19 rfl with ⟨hb19, M⟩ | ⟨hb19, M⟩
 ·
  have hd19 := of_decide_eq_true hb19
  refine s_ct M (s_fs1 ?_)
  refine fp M 1 0 [(4, vI 1)] fun a M => s_d0 (wp_ret ?_)
  exact s_rt1 rfl M rfl (⟨by rw [show cmpI p q = 1 from (if_neg (by omega)).trans (if_pos (by omega))], O.below⟩)
 have hd19 := of_decide_eq_false hb19
 refine s_cf M (wp_skip (s_fs1 ?_))
 refine fp M 1 0 [(4, vI 0)] fun a M => s_d0 (wp_ret ?_)
 exact s_rt1 rfl M rfl (⟨by rw [show cmpI p q = 0 from (if_neg (by omega)).trans (if_neg (by omega))], O.below⟩)
theorem nan_u (p : Nat) (w : World) : Calls Tryz.prog 152 #[.int .u64 (p : Int)] w (Is w (.bool false)) := by
 refine s_ce Tryz.func152 [vQ p] [(0, vQ p)] fun a M => ?_
 have O := Mem.start w
 refine s_fs1 ?_
 refine fp M 1 0 [(2, .bool false)] fun a M => s_d0 (s_fs1 ?_)
 refine fp M 3 0 [(5, .bool ((p : Int) != (p : Int)))] fun a M => ?_
 replace M := M.sp 5 (.bool false) rfl (by simp)
 refine fp M 1 3 [(2, .bool false)] fun a M => s_d0 (wp_ret ?_)
 exact s_rt1 rfl M rfl (⟨rfl, O.below⟩)
theorem cmp_u (p q : Nat) (w : World) : Calls Tryz.prog 145 #[.int .u64 (p : Int), .int .u64 (q : Int)] w (Is w (.int .i64 (cmpI (p : Int) (q : Int)))) := by
 refine s_ce Tryz.func145 [vQ p, vQ q] [(0, vQ p), (1, vQ q)] fun a M => ?_
 have O := Mem.start w
 refine s_fs1 ?_
 refine fp M 1 0 [(4, vI 0)] fun a M => s_d0 (s_fs1 ?_)
 refine fp M 1 0 [(7, vQ p)] fun a M => fo M 1 rfl rfl ?_
 refine e_cl M [vQ p] rfl rfl (nan_u _ _) ?_
 rintro _ w8 ⟨rfl, hbw⟩
 refine ⟨_, rfl, ?_⟩
 replace O := O.call hbw
 clear M; intro a M
 refine fp M 1 2 [(5, .bool false)] fun a M => s_d0 (s_fs1 ?_)
 refine fp M 1 0 [(9, vQ q)] fun a M => fo M 1 rfl rfl ?_
 refine e_cl M [vQ q] rfl rfl (nan_u _ _) ?_
 rintro _ w10 ⟨rfl, hbw⟩
 refine ⟨_, rfl, ?_⟩
 replace O := O.call hbw
 clear M; intro a M
 refine fp M 1 2 [(6, .bool false)] fun a M => s_d0 (wp_seq (s_fs1 ?_))
 refine fp M 1 0 [(11, .bool false)] fun a M => s_d0 (s_cf M (wp_skip (wp_seq (s_fs1 ?_))))
 refine fp M 1 0 [(13, .bool false)] fun a M => s_d0 (s_cf M (wp_skip (wp_seq (s_fs1 ?_))))
 refine fp M 3 0 [(16, .bool (decide ((p : Int) < (q : Int))))] fun a M => s_d0 ?_
 rcases M.tf 16 rfl with ⟨hb16, M⟩ | ⟨hb16, M⟩
 ·
  have hd16 := of_decide_eq_true hb16
  refine s_ct M (s_fs1 ?_)
  refine fp M 1 0 [(4, vI (-1))] fun a M => s_d0 (wp_ret ?_)
  exact s_rt1 rfl M rfl (⟨by rw [show cmpI (p : Int) (q : Int) = -1 from if_pos (by omega)], O.below⟩)
 have hd16 := of_decide_eq_false hb16
 refine s_cf M (wp_skip (wp_seq (s_fs1 ?_)))
 refine fp M 3 0 [(19, .bool (decide ((p : Int) > (q : Int))))] fun a M => s_d0 ?_
 rcases M.tf 19 rfl with ⟨hb19, M⟩ | ⟨hb19, M⟩
 ·
  have hd19 := of_decide_eq_true hb19
  refine s_ct M (s_fs1 ?_)
  refine fp M 1 0 [(4, vI 1)] fun a M => s_d0 (wp_ret ?_)
  exact s_rt1 rfl M rfl (⟨by rw [show cmpI (p : Int) (q : Int) = 1 from (if_neg (by omega)).trans (if_pos (by omega))], O.below⟩)
 have hd19 := of_decide_eq_false hb19
 refine s_cf M (wp_skip (s_fs1 ?_))
 refine fp M 1 0 [(4, vI 0)] fun a M => s_d0 (wp_ret ?_)
 exact s_rt1 rfl M rfl (⟨by rw [show cmpI (p : Int) (q : Int) = 0 from (if_neg (by omega)).trans (if_neg (by omega))], O.below⟩)
theorem qko (t : Tk) (id : Int) (w : World) : Calls Tryz.prog 124 #[.agg t.cells, .int .i64 id] w (Is w (.int .i64 (cmpI t.id id))) := by
 refine s_ce Tryz.func124 [.agg t.cells, vI id] [(0, .agg t.cells), (1, vI id)] fun a M => ?_
 have O := Mem.start w
 refine s_fs1 ?_
 refine fo M 0 rfl rfl (s_eb M O t.cells fun a w2 g2 M O => ?_)
 refine fp M 1 1 [(4, vI 0)] fun a M => s_d0 (s_fs1 ?_)
 refine fp M 1 0 [(5, vP g2 0)] fun a M => s_fc M O 1 0 (v := vI t.id) fun a M => ?_
 refine fp M 1 2 [(7, vI id)] fun a M => fo M 3 rfl rfl ?_
 refine e_cl M [vI t.id, vI id] rfl rfl (cmp_i t.id id _) ?_
 rintro _ w8 ⟨rfl, hbw⟩
 refine ⟨_, rfl, ?_⟩
 replace O := O.call hbw
 clear M; intro a M
 refine fp M 1 4 [(4, vI (cmpI t.id id))] fun a M => s_d0 (wp_ret ?_)
 exact s_rt1 rfl M rfl (⟨rfl, O.below⟩)
theorem qpg (A : Option Addr) (c : Nat) (l : List Tk) (id : Int) (hs : SortT l) (w : World) (hr : Rd w w.heap.size 8 A l.length (l.flatMap tkL)) (hn : l.length ≤ 1000000) :
    Calls Tryz.prog 123 #[.slice A l.length c, .int .i64 id, .func (.func 124) #[] #[]] w (qf0 w l id) := by
 refine s_ce Tryz.func123 [.slice A l.length c, vI id, .func (.func 124) #[] #[]] [(0, .slice A l.length c), (1, vI id), (2, .func (.func 124) #[] #[])] fun a M => ?_
 have O := Mem.start w
 refine s_fs1 ?_
 refine fp M 2 0 [(7, .bool false), (6, vI 0)] fun a M => s_d0 (s_fs1 ?_)
 refine fp M 1 0 [(12, .slice A l.length c)] fun a M => s_fl M 1 fun a M => ?_
 refine fp M 1 2 [(8, vI l.length)] fun a M => s_d0 (s_fs1 ?_)
 refine fp M 3 0 [(10, vI l.length), (9, vI 0)] fun a M => s_d0 (wp_seq (wp_block ?_))
 refine qe (fun mS aS wS => ∃ (i : Nat) (j : Nat), (i ≤ j) ∧ (j ≤ l.length) ∧ (∀ k, k < i → (l.getD k Tk.zero).id < id) ∧ (∀ k, j ≤ k → k < l.length → id ≤ (l.getD k Tk.zero).id) ∧ mS = j - i ∧ Fr aS 49 [] [(10, vI j), (9, vI i), (8, vI l.length), (7, .bool false), (6, vI 0), (0, .slice A l.length c), (1, vI id), (2, .func (.func 124) #[] #[])] ∧ Mem w wS []) (m := l.length - 0) ⟨0, l.length, Nat.zero_le _, Nat.le_refl _, fun k h => by omega, fun k h1 h2 => by omega, rfl, M.sub (by kernel_rfl), O.pk []⟩ ?_
 clear M O; rintro mS a w_ ⟨i, j, hij, hj, h1, h2, rfl, M, O⟩
 refine wp_seq (s_fs1 ?_)
 refine fp M 3 0 [(17, .bool (decide ((i : Int) < (j : Int))))] fun a M => s_d0 ?_
 rcases M.tf 17 rfl with ⟨hb17, M⟩ | ⟨hb17, M⟩
 ·
  have hd17 := of_decide_eq_true hb17
  have hmid : i ≤ ((i + j) / 2) ∧ ((i + j) / 2) < j := by omega
  refine s_ct M (wp_skip (wp_block (s_fs1 ?_)))
  refine fp M 3 0 [(20, vI (IntKind.i64.wrap ((i : Int) + (j : Int))))] fun a M => ?_
  replace M := M.sp 20 (vI (i + j : Nat)) rfl (qc (by omega) (by omega))
  refine fp M 1 3 [(21, vQ (IntKind.u64.wrap ((i + j : Nat) : Int)))] fun a M => ?_
  replace M := M.sp 21 (vQ (i + j : Nat)) rfl (qb0 rfl (by omega))
  refine fp M 1 4 [(22, vQ (Int.fdiv ((i + j : Nat) : Int) (2 ^ (min (1 : Int).toNat (IntKind.u64).bits))))] fun a M => ?_
  replace M := M.sp 22 (vQ ((i + j) / 2 : Nat)) rfl (qd5 .u64 (i + j) (j := 1) (q := 2) rfl rfl)
  refine fp M 1 5 [(23, vI (IntKind.i64.wrap (((i + j) / 2 : Nat) : Int)))] fun a M => ?_
  replace M := M.sp 23 (vI ((i + j) / 2 : Nat)) rfl (qc rfl (by omega))
  refine fp M 1 6 [(11, vI ((i + j) / 2 : Nat))] fun a M => s_d0 (s_fs1 ?_)
  refine fp M 3 0 [(26, vI ((i + j) / 2 : Nat)), (25, .slice A l.length c), (24, .func (.func 124) #[] #[])] fun a M => ?_
  obtain ⟨gA, oA, rfl, _⟩ := hr.qi (Nat.lt_of_le_of_lt (Nat.zero_le _) (show (i + j) / 2 < l.length from by omega)) (by decide)
  refine s_fz M O 3 rfl (v := vP gA (oA + ((i + j) / 2) * 8)) (Yl.ix gA oA ((i + j) / 2) 8 rfl rfl rfl) fun a M => ?_
  refine s_fz M O 4 rfl (v := .agg ((l.getD ((i + j) / 2) Tk.zero).cells)) (Yl.qt rfl rfl si_tk rfl (fun _ h => (h.old hr).zf z7 ((getD_at Tk.zero (by omega))))) fun a M => ?_
  refine fp M 1 5 [(29, vI id)] fun a M => fo M 6 rfl rfl ?_
  refine qgj M (f := 124) (vs := [.agg ((l.getD ((i + j) / 2) Tk.zero).cells), vI id]) (fst := []) (caps := []) rfl rfl rfl (by kernel_rfl) rfl (by decide) (qko (l.getD ((i + j) / 2) Tk.zero) id _) ?_
  rintro _ w30 ⟨rfl, hbw⟩
  refine ⟨_, rfl, ?_⟩
  replace O := O.call hbw
  clear M; intro a M
  refine fp M 1 7 [(31, .bool (decide ((cmpI (l.getD ((i + j) / 2) Tk.zero).id id : Int) < (0 : Int))))] fun a M => ?_
  replace M := M.sp 31 (.bool (decide ((l.getD ((i + j) / 2) Tk.zero).id < id))) rfl (congrArg Value.bool qrq)
  refine s_d0 ?_
  rcases M.tf 31 rfl with ⟨hb31, M⟩ | ⟨hb31, M⟩
  ·
   have hd31 := of_decide_eq_true hb31
   have hlt : (l.getD ((i + j) / 2) Tk.zero).id < id := by simpa using hb31
   refine s_ct M (qa ?_)
   refine fp M 2 0 [(33, vI (IntKind.i64.wrap ((((i + j) / 2 : Nat) : Int) + 1)))] fun a M => ?_
   replace M := M.sp 33 (vI ((i + j) / 2 + 1 : Nat)) rfl (qc (by omega) (by omega))
   refine fp M 1 2 [(9, vI ((i + j) / 2 + 1 : Nat))] fun a M => s_d0 ?_
   exact ⟨_, (by omega), (((i + j) / 2) + 1), j, by omega, hj, q1f hs (by omega) hlt, h2, rfl, M.sub (by kernel_rfl), O.pk []⟩
  have hd31 := of_decide_eq_false hb31
  have hge : ¬ (l.getD ((i + j) / 2) Tk.zero).id < id := by simpa using hb31
  refine s_cf M (qa ?_)
  refine fp M 2 0 [(10, vI ((i + j) / 2 : Nat))] fun a M => s_d0 ?_
  exact ⟨_, (by omega), i, ((i + j) / 2), by omega, by omega, h1, qy1 hs (by omega) (by omega), rfl, M.sub (by kernel_rfl), O.pk []⟩
 have hd17 := of_decide_eq_false hb17
 obtain rfl : i = j := by omega
 refine s_cf M (wp_exit (s_fs1 ?_))
 refine fp M 5 0 [(39, .bool (decide ((i : Int) < (l.length : Int)))), (35, vI i)] fun a M => ?_
 rcases M.tf 39 rfl with ⟨hb39, M⟩ | ⟨hb39, M⟩
 ·
  have hd39 := of_decide_eq_true hb39
  refine fp M 3 5 [(42, vI i), (41, .slice A l.length c), (40, .func (.func 124) #[] #[])] fun a M => ?_
  obtain ⟨gA, oA, rfl, _⟩ := hr.qi (Nat.lt_of_le_of_lt (Nat.zero_le _) (show i < l.length from by omega)) (by decide)
  refine s_fz M O 8 rfl (v := vP gA (oA + i * 8)) (Yl.ix gA oA i 8 rfl rfl rfl) fun a M => ?_
  refine s_fz M O 9 rfl (v := .agg ((l.getD i Tk.zero).cells)) (Yl.qt rfl rfl si_tk rfl (fun _ h => (h.old hr).zf z7 ((getD_at Tk.zero (by omega))))) fun a M => ?_
  refine fp M 1 10 [(45, vI id)] fun a M => fo M 11 rfl rfl ?_
  refine qgj M (f := 124) (vs := [.agg ((l.getD i Tk.zero).cells), vI id]) (fst := []) (caps := []) rfl rfl rfl (by kernel_rfl) rfl (by decide) (qko (l.getD i Tk.zero) id _) ?_
  rintro _ w46 ⟨rfl, hbw⟩
  refine ⟨_, rfl, ?_⟩
  replace O := O.call hbw
  clear M; intro a M
  refine fp M 1 12 [(47, .bool ((cmpI (l.getD i Tk.zero).id id : Int) == (0 : Int)))] fun a M => ?_
  replace M := M.sp 47 (.bool (decide ((l.getD i Tk.zero).id = id))) rfl (congrArg Value.bool qrr)
  refine fp M 3 13 [(7, .bool (decide ((l.getD i Tk.zero).id = id))), (6, vI i)] fun a M => s_d0 (wp_ret ?_)
  exact s_rt2 rfl M rfl rfl (qrt hs (by omega) h1 h2 O.below)
 have hd39 := of_decide_eq_false hb39
 refine fp M 11 5 [(7, .bool false), (6, vI i)] fun a M => s_d0 (wp_ret ?_)
 exact s_rt2 rfl M rfl rfl (qma (by omega) h1 O.below)
theorem qr0 (x : Stm) (gm : Nat) (id : Int) (hs : SortT x.ts) (w : World) (hm : w.heap[gm]? = some (.cells #[vI x.cpus, vQ x.credit, .slice x.gA x.gs.length x.gc, .slice x.lA x.cl.length x.lc, .slice x.uA x.cu.length x.uc, .slice x.tA x.ts.length x.tc, .slice x.sA x.rs.length x.sc, .bool true] 153 (0, 0))) (ht : Rd w w.heap.size 8 x.tA x.ts.length (x.ts.flatMap tkL)) (hn : x.ts.length ≤ 1000000) :
    Calls Tryz.prog 93 #[.pointer (some ⟨gm, 0, none⟩), .int .i64 id] w (Is w (.int .i64 (fidx x.ts id))) := by
 refine s_ce Tryz.func93 [vP gm 0, vI id] [(0, vP gm 0), (1, vI id)] fun a M => ?_
 have O := Mem.start w
 refine s_fs1 ?_
 refine fp M 1 0 [(4, vI 0)] fun a M => s_d0 (s_fs1 ?_)
 refine fp M 1 0 [(8, vP gm 0)] fun a M => s_fk M 1 fun a M => ?_
 refine fp M 2 2 [(11, vP gm 5)] fun a M => s_fz M O 4 rfl (v := .slice x.tA x.ts.length x.tc) (Yl.qk rfl rfl (by kernel_rfl) (fun _ h => h.qhl hm rfl)) fun a M => ?_
 refine fp M 1 5 [(13, vI id)] fun a M => fo M 6 rfl rfl ?_
 refine e_cl M [.slice x.tA x.ts.length x.tc, vI id, .func (.func 124) #[] #[]] rfl rfl (qpg x.tA x.tc x.ts id hs _ (O.old ht) hn) ?_
 rintro _ w14 ⟨⟨i, b, rfl, hil, hib⟩, hbw⟩
 refine ⟨_, rfl, ?_⟩
 replace O := O.call hbw
 clear M; intro a M
 refine fp M 5 7 [(6, .bool b), (5, vI i)] fun a M => s_d0 (wp_seq (s_fs1 ?_))
 refine fp M 2 0 [(18, .bool (!b))] fun a M => s_d0 ?_
 rcases M.tf 18 rfl with ⟨hb18, M⟩ | ⟨hb18, M⟩
 ·
  refine s_ct M (s_fs1 ?_)
  refine fp M 1 0 [(4, vI (-1))] fun a M => s_d0 (wp_ret ?_)
  exact s_rt1 rfl M rfl (⟨by rw [← hib, if_neg (by simpa using hb18)], O.below⟩)
 refine s_cf M (wp_skip (s_fs1 ?_))
 refine fp M 2 0 [(4, vI i)] fun a M => s_d0 (wp_ret ?_)
 exact s_rt1 rfl M rfl (⟨by rw [← hib, if_pos (by simpa using hb18)], O.below⟩)
def qmb (x : Stm) (gm c g : Nat) : Prop := ∀ w : World, StRd w x → w.heap[gm]? = some (.cells #[vI x.cpus, vQ x.credit, .slice x.gA x.gs.length x.gc, .slice x.lA x.cl.length x.lc, .slice x.uA x.cu.length x.uc, .slice x.tA x.ts.length x.tc, .slice x.sA x.rs.length x.sc, .bool true] 153 (0, 0)) → Calls Tryz.prog 94 #[.pointer (some ⟨gm, 0, none⟩), .int .i64 (g : Int), .int .i64 (c : Int)] w (Is w (.tuple #[.agg (bestM topM (memS x.sta g c)).cells, .bool (!(memS x.sta g c).isEmpty)]))
theorem tk_id {x : Stm} {i : Nat} (h : tkAt x.sta i = true) : 1 ≤ (x.ts.getD i Tk.zero).id ∧ (x.ts.getD i Tk.zero).id ≤ 65535 := by
 have h1 := (qi5 h).2
 unfold tkOk1 at h1
 rw [Bool.and_eq_true, decide_eq_true_eq] at h1
 exact ⟨h1.1.1, h1.1.2.1⟩
theorem qia {p : Nat → Prop} {k : Nat} (h : ∀ i, i < k → p i) (hk : p k) : ∀ i, i < k + 1 → p i := fun i hi => by
 rcases Nat.lt_or_ge i k with h1 | h1
 ·exact h i h1
 ·obtain rfl : i = k := by omega
  exact hk
theorem qkp (m n : Mb) (A A2 : Option Addr) (c c2 : Nat) (w : World) (hr : Rd w w.heap.size 1 A 3 (m.nums.map U64)) (hr2 : Rd w w.heap.size 1 A2 3 (n.nums.map U64)) :
    Calls Tryz.prog 127 #[.slice A 3 c, .slice A2 3 c2] w (MbCmp w m n) := by
 refine s_ce Tryz.func127 [.slice A 3 c, .slice A2 3 c2] [(0, .slice A 3 c), (1, .slice A2 3 c2)] fun a M => ?_
 have O := Mem.start w
 refine s_fs1 ?_
 refine fp M 1 0 [(4, vI 0)] fun a M => s_d0 (wp_seq (s_fs1 ?_))
 refine fp M 1 0 [(9, .slice A 3 c)] fun a M => s_fl M 1 fun a M => ?_
 refine fp M 1 2 [(11, vI 0)] fun a M => s_d0 (wp_block ?_)
 refine qe (fun mS aS wS => ∃ (k : Nat), (k ≤ 3) ∧ (∀ i, i < k → m.nums.getD i 0 = n.nums.getD i 0) ∧ mS = 3 - k ∧ Fr aS 36 [] [(11, vI k), (10, vI 3), (9, .slice A 3 c), (4, vI 0), (0, .slice A 3 c), (1, .slice A2 3 c2)] ∧ Mem w wS []) (m := 3 - 0) ⟨0, by decide, fun i h => by omega, rfl, M.sub (by kernel_rfl), O.pk []⟩ ?_
 clear M O; rintro mS a w_ ⟨k, hk, he, rfl, M, O⟩
 refine s_fs1 ?_
 refine fp M 1 0 [(12, .bool (decide ((k : Int) < (3 : Int))))] fun a M => s_d0 (wp_seq ?_)
 rcases M.tf 12 rfl with ⟨hb12, M⟩ | ⟨hb12, M⟩
 ·
  have hd12 := of_decide_eq_true hb12
  have hk12 : k < 3 := by omega
  refine s_ct M (wp_skip (wp_seq (wp_block (s_fs1 ?_))))
  refine fp M 1 0 [(13, vI k)] fun a M => ?_
  obtain ⟨gA, oA, rfl, _⟩ := hr.qi (Nat.lt_of_le_of_lt (Nat.zero_le _) (show k < 3 from by omega)) (by decide)
  refine s_fz M O 1 rfl (v := vP gA (oA + k * 1)) (Yl.ix gA oA k 1 rfl rfl rfl) fun a M => ?_
  refine s_fz M O 2 rfl (v := vQ (m.nums.getD k 0)) (Yl.o1 hr k 0 (show k < 3 by omega) rfl rfl) fun a M => ?_
  refine fp M 2 3 [(6, vQ (m.nums.getD k 0)), (5, vI k)] fun a M => s_d0 (wp_seq (s_fs1 ?_))
  refine fp M 2 0 [(17, .slice A2 3 c2), (16, vI k)] fun a M => s_fl M 2 fun a M => ?_
  refine fp M 1 3 [(19, .bool (decide ((k : Int) ≥ (3 : Int))))] fun a M => ?_
  replace M := M.sp 19 (.bool false) rfl (congrArg Value.bool (decide_eq_false (by omega)))
  refine s_d0 (s_cf M (wp_skip (s_fs1 ?_)))
  refine fp M 2 0 [(21, vI k), (20, .slice A2 3 c2)] fun a M => ?_
  obtain ⟨gA2, oA2, rfl, _⟩ := hr2.qi (Nat.lt_of_le_of_lt (Nat.zero_le _) (show k < 3 from by omega)) (by decide)
  refine s_fz M O 2 rfl (v := vP gA2 (oA2 + k * 1)) (Yl.ix gA2 oA2 k 1 rfl rfl rfl) fun a M => ?_
  refine s_fz M O 3 rfl (v := vQ (n.nums.getD k 0)) (Yl.o1 hr2 k 0 (show k < 3 by omega) rfl rfl) fun a M => ?_
  refine fp M 1 4 [(7, vQ (n.nums.getD k 0))] fun a M => s_d0 (s_fs1 ?_)
  refine fp M 2 0 [(25, vQ (n.nums.getD k 0)), (24, vQ (m.nums.getD k 0))] fun a M => fo M 2 rfl rfl ?_
  refine e_cl M [vQ (m.nums.getD k 0), vQ (n.nums.getD k 0)] rfl rfl (cmp_u (m.nums.getD k 0) (n.nums.getD k 0) _) ?_
  rintro _ w26 ⟨rfl, hbw⟩
  refine ⟨_, rfl, ?_⟩
  replace O := O.call hbw
  clear M; intro a M
  refine fp M 1 3 [(8, vI (cmpI ((m.nums.getD k 0) : Int) ((n.nums.getD k 0) : Int)))] fun a M => s_d0 (s_fs1 ?_)
  refine fp M 2 0 [(28, .bool ((cmpI ((m.nums.getD k 0) : Int) ((n.nums.getD k 0) : Int) : Int) != (0 : Int)))] fun a M => ?_
  replace M := M.sp 28 (.bool (decide (((m.nums.getD k 0) : Int) ≠ ((n.nums.getD k 0) : Int)))) rfl (congrArg Value.bool qyw)
  refine s_d0 ?_
  rcases M.tf 28 rfl with ⟨hb28, M⟩ | ⟨hb28, M⟩
  ·
   have hd28 := of_decide_eq_true hb28
   refine s_ct M (s_fs1 ?_)
   refine fp M 2 0 [(4, vI (cmpI ((m.nums.getD k 0) : Int) ((n.nums.getD k 0) : Int)))] fun a M => s_d0 (wp_ret ?_)
   exact s_rt1 rfl M rfl (qvf hk12 he (by omega) O.below)
  have hd28 := of_decide_eq_false hb28
  refine s_cf M (wp_skip (qa ?_))
  refine fp M 1 0 [(30, vI (IntKind.i64.wrap ((k : Int) + 1)))] fun a M => ?_
  replace M := M.sp 30 (vI (k + 1 : Nat)) rfl (qc (by omega) (by omega))
  refine fp M 1 1 [(11, vI (k + 1 : Nat))] fun a M => s_d0 ?_
  exact ⟨_, (by omega), k + 1, by omega, qia he (by omega), rfl, M.sub (by kernel_rfl), O.pk []⟩
 have hd12 := of_decide_eq_false hb12
 refine s_cf M (wp_exit (wp_seq (s_fs1 ?_)))
 refine fp M 1 0 [(31, .slice A 3 c)] fun a M => s_fl M 1 fun a M => ?_
 refine fp M 1 2 [(33, .slice A2 3 c2)] fun a M => s_fl M 3 fun a M => ?_
 refine fp M 1 4 [(35, .bool false)] fun a M => s_d0 (s_cf M (wp_skip (s_fs1 ?_)))
 refine fp M 1 0 [(4, vI 0)] fun a M => s_d0 (wp_ret ?_)
 exact s_rt1 rfl M rfl (qvg (fun i hi => he i (by omega)) O.below)
theorem q1g (m : Mb) (w : World) : Calls Tryz.prog 95 #[.agg m.cells] w (Is w (.int .u64 (m.v : Int))) := by
 refine s_ce Tryz.func95 [.agg m.cells] [(0, .agg m.cells)] fun a M => ?_
 have O := Mem.start w
 refine s_fs1 ?_
 refine fo M 0 rfl rfl (s_eb M O m.cells fun a w1 g1 M O => ?_)
 refine fp M 1 1 [(2, vQ 0)] fun a M => s_d0 (s_fs1 ?_)
 refine s_fz M O 0 rfl (v := vP g1 0) (Yl.zp (ad := ⟨g1, 0, none⟩) (m := 3) (y := 0) (sz := 1) rfl rfl rfl (by kernel_rfl) (by decide)) fun a M => ?_
 refine s_fc M O 1 0 (v := vQ m.v) fun a M => ?_
 refine fp M 1 2 [(2, vQ m.v)] fun a M => s_d0 (wp_ret ?_)
 exact s_rt1 rfl M rfl (⟨rfl, O.below⟩)
theorem qy2 (W w : World) (gs gb : Nat) (sm : Bool) (m n : Mb) (fs : List Fact) (O : Mem W w (.blk gs #[.bool sm] 4 :: .blk gb n.cells 156 :: fs)) :
    Calls Tryz.prog 126 ([.agg m.cells, .pointer (some ⟨gs, 0, none⟩), .pointer (some ⟨gb, 0, none⟩)] : List Value).toArray w fun r w' => r = .returned (.tuple #[]) ∧ Mem W w' (.blk gs #[.bool true] 4 :: .blk gb (if m.lt n then m else n).cells 156 :: fs) := by
 refine s_ce Tryz.func126 [.agg m.cells, vP gs 0, vP gb 0] [(0, .agg m.cells), (1, vP gs 0), (2, vP gb 0)] fun a M => ?_
 refine s_fs1 ?_
 refine fo M 0 rfl rfl (s_eb M O m.cells fun a w3 g3 M O => ?_)
 refine s_d0 (s_fs1 ?_)
 refine fo M 0 rfl rfl (s_es M O 1 fun w1_0 O => ?_)
 refine s_d0 (wp_seq ?_)
 refine zk O (.blk g3 m.cells 156 :: .blk gs #[.bool true] 4 :: .blk gb n.cells 156 :: fs) 3 [0, 1, 2] [] fun O Z => ?_
 refine s_az M Z 0 rfl (v := vS g3 3 3) (Yl.qo7 (n := 3) (sz := 1) rfl rfl (by kernel_rfl)) fun a M => ?_
 refine s_az M Z 1 rfl (v := vS gb 3 3) (Yl.qo7 (n := 3) (sz := 1) rfl rfl (by kernel_rfl)) fun a M => ?_
 refine s_on M 2 rfl ?_
 refine e_cl M [vS g3 3 3, vS gb 3 3] rfl rfl (qkp m n (some ⟨g3, 0, none⟩) (some ⟨gb, 0, none⟩) 3 3 _ (O.rdBlk (i := 0) (n := 3) (size := 1) rfl rfl) (O.rdBlk (i := 2) (n := 3) (size := 1) rfl rfl)) ?_
 rintro _ w6 ⟨⟨cc, rfl, hcc⟩, hbw⟩
 refine ⟨_, rfl, ?_⟩
 replace O := O.call hbw
 clear M; intro a M
 refine keepS (O.pt 3 [0, 1, 2]) (fun Z => ?_)
 refine qg M (fun _ => Z) (i := 3) rfl rfl (d := 7) rfl (by decide) (by kernel_rfl) (fun _ _ _ h => h) (v := .bool (decide ((cc : Int) < (0 : Int)))) (fun _ => Yl.pure (by kernel_rfl)) fun a M => ?_
 replace M := M.sp 7 (.bool (m.lt n)) rfl (congrArg Value.bool hcc)
 refine qh (by kernel_rfl) ?_
 rcases M.tf 7 rfl with ⟨hb7, M⟩ | ⟨hb7, M⟩
 ·
  refine s_ct M (qa ?_)
  refine s_fz M O 0 rfl (v := .agg m.cells) (Yl.qt rfl rfl qea rfl (fun _ h => qf (h.blk (i := 0) rfl))) fun a M => ?_
  refine fo M 1 rfl rfl (e_sa M O 2 rfl rfl rfl rfl rfl qea rfl rfl (qnj m) fun w3_1 O => ?_)
  refine s_d0 (norm0 rfl M ⟨rfl, ?_⟩)
  rw [if_pos hb7]
  exact O.pt 3 [1, 2]
 refine s_cf M (wp_skip ?_)
 refine norm0 rfl M ⟨rfl, ?_⟩
 rw [if_neg (by rw [hb7]; decide)]
 exact O.pt 3 [1, 2]
theorem qxp (W w : World) (gs gb : Nat) (sm : Bool) (m : Mb) (q : List Mb) (fs : List Fact) (O : Mem W w (.blk gs #[.bool sm] 4 :: .blk gb (bestM topM q).cells 156 :: fs)) :
  Calls Tryz.prog 126 ([.agg m.cells, .pointer (some ⟨gs, 0, none⟩), .pointer (some ⟨gb, 0, none⟩)] : List Value).toArray w fun r w' => r = .returned (.tuple #[]) ∧ Mem W w' (.blk gs #[.bool (!(q ++ [m]).isEmpty)] 4 :: .blk gb (bestM topM (q ++ [m])).cells 156 :: fs) := by
 have h1 := qy2 W w gs gb sm m _ fs O
 rw [← qh7] at h1
 rw [show (!(q ++ [m]).isEmpty) = true from by simp]
 exact h1
theorem qph (x : Stm) (hok : x.sta.Ok) (hf : StFew x) (hsh : ShAt x) (gm c : Nat) (hc : (c : Int) < x.cpus) (g : Nat) (hg : g < x.rs.length) (ih : ∀ h, g < h → h < x.rs.length → qmb x gm c h) : qmb x gm c g := by
 intro w hx hm
 have hfs := hf.s; have hft := hf.t; have hfg := hf.g; have hrl := hsh.rs; have hto := hok.ts
 obtain ⟨hc1, hc2, _, _⟩ := qdg hsh.cfg
 refine s_ce Tryz.func94 [vP gm 0, vI g, vI c] [(0, vP gm 0), (1, vI g), (2, vI c)] fun a M => ?_
 have O := Mem.start w
 refine s_fs1 ?_
 refine fo M 0 rfl rfl (s_ea M O #[vQ 0, vQ 0, vQ 0] fun a w6 g6 M O => ?_)
 refine fp M 1 1 [(7, .bool false)] fun a M => s_d0 (s_fs1 ?_)
 refine s_fz M O 0 rfl (v := .agg #[vQ 18446744073709551615, vQ 18446744073709551615, vQ 18446744073709551615]) (Yl.qev (n := 3) (sz := 1) (vs := [(0, vQ 18446744073709551615), (1, vQ 18446744073709551615), (2, vQ 18446744073709551615)]) rfl rfl (by kernel_rfl) (by kernel_rfl)) fun a M => ?_
 refine fo M 1 rfl rfl (s_ea M O #[vQ 0, vQ 0, vQ 0] fun a w8 g8 M O => ?_)
 refine fo M 2 rfl rfl (s_ea M O #[.bool false] fun a w9 g9 M O => ?_)
 refine fo M 3 rfl rfl (e_sa M O 1 rfl rfl rfl rfl rfl qea rfl rfl (by simp [Value.oneCell']) fun w1_3 O => ?_)
 refine fo M 4 rfl rfl (s_es M O 0 fun w1_4 O => ?_)
 refine s_d0 (s_fs1 ?_)
 refine s_fz M O 0 rfl (v := .func (.func 126) #[] #[vP g9 0, vP g8 0]) (Yl.makeFunc (fst := []) (caps := [vP g9 0, vP g8 0]) rfl rfl rfl) fun a M => ?_
 refine fp M 1 1 [(10, .func (.func 126) #[] #[vP g9 0, vP g8 0])] fun a M => s_d0 ?_
 replace O := O.asBlk (i := 1) (ds := (bestM topM []).cells) rfl rfl
 refine wp_seq (s_fs1 ?_)
 refine fp M 1 0 [(18, vP gm 0)] fun a M => s_fk M 1 fun a M => ?_
 refine fp M 2 2 [(21, vP gm 5)] fun a M => s_fz M O 4 rfl (v := .slice x.tA x.ts.length x.tc) (Yl.qk rfl rfl (by kernel_rfl) (fun _ h => h.qhl hm rfl)) fun a M => ?_
 refine s_fl M 5 fun a M => ?_
 refine fp M 1 6 [(24, vI 0)] fun a M => s_d0 (wp_block ?_)
 refine qe (fun mS aS wS => ∃ (i : Nat) (q : List Mb), (i ≤ x.ts.length) ∧ (q = (x.ts.take i).filterMap (tkM · g c)) ∧ mS = x.ts.length - i ∧ Fr aS 102 [] [(24, vI i), (23, vI x.ts.length), (22, .slice x.tA x.ts.length x.tc), (10, .func (.func 126) #[] #[vP g9 0, vP g8 0]), (9, vP g9 0), (8, vP g8 0), (7, .bool false), (6, vP g6 0), (0, vP gm 0), (1, vI g), (2, vI c)] ∧ Mem w wS [.blk g9 #[.bool (!q.isEmpty)] 4, .blk g8 ((bestM topM q).cells) 156, .blk g6 #[vQ 0, vQ 0, vQ 0] 156]) (m := x.ts.length - 0) ⟨0, [], Nat.zero_le _, rfl, rfl, M.sub (by kernel_rfl), O.pk [0, 1, 2]⟩ ?_
 clear M O; rintro mS a w_ ⟨i, q, hi, hq, rfl, M, O⟩
 refine s_fs1 ?_
 refine fp M 1 0 [(25, .bool (decide ((i : Int) < (x.ts.length : Int))))] fun a M => s_d0 (wp_seq ?_)
 rcases M.tf 25 rfl with ⟨hb25, M⟩ | ⟨hb25, M⟩
 ·
  have hd25 := of_decide_eq_true hb25
  have hi25 : i < x.ts.length := by omega
  obtain ⟨t, ht⟩ : ∃ z, (x.ts.getD i Tk.zero) = z := ⟨_, rfl⟩
  have htid := tk_id (hsh.tk i hi25)
  rw [ht] at htid
  refine s_ct M (wp_skip (wp_seq (wp_block (s_fs1 ?_))))
  obtain ⟨gq1, oq1, hq1, _⟩ := Rd.qi hx.t (Nat.lt_of_le_of_lt (Nat.zero_le _) (show i < x.ts.length from by omega)) (by decide)
  have hrq1 := hx.t; rw [hq1] at hrq1
  replace M := M.sp 22 (.slice (some ⟨gq1, oq1, none⟩) x.ts.length x.tc) rfl (by rw [hq1]; try rfl)
  refine s_fz M O 0 rfl (v := vP gq1 (oq1 + i * 8)) (Yl.ix gq1 oq1 i 8 rfl rfl rfl) fun a M => ?_
  refine s_fz M O 1 rfl (v := .agg ((x.ts.getD i Tk.zero).cells)) (Yl.qt rfl rfl si_tk rfl (fun _ h => (h.old hrq1).zf z7 ((getD_at Tk.zero hi25)))) fun a M => ?_
  replace M := M.sp 27 (.agg t.cells) rfl (by rw [ht])
  refine fo M 2 rfl rfl (s_ea M O #[vI 0, vI 0, vI 0, vI 0, vQ 0, .bool false, vQ 0, vW 0] fun a w12 g12 M O => ?_)
  refine fo M 3 rfl rfl (e_sa M O 0 rfl rfl rfl rfl rfl si_tk rfl rfl (qkc t) fun w5_3 O => ?_)
  refine s_d0 (qaj (fun aS wS => Fr aS 102 [] [(41, .bool (t.here g c)), (12, vP g12 0), (22, .slice (some ⟨gq1, oq1, none⟩) x.ts.length x.tc), (25, .bool true), (24, vI i), (23, vI x.ts.length), (10, .func (.func 126) #[] #[vP g9 0, vP g8 0]), (9, vP g9 0), (8, vP g8 0), (7, .bool false), (6, vP g6 0), (0, vP gm 0), (1, vI g), (2, vI c)] ∧ Mem w wS [.blk g12 t.cells 46, .blk g9 #[.bool (!q.isEmpty)] 4, .blk g8 ((bestM topM q).cells) 156, .blk g6 #[vQ 0, vQ 0, vQ 0] 156]) ?_ ?_)
  ·
   refine qa ?_
   refine fp M 1 0 [(28, vP g12 5)] fun a M => s_fc M O 1 0 (v := .bool t.ready) fun a M => ?_
   refine fp M 1 2 [(30, .bool t.ready)] fun a M => ?_
   rcases M.tf 30 rfl with ⟨hb30, M⟩ | ⟨hb30, M⟩
   ·
    refine fp M 1 3 [(31, vP g12 1)] fun a M => s_fc M O 4 0 (v := vI t.group) fun a M => ?_
    refine fp M 4 5 [(36, .bool ((t.group : Int) == (g : Int)))] fun a M => ?_
    rcases M.tf 36 rfl with ⟨hb36, M⟩ | ⟨hb36, M⟩
    ·
     have hd36 := eq_of_beq hb36
     refine fp M 1 9 [(37, vP g12 3)] fun a M => s_fc M O 10 0 (v := vI t.cpu) fun a M => ?_
     refine fp M 3 11 [(41, .bool ((t.cpu : Int) == (c : Int)))] fun a M => s_d0 ?_
     have M := M.sp 41 (.bool (t.here g c)) rfl (congrArg Value.bool (by unfold Tk.here; rw [hb30, decide_eq_true (by omega), Bool.true_and, Bool.true_and, Bool.eq_iff_iff, beq_iff_eq, decide_eq_true_eq]))
     exact ⟨M.sub (by kernel_rfl), O.pk [0, 1, 2, 3]⟩
    have hd36 := ne_of_beq_false hb36
    refine fp M 5 9 [(41, .bool false)] fun a M => s_d0 ?_
    have M := M.sp 41 (.bool (t.here g c)) rfl (congrArg Value.bool (by unfold Tk.here; rw [hb30, decide_eq_false (by omega)]; rfl))
    exact ⟨M.sub (by kernel_rfl), O.pk [0, 1, 2, 3]⟩
   refine fp M 11 3 [(41, .bool false)] fun a M => s_d0 ?_
   have M := M.sp 41 (.bool (t.here g c)) rfl (congrArg Value.bool (by unfold Tk.here; rw [hb30]; rfl))
   exact ⟨M.sub (by kernel_rfl), O.pk [0, 1, 2, 3]⟩
  clear M O; rintro a w6 ⟨M, O⟩
  rcases M.tf 41 rfl with ⟨hb41, M⟩ | ⟨hb41, M⟩
  ·
   have hq2 : q ++ [(⟨t.v, 0, t.id.toNat⟩ : Mb)] = (x.ts.take (i + 1)).filterMap (tkM · g c) := by rw [qae Tk.zero hi25, ← hq, ht, tkM, if_pos hb41]; rfl
   refine s_ct M (qa ?_)
   refine fp M 2 0 [(43, vP g12 6), (42, .func (.func 126) #[] #[vP g9 0, vP g8 0])] fun a M => s_fc M O 2 0 (v := vQ t.v) fun a M => ?_
   refine fp M 1 3 [(45, vP g12 0)] fun a M => s_fc M O 4 0 (v := vI t.id) fun a M => ?_
   refine fp M 1 5 [(47, vQ (IntKind.u64.wrap t.id))] fun a M => ?_
   replace M := M.sp 47 (vQ t.id.toNat) rfl (qb0 (by omega) (by omega))
   refine s_fz M O 6 rfl (v := .agg #[vQ t.v, vQ 0, vQ t.id.toNat]) (Yl.qev (n := 3) (sz := 1) (vs := [(0, vQ t.v), (1, vQ 0), (2, vQ t.id.toNat)]) rfl rfl (by kernel_rfl) (by kernel_rfl)) fun a M => ?_
   refine fo M 7 rfl rfl ?_
   refine qgj M (f := 126) (vs := [.agg #[vQ t.v, vQ 0, vQ t.id.toNat]]) (fst := []) (caps := [vP g9 0, vP g8 0]) rfl rfl rfl (by kernel_rfl) rfl (by decide) (qxp w _ g9 g8 _ (⟨t.v, 0, t.id.toNat⟩ : Mb) q _ (O.pk [1, 2, 0, 3])) ?_
   rintro _ w49 ⟨rfl, HM2⟩
   refine ⟨_, rfl, ?_⟩
   replace O := HM2
   clear M; intro a M
   refine s_d0 (qa ?_)
   refine fp M 1 0 [(50, vI (IntKind.i64.wrap ((i : Int) + 1)))] fun a M => ?_
   replace M := M.sp 50 (vI (i + 1 : Nat)) rfl (qc (by omega) (by omega))
   refine fp M 1 1 [(24, vI (i + 1 : Nat))] fun a M => s_d0 ?_
   replace M := M.sp 22 (.slice x.tA x.ts.length x.tc) rfl (by rw [hq1])
   exact ⟨_, (by omega), i + 1, (q ++ [(⟨t.v, 0, t.id.toNat⟩ : Mb)]), by omega, hq2, rfl, M.sub (by kernel_rfl), O.pk [0, 1, 3]⟩
  have hq2 : q = (x.ts.take (i + 1)).filterMap (tkM · g c) := by rw [qae Tk.zero hi25, ← hq, ht, tkM, if_neg (by rw [hb41]; decide)]; simp
  refine s_cf M (wp_skip (qa ?_))
  refine fp M 1 0 [(50, vI (IntKind.i64.wrap ((i : Int) + 1)))] fun a M => ?_
  replace M := M.sp 50 (vI (i + 1 : Nat)) rfl (qc (by omega) (by omega))
  refine fp M 1 1 [(24, vI (i + 1 : Nat))] fun a M => s_d0 ?_
  replace M := M.sp 22 (.slice x.tA x.ts.length x.tc) rfl (by rw [hq1])
  exact ⟨_, (by omega), i + 1, q, by omega, hq2, rfl, M.sub (by kernel_rfl), O.pk [1, 2, 3]⟩
 have hd25 := of_decide_eq_false hb25
 rw [List.take_of_length_le (by omega : x.ts.length ≤ i)] at hq
 refine s_cf M (wp_exit (wp_seq (s_fs1 ?_)))
 refine fp M 2 0 [(52, vI (IntKind.i64.wrap ((g : Int) + 1)))] fun a M => ?_
 replace M := M.sp 52 (vI (g + 1 : Nat)) rfl (qc (by omega) (by omega))
 refine fp M 1 2 [(13, vI (g + 1 : Nat))] fun a M => s_d0 (wp_block ?_)
 refine qe (fun mS aS wS => ∃ (u : Nat) (q : List Mb), (g + 1 ≤ u) ∧ (u ≤ x.rs.length) ∧ (q = x.ts.filterMap (tkM · g c) ++ ((((List.range x.rs.length).drop (g + 1)).take (u - (g + 1))).filterMap (grpM x.sta c (fun u => memS x.sta u c) g))) ∧ mS = x.rs.length - u ∧ Fr aS 102 [] [(13, vI u), (25, .bool false), (24, vI i), (23, vI x.ts.length), (22, .slice x.tA x.ts.length x.tc), (10, .func (.func 126) #[] #[vP g9 0, vP g8 0]), (9, vP g9 0), (8, vP g8 0), (7, .bool false), (6, vP g6 0), (0, vP gm 0), (1, vI g), (2, vI c)] ∧ Mem w wS [.blk g9 #[.bool (!q.isEmpty)] 4, .blk g8 ((bestM topM q).cells) 156, .blk g6 #[vQ 0, vQ 0, vQ 0] 156]) (m := x.rs.length - (g + 1)) ⟨g + 1, q, Nat.le_refl _, by omega, by rw [hq]; simp, rfl, M.sub (by kernel_rfl), O.pk [0, 1, 2]⟩ ?_
 clear M O; rintro mS a w_ ⟨u, q, hgh, hh, hq, rfl, M, O⟩
 refine wp_seq (s_fs1 ?_)
 refine fp M 2 0 [(54, vP gm 0), (53, vI u)] fun a M => s_fk M 2 fun a M => ?_
 refine fp M 2 3 [(57, vP gm 6)] fun a M => s_fz M O 5 rfl (v := .slice x.sA x.rs.length x.sc) (Yl.qk rfl rfl (by kernel_rfl) (fun _ h => h.qhl hm rfl)) fun a M => ?_
 refine s_fl M 6 fun a M => ?_
 refine fp M 1 7 [(60, .bool (decide ((u : Int) < (x.rs.length : Int))))] fun a M => s_d0 ?_
 rcases M.tf 60 rfl with ⟨hb60, M⟩ | ⟨hb60, M⟩
 ·
  have hd60 := of_decide_eq_true hb60
  have hh60 : u < x.rs.length := by omega
  have hgst := qi6 (f := grpM x.sta c (fun u => memS x.sta u c) g) hgh hh60
  refine s_ct M (wp_skip (wp_seq (wp_block (wp_seq (s_fs1 ?_)))))
  refine fp M 1 0 [(63, vP gm 0)] fun a M => s_fk M 1 fun a M => ?_
  refine fp M 3 2 [(67, vP gm 2)] fun a M => s_fz M O 5 rfl (v := .slice x.gA x.gs.length x.gc) (Yl.qk rfl rfl (by kernel_rfl) (fun _ h => h.qhl hm rfl)) fun a M => ?_
  refine fp M 1 6 [(69, vI u)] fun a M => ?_
  obtain ⟨gq2, oq2, hq2, _⟩ := Rd.qi hx.g (Nat.lt_of_le_of_lt (Nat.zero_le _) (show u < x.gs.length from by omega)) (by decide)
  have hrq2 := hx.g; rw [hq2] at hrq2
  replace M := M.sp 68 (.slice (some ⟨gq2, oq2, none⟩) x.gs.length x.gc) rfl (by rw [hq2]; try rfl)
  refine s_fz M O 7 rfl (v := vP gq2 (oq2 + u * 2)) (Yl.ix gq2 oq2 u 2 rfl rfl rfl) fun a M => ?_
  refine fp M 1 8 [(71, vP gq2 (oq2 + u * 2))] fun a M => s_fz M O 9 rfl (v := vI ((x.gs.getD u Gr.zero).parent)) (Yl.qk rfl rfl (by kernel_rfl) (fun _ h => (by have := (h.old hrq2).partAt zx (k := u) (j := 0) (x := (x.gs.getD u Gr.zero)) ((getD_at Gr.zero (by omega))) rfl; simpa using this))) fun a M => ?_
  refine fp M 2 10 [(74, .bool (((x.gs.getD u Gr.zero).parent : Int) != (g : Int)))] fun a M => s_d0 ?_
  rcases M.tf 74 rfl with ⟨hb74, M⟩ | ⟨hb74, M⟩
  ·
   have hd74 := bne_iff_ne.1 hb74
   rw [qkj (by omega)] at hgst
   refine s_ct M (wp_exit (qa ?_))
   refine fp M 2 0 [(62, vI (IntKind.i64.wrap ((u : Int) + 1)))] fun a M => ?_
   replace M := M.sp 62 (vI (u + 1 : Nat)) rfl (qc (by omega) (by omega))
   refine fp M 1 2 [(13, vI (u + 1 : Nat))] fun a M => s_d0 ?_
   exact ⟨_, (by omega), u + 1, q, by omega, by omega, by rw [hgst, hq]; simp, rfl, M.sub (by kernel_rfl), O.pk [0, 1, 2]⟩
  have hd74 := bne_eq_false_iff_eq.1 hb74
  refine s_cf M (wp_skip (s_fs1 ?_))
  refine fp M 3 0 [(78, vI c), (77, vI u), (76, vP gm 0)] fun a M => fo M 3 rfl rfl ?_
  refine e_cl M [vP gm 0, vI u, vI c] rfl rfl (ih u (by omega) (by omega) _ (hx.old O) (O.oldBlk hm)) ?_
  rintro _ w79 ⟨rfl, hbw⟩
  refine ⟨_, rfl, ?_⟩
  replace O := O.call hbw
  clear M; intro a M
  refine fp M 3 4 [(81, .bool (!(memS x.sta u c).isEmpty)), (80, .agg ((bestM topM (memS x.sta u c)).cells))] fun a M => fo M 7 rfl rfl (s_ea M O #[vQ 0, vQ 0, vQ 0] fun a w14 g14 M O => ?_)
  refine fo M 8 rfl rfl (e_sa M O 0 rfl rfl rfl rfl rfl qea rfl rfl (qnj (bestM topM (memS x.sta u c))) fun w13_8 O => ?_)
  refine fp M 1 9 [(15, .bool (!(memS x.sta u c).isEmpty))] fun a M => s_d0 (s_fs1 ?_)
  refine fp M 1 0 [(82, .bool (!(memS x.sta u c).isEmpty))] fun a M => s_d0 ?_
  rcases M.tf 82 rfl with ⟨hb82, M⟩ | ⟨hb82, M⟩
  ·
   obtain ⟨y, hy⟩ : ∃ z, x.rs.getD u Rw.zero = z := ⟨_, rfl⟩
   have hyr : Rd w w.heap.size 3 y.A y.l.length (y.l.flatMap spL) := by rw [← hy]; exact hx.row hh60
   have hyl : (y.l.length : Int) = x.cpus := by rw [← hy]; exact (qgw hh60 (hsh.row u hh60)).1
   have hyo : ∀ z ∈ y.l, z.Ok := by rw [← hy, ← rs_at hh60]; exact hok.sp _ (qr [] (by rw [qaz]; exact hh60))
   have hzv := (hyo _ (qr Sp.zero (show c < y.l.length by omega))).v
   rw [qnk hh60 (by omega) (by simpa using hb82), hy] at hgst
   refine s_ct M (qa ?_)
   refine fp M 2 0 [(84, vP gm 0), (83, .func (.func 126) #[] #[vP g9 0, vP g8 0])] fun a M => s_fk M 2 fun a M => ?_
   refine fp M 2 3 [(87, vP gm 6)] fun a M => s_fz M O 5 rfl (v := .slice x.sA x.rs.length x.sc) (Yl.qk rfl rfl (by kernel_rfl) (fun _ h => h.qhl hm rfl)) fun a M => ?_
   refine fp M 1 6 [(89, vI u)] fun a M => ?_
   obtain ⟨gq3, oq3, hq3, _⟩ := Rd.qi hx.s (Nat.lt_of_le_of_lt (Nat.zero_le _) (show u < x.rs.length from by omega)) (by decide)
   have hrq3 := hx.s; rw [hq3] at hrq3
   replace M := M.sp 88 (.slice (some ⟨gq3, oq3, none⟩) x.rs.length x.sc) rfl (by rw [hq3]; try rfl)
   refine s_fz M O 7 rfl (v := vP gq3 (oq3 + u * 1)) (Yl.ix gq3 oq3 u 1 rfl rfl rfl) fun a M => ?_
   refine s_fz M O 8 rfl (v := .slice ((x.rs.getD u Rw.zero).A) ((x.rs.getD u Rw.zero).l.length) ((x.rs.getD u Rw.zero).c)) (Yl.o1 hrq3 u Rw.zero (by omega) rfl rfl) fun a M => ?_
   replace M := M.sp 91 (.slice y.A y.l.length y.c) rfl (by rw [hy])
   refine fp M 1 9 [(92, vI c)] fun a M => ?_
   obtain ⟨gq4, oq4, hq4, _⟩ := Rd.qi hyr (Nat.lt_of_le_of_lt (Nat.zero_le _) (show c < y.l.length from by omega)) (by decide)
   have hrq4 := hyr; rw [hq4] at hrq4
   replace M := M.sp 91 (.slice (some ⟨gq4, oq4, none⟩) y.l.length y.c) rfl (by rw [hq4]; try rfl)
   refine s_fz M O 10 rfl (v := vP gq4 (oq4 + c * 3)) (Yl.ix gq4 oq4 c 3 rfl rfl rfl) fun a M => ?_
   refine fp M 1 11 [(94, vP gq4 (oq4 + c * 3))] fun a M => s_fz M O 12 rfl (v := vQ ((y.l.getD c Sp.zero).v)) (Yl.qk rfl rfl (by kernel_rfl) (fun _ h => (by have := (h.old hrq4).partAt qau (k := c) (j := 0) (x := (y.l.getD c Sp.zero)) ((getD_at Sp.zero (by omega))) rfl; simpa using this))) fun a M => ?_
   refine fp M 2 13 [(97, vQ (IntKind.u64.wrap (u : Int)))] fun a M => ?_
   replace M := M.sp 97 (vQ u) rfl (qb0 rfl (by omega))
   refine s_fz M O 15 rfl (v := .agg #[vQ ((y.l.getD c Sp.zero).v), vQ 1, vQ u]) (Yl.qev (n := 3) (sz := 1) (vs := [(0, vQ ((y.l.getD c Sp.zero).v)), (1, vQ 1), (2, vQ u)]) rfl rfl (by kernel_rfl) (by kernel_rfl)) fun a M => ?_
   refine fo M 16 rfl rfl ?_
   refine qgj M (f := 126) (vs := [.agg #[vQ ((y.l.getD c Sp.zero).v), vQ 1, vQ u]]) (fst := []) (caps := [vP g9 0, vP g8 0]) rfl rfl rfl (by kernel_rfl) rfl (by decide) (qxp w _ g9 g8 _ (⟨(y.l.getD c Sp.zero).v, 1, u⟩ : Mb) q _ (O.pk [1, 2, 0, 3])) ?_
   rintro _ w99 ⟨rfl, HM2⟩
   refine ⟨_, rfl, ?_⟩
   replace O := HM2
   clear M; intro a M
   refine s_d0 ?_
   replace M := M.to [(82, .bool true), (15, .bool (!(memS x.sta u c).isEmpty)), (74, .bool false), (60, .bool true), (13, vI u), (25, .bool false), (24, vI i), (23, vI x.ts.length), (22, .slice x.tA x.ts.length x.tc), (10, .func (.func 126) #[] #[vP g9 0, vP g8 0]), (9, vP g9 0), (8, vP g8 0), (7, .bool false), (6, vP g6 0), (0, vP gm 0), (1, vI g), (2, vI c)]
   refine qa ?_
   refine fp M 2 0 [(62, vI (IntKind.i64.wrap ((u : Int) + 1)))] fun a M => ?_
   replace M := M.sp 62 (vI (u + 1 : Nat)) rfl (qc (by omega) (by omega))
   refine fp M 1 2 [(13, vI (u + 1 : Nat))] fun a M => s_d0 ?_
   exact ⟨_, (by omega), u + 1, (q ++ [(⟨(y.l.getD c Sp.zero).v, 1, u⟩ : Mb)]), by omega, by omega, by rw [hgst, hq, List.append_assoc]; rfl, rfl, M.sub (by kernel_rfl), O.pk [0, 1, 3]⟩
  rw [qkk (by simpa using hb82)] at hgst
  refine s_cf M (wp_skip (qa ?_))
  refine fp M 2 0 [(62, vI (IntKind.i64.wrap ((u : Int) + 1)))] fun a M => ?_
  replace M := M.sp 62 (vI (u + 1 : Nat)) rfl (qc (by omega) (by omega))
  refine fp M 1 2 [(13, vI (u + 1 : Nat))] fun a M => s_d0 ?_
  exact ⟨_, (by omega), u + 1, q, by omega, by omega, by rw [hgst, hq]; simp, rfl, M.sub (by kernel_rfl), O.pk [1, 2, 3]⟩
 have hd60 := of_decide_eq_false hb60
 have hqm : q = memS x.sta g c := by rw [hq, qiw, qaz, show u = x.rs.length by omega, qru]; rfl
 refine s_cf M (wp_exit (wp_seq ?_))
 refine qz O [.blk g9 #[.bool (!q.isEmpty)] 4, .blk g8 ((bestM topM q).cells) 156] [0, 1] [] fun O Z => ?_
 refine s_az M Z 0 rfl (v := .agg ((bestM topM q).cells)) (Yl.qt rfl rfl qea rfl (fun _ h => qf (h.blk (i := 1) rfl))) fun a M => ?_
 refine s_ac M Z 1 0 fun a M => ?_
 refine s_on M 2 rfl (e_sa M O 2 rfl rfl rfl rfl rfl qea rfl rfl (qnj (bestM topM q)) fun w16_2 O => ?_)
 refine keepS (O.pk [0, 1]) (fun Z => ?_)
 refine ap M (fun _ => Z) [3] (bt 4 []) [(7, .bool (!q.isEmpty))] fun a M => ?_
 refine qh (by kernel_rfl) ?_
 refine wp_ret ?_
 exact ret2 rfl M (.cellS (i := 2) M O rfl rfl qea rfl) (.tmp M rfl) (⟨by rw [← hqm], O.below⟩)
theorem qr1 (x : Stm) (hok : x.sta.Ok) (hf : StFew x) (hsh : ShAt x) (gm c : Nat) (hc : (c : Int) < x.cpus) : ∀ (n g : Nat), x.rs.length - g ≤ n → g < x.rs.length → qmb x gm c g := by
 intro n
 induction n with
 | zero => intro g h1 h2; omega
 | succ n ih => intro g h1 h2; exact qph x hok hf hsh gm c hc g h2 fun h h3 h4 => ih h (by omega) h4
theorem qr9 {l : List Tk} {id : Int} (h : fidx l id < 0) : findS l id = none := by
 rcases qh6 l id with h1 | ⟨i, h1, _⟩
 ·exact h1.2
 ·omega
theorem qnu {l : List Tk} {id : Int} (h : ¬ fidx l id < 0) : ∃ i : Nat, fidx l id = i ∧ findS l id = some i ∧ i < l.length ∧ (l.getD i Tk.zero).id = id := by
 rcases qh6 l id with h1 | h1
 ·omega
 ·exact h1
theorem qmf (x : Stm) (hok : x.sta.Ok) (hf : StFew x) (w : World) (hx : StRd w x) :
    Calls Tryz.prog 59 #[.agg x.cells] w (Is w (.bool (qac x.sta))) := by
 have hfs_ := hf.s; have hft := hf.t; have hfg := hf.g; have hfl := hf.l; have hfu := hf.u
 refine s_ce Tryz.func59 [.agg x.cells] [(0, .agg x.cells)] fun a M => ?_
 have O := Mem.start w
 refine s_fs1 ?_
 refine fo M 0 rfl rfl (s_eb M O x.cells fun a w1 g1 M O => ?_)
 refine fp M 1 1 [(2, .bool false)] fun a M => s_d0 (wp_seq (s_fs1 ?_))
 refine s_fz M O 0 rfl (v := .agg x.cells) (Yl.qt rfl rfl si_st rfl (fun _ h => qf (h.blk (i := 0) rfl))) fun a M => ?_
 refine fo M 1 rfl rfl (e_is M O [.agg x.cells] (.bool (zg x.sta)) rfl rfl (qpf x hok hf _ (hx.old O)) fun w12 hbw O a M => ?_)
 refine fp M 1 2 [(13, .bool (!(zg x.sta)))] fun a M => s_d0 ?_
 rcases M.tf 13 rfl with ⟨hb13, M⟩ | ⟨hb13, M⟩
 ·
  refine s_ct M (s_fs1 ?_)
  refine fp M 1 0 [(2, .bool false)] fun a M => s_d0 (wp_ret ?_)
  exact s_rt1 rfl M rfl (is_as (r_no0 (by simpa using hb13)).symm O.below)
 have hsd : zg x.sta = true := by simpa using hb13
 have hsh := sh_at hsd
 have hs := qyx hsh
 obtain ⟨hc1, hc2, _, _⟩ := qdg hsh.cfg
 have hcul := hsh.cu
 refine s_cf M (wp_skip (s_fs1 ?_))
 refine s_fz M O 0 rfl (v := .agg x.cells) (Yl.qt rfl rfl si_st rfl (fun _ h => qf (h.blk (i := 0) rfl))) fun a M => ?_
 refine s_fz M O 1 rfl (v := .agg #[vI x.cpus, vQ x.credit, .slice x.gA x.gs.length x.gc, .slice x.lA x.cl.length x.lc, .slice x.uA x.cu.length x.uc, .slice x.tA x.ts.length x.tc, .slice x.sA x.rs.length x.sc, .bool true]) (Yl.build (vs := [(0, .agg x.cells), (1, .bool true)]) rfl (by kernel_rfl) (by kernel_rfl)) fun a M => ?_
 refine fo M 2 rfl rfl (s_eb M O #[vI x.cpus, vQ x.credit, .slice x.gA x.gs.length x.gc, .slice x.lA x.cl.length x.lc, .slice x.uA x.cu.length x.uc, .slice x.tA x.ts.length x.tc, .slice x.sA x.rs.length x.sc, .bool true] fun a w16 g16 M O => ?_)
 refine fp M 1 3 [(3, vP g16 0)] fun a M => s_d0 (wp_seq (s_fs1 ?_))
 refine fp M 1 0 [(17, vP g1 4)] fun a M => s_fc M O 1 1 (v := .slice x.uA x.cu.length x.uc) fun a M => ?_
 refine s_fl M 2 fun a M => ?_
 refine fp M 1 3 [(20, vI 0)] fun a M => s_d0 (wp_block ?_)
 refine qe (fun mS aS wS => ∃ (c : Nat), (c ≤ x.cu.length) ∧ (UpTo c fun c => curOk x.sta c && allN x.rs.length fun g => lowS x.sta g c) ∧ mS = x.cu.length - c ∧ Fr aS 81 [] [(20, vI c), (19, vI x.cu.length), (18, .slice x.uA x.cu.length x.uc), (3, vP g16 0), (13, .bool false), (2, .bool false), (1, vP g1 0)] ∧ Mem w wS [.blk g16 #[vI x.cpus, vQ x.credit, .slice x.gA x.gs.length x.gc, .slice x.lA x.cl.length x.lc, .slice x.uA x.cu.length x.uc, .slice x.tA x.ts.length x.tc, .slice x.sA x.rs.length x.sc, .bool true] 153, .blk g1 x.cells 30]) (m := x.cu.length - 0) ⟨0, Nat.zero_le _, UpTo.zero, rfl, M.sub (by kernel_rfl), O.pk [0, 1]⟩ ?_
 clear M O; rintro mS a w_ ⟨c, hc, hu, rfl, M, O⟩
 refine s_fs1 ?_
 refine fp M 1 0 [(21, .bool (decide ((c : Int) < (x.cu.length : Int))))] fun a M => s_d0 (wp_seq ?_)
 rcases M.tf 21 rfl with ⟨hb21, M⟩ | ⟨hb21, M⟩
 ·
  have hd21 := of_decide_eq_true hb21
  have hc21 : c < x.cu.length := by omega
  obtain ⟨id, hid⟩ : ∃ z, (x.cu.getD c 0) = z := ⟨_, rfl⟩
  refine s_ct M (wp_skip (wp_seq (wp_block (s_fs1 ?_))))
  refine fp M 1 0 [(22, vI c)] fun a M => ?_
  obtain ⟨gq1, oq1, hq1, _⟩ := Rd.qi hx.u (Nat.lt_of_le_of_lt (Nat.zero_le _) (show c < x.cu.length from by omega)) (by decide)
  have hrq1 := hx.u; rw [hq1] at hrq1
  replace M := M.sp 18 (.slice (some ⟨gq1, oq1, none⟩) x.cu.length x.uc) rfl (by rw [hq1]; try rfl)
  refine s_fz M O 1 rfl (v := vP gq1 (oq1 + c * 1)) (Yl.ix gq1 oq1 c 1 rfl rfl rfl) fun a M => ?_
  refine s_fz M O 2 rfl (v := vI (x.cu.getD c 0)) (Yl.o1 hrq1 c 0 (by omega) rfl rfl) fun a M => ?_
  replace M := M.sp 24 (vI id) rfl (by rw [hid])
  refine fp M 2 3 [(5, vI id), (4, vI c)] fun a M => s_d0 (s_fs1 ?_)
  refine fp M 2 0 [(26, vI id), (25, vP g16 0)] fun a M => fo M 2 rfl rfl (e_is M O [vP g16 0, vI id] (vI (fidx x.ts id)) rfl rfl (qr0 x g16 id hs _ (O.blk (i := 0) rfl) (O.old hx.t) hf.t) fun w27 hbw O a M => ?_)
  refine fp M 1 3 [(6, vI (fidx x.ts id))] fun a M => s_d0 (wp_seq ?_)
  refine qaj (fun aS wS => Fr aS 81 [] [(52, .bool (!curOk x.sta c)), (6, vI (fidx x.ts id)), (5, vI id), (4, vI c), (18, .slice (some ⟨gq1, oq1, none⟩) x.cu.length x.uc), (21, .bool true), (20, vI c), (19, vI x.cu.length), (3, vP g16 0), (13, .bool false), (2, .bool false), (1, vP g1 0)] ∧ Mem w wS [.blk g16 #[vI x.cpus, vQ x.credit, .slice x.gA x.gs.length x.gc, .slice x.lA x.cl.length x.lc, .slice x.uA x.cu.length x.uc, .slice x.tA x.ts.length x.tc, .slice x.sA x.rs.length x.sc, .bool true] 153, .blk g1 x.cells 30]) ?_ ?_
  ·
   refine qa ?_
   refine fp M 3 0 [(30, .bool ((id : Int) != (0 : Int)))] fun a M => ?_
   rcases M.tf 30 rfl with ⟨hb30, M⟩ | ⟨hb30, M⟩
   ·
    have hd30 := bne_iff_ne.1 hb30
    refine fp M 3 3 [(33, .bool (decide ((fidx x.ts id : Int) < (0 : Int))))] fun a M => ?_
    rcases M.tf 33 rfl with ⟨hb33, M⟩ | ⟨hb33, M⟩
    ·
     have hd33 := of_decide_eq_true hb33
     refine fp M 19 6 [(52, .bool true)] fun a M => s_d0 ?_
     have M := M.sp 52 (.bool (!curOk x.sta c)) rfl (congrArg Value.bool (by rw [qh4 (by rw [hid]; omega) (by rw [hid]; exact qr9 (by omega))]; rfl))
     exact ⟨M.sub (by kernel_rfl), O.pk [0, 1]⟩
    have hd33 := of_decide_eq_false hb33
    obtain ⟨i, hfi, hfs, hil, hiid⟩ := qnu (l := x.ts) (id := id) (by omega)
    refine fp M 1 6 [(34, vP g1 5)] fun a M => s_fc M O 7 1 (v := .slice x.tA x.ts.length x.tc) fun a M => ?_
    refine fp M 1 8 [(36, vI (fidx x.ts id))] fun a M => ?_
    replace M := M.sp 36 (vI i) rfl (by rw [hfi])
    obtain ⟨gq3, oq3, hq3, _⟩ := Rd.qi hx.t (Nat.lt_of_le_of_lt (Nat.zero_le _) (show i < x.ts.length from by omega)) (by decide)
    have hrq3 := hx.t; rw [hq3] at hrq3
    replace M := M.sp 35 (.slice (some ⟨gq3, oq3, none⟩) x.ts.length x.tc) rfl (by rw [hq3]; try rfl)
    refine s_fz M O 9 rfl (v := vP gq3 (oq3 + i * 8)) (Yl.ix gq3 oq3 i 8 rfl rfl rfl) fun a M => ?_
    refine fp M 1 10 [(38, vP gq3 (oq3 + i * 8 + 5))] fun a M => s_fz M O 11 rfl (v := .bool ((x.ts.getD i Tk.zero).ready)) (Yl.qk rfl rfl (by kernel_rfl) (fun _ h => (h.old hrq3).partAt z7 (k := i) (j := 5) (x := (x.ts.getD i Tk.zero)) ((getD_at Tk.zero (by omega))) rfl)) fun a M => ?_
    refine fp M 3 12 [(42, .bool (!((x.ts.getD i Tk.zero).ready)))] fun a M => ?_
    rcases M.tf 42 rfl with ⟨hb42, M⟩ | ⟨hb42, M⟩
    ·
     refine fp M 10 15 [(52, .bool true)] fun a M => s_d0 ?_
     have M := M.sp 52 (.bool (!curOk x.sta c)) rfl (congrArg Value.bool (by rw [qd7 (by rw [hid]; omega) (by rw [hid]; exact hfs), (Bool.not_eq_true' _).mp hb42]; rfl))
     exact ⟨M.sub (by kernel_rfl), O.pk [0, 1]⟩
    refine fp M 1 15 [(43, vP g1 5)] fun a M => s_fc M O 16 1 (v := .slice x.tA x.ts.length x.tc) fun a M => ?_
    refine fp M 1 17 [(45, vI (fidx x.ts id))] fun a M => ?_
    replace M := M.sp 45 (vI i) rfl (by rw [hfi])
    replace M := M.sp 44 (.slice (some ⟨gq3, oq3, none⟩) x.ts.length x.tc) rfl (by rw [hq3]; try rfl)
    refine s_fz M O 18 rfl (v := vP gq3 (oq3 + i * 8)) (Yl.ix gq3 oq3 i 8 rfl rfl rfl) fun a M => ?_
    refine fp M 1 19 [(47, vP gq3 (oq3 + i * 8 + 3))] fun a M => s_fz M O 20 rfl (v := vI ((x.ts.getD i Tk.zero).cpu)) (Yl.qk rfl rfl (by kernel_rfl) (fun _ h => (h.old hrq3).partAt z7 (k := i) (j := 3) (x := (x.ts.getD i Tk.zero)) ((getD_at Tk.zero (by omega))) rfl)) fun a M => ?_
    refine fp M 4 21 [(52, .bool (((x.ts.getD i Tk.zero).cpu : Int) != (c : Int)))] fun a M => s_d0 ?_
    have M := M.sp 52 (.bool (!curOk x.sta c)) rfl (congrArg Value.bool (by rw [qd7 (by rw [hid]; omega) (by rw [hid]; exact hfs), (Bool.not_eq_false' _).mp hb42, Bool.true_and, bne, Bool.eq_iff_iff]; simp))
    exact ⟨M.sub (by kernel_rfl), O.pk [0, 1]⟩
   have hd30 := bne_eq_false_iff_eq.1 hb30
   refine fp M 22 3 [(52, .bool false)] fun a M => s_d0 ?_
   have M := M.sp 52 (.bool (!curOk x.sta c)) rfl (congrArg Value.bool (by rw [qh5 (by rw [hid]; omega)]; rfl))
   exact ⟨M.sub (by kernel_rfl), O.pk [0, 1]⟩
  clear M O; rintro a w8 ⟨M, O⟩
  rcases M.tf 52 rfl with ⟨hb52, M⟩ | ⟨hb52, M⟩
  ·
   refine s_ct M (s_fs1 ?_)
   refine fp M 1 0 [(2, .bool false)] fun a M => s_d0 (wp_ret ?_)
   exact s_rt1 rfl M rfl (is_as (r_no1 hc21 (by simpa using hb52)).symm O.below)
  refine s_cf M (wp_skip (s_fs1 ?_))
  refine fp M 1 0 [(53, vP g1 6)] fun a M => s_fc M O 1 1 (v := .slice x.sA x.rs.length x.sc) fun a M => ?_
  refine s_fl M 2 fun a M => ?_
  refine fp M 1 3 [(56, vI 0)] fun a M => s_d0 (wp_block ?_)
  refine qe (fun mS aS wS => ∃ (g : Nat), (g ≤ x.rs.length) ∧ (UpTo g fun g => lowS x.sta g c) ∧ mS = x.rs.length - g ∧ Fr aS 81 [] [(56, vI g), (55, vI x.rs.length), (54, .slice x.sA x.rs.length x.sc), (52, .bool false), (6, vI (fidx x.ts id)), (5, vI id), (4, vI c), (18, .slice (some ⟨gq1, oq1, none⟩) x.cu.length x.uc), (21, .bool true), (20, vI c), (19, vI x.cu.length), (3, vP g16 0), (13, .bool false), (2, .bool false), (1, vP g1 0)] ∧ Mem w wS [.blk g16 #[vI x.cpus, vQ x.credit, .slice x.gA x.gs.length x.gc, .slice x.lA x.cl.length x.lc, .slice x.uA x.cu.length x.uc, .slice x.tA x.ts.length x.tc, .slice x.sA x.rs.length x.sc, .bool true] 153, .blk g1 x.cells 30]) (m := x.rs.length - 0) ⟨0, Nat.zero_le _, UpTo.zero, rfl, M.sub (by kernel_rfl), O.pk [0, 1]⟩ ?_
  clear M O; rintro mS a w_ ⟨g, hg, hu2, rfl, M, O⟩
  refine s_fs1 ?_
  refine fp M 1 0 [(57, .bool (decide ((g : Int) < (x.rs.length : Int))))] fun a M => s_d0 (wp_seq ?_)
  rcases M.tf 57 rfl with ⟨hb57, M⟩ | ⟨hb57, M⟩
  ·
   have hd57 := of_decide_eq_true hb57
   have hg57 : g < x.rs.length := by omega
   obtain ⟨y, hy⟩ : ∃ z, x.rs.getD g Rw.zero = z := ⟨_, rfl⟩
   have hyr : Rd w w.heap.size 3 y.A y.l.length (y.l.flatMap spL) := by rw [← hy]; exact hx.row hg57
   have hyl : (y.l.length : Int) = x.cpus := by rw [← hy]; exact (qgw hg57 (hsh.row g hg57)).1
   refine s_ct M (wp_skip (wp_seq (wp_block (s_fs1 ?_))))
   refine fp M 1 0 [(58, vI g)] fun a M => ?_
   obtain ⟨gq4, oq4, hq4, _⟩ := Rd.qi hx.s (Nat.lt_of_le_of_lt (Nat.zero_le _) (show g < x.rs.length from by omega)) (by decide)
   have hrq4 := hx.s; rw [hq4] at hrq4
   replace M := M.sp 54 (.slice (some ⟨gq4, oq4, none⟩) x.rs.length x.sc) rfl (by rw [hq4]; try rfl)
   refine s_fz M O 1 rfl (v := vP gq4 (oq4 + g * 1)) (Yl.ix gq4 oq4 g 1 rfl rfl rfl) fun a M => ?_
   refine s_fz M O 2 rfl (v := .slice ((x.rs.getD g Rw.zero).A) ((x.rs.getD g Rw.zero).l.length) ((x.rs.getD g Rw.zero).c)) (Yl.o1 hrq4 g Rw.zero hg57 rfl rfl) fun a M => ?_
   replace M := M.sp 60 (.slice y.A y.l.length y.c) rfl (by rw [hy])
   refine fp M 2 3 [(8, .slice y.A y.l.length y.c), (7, vI g)] fun a M => s_d0 (s_fs1 ?_)
   refine fp M 3 0 [(64, vI c), (63, vI g), (62, vP g16 0)] fun a M => fo M 3 rfl rfl ?_
   refine e_cl M [vP g16 0, vI g, vI c] rfl rfl (qr1 x hok hf hsh g16 c (by omega) _ g (Nat.le_refl _) hg57 _ (hx.old O) (O.blk (i := 0) rfl)) ?_
   rintro _ w65 ⟨rfl, hbw⟩
   refine ⟨_, rfl, ?_⟩
   replace O := O.call hbw
   clear M; intro a M
   refine fp M 3 4 [(67, .bool (!(memS x.sta g c).isEmpty)), (66, .agg ((bestM topM (memS x.sta g c)).cells))] fun a M => fo M 7 rfl rfl (s_ea M O #[vQ 0, vQ 0, vQ 0] fun a w9 g9 M O => ?_)
   refine fo M 8 rfl rfl (e_sa M O 0 rfl rfl rfl rfl rfl qea rfl rfl (qnj (bestM topM (memS x.sta g c))) fun w13_8 O => ?_)
   refine fp M 1 9 [(10, .bool (!(memS x.sta g c).isEmpty))] fun a M => s_d0 (qaj (fun aS wS => Fr aS 81 [] [(78, .bool (!lowS x.sta g c)), (10, .bool (!(memS x.sta g c).isEmpty)), (9, vP g9 0), (8, .slice y.A y.l.length y.c), (7, vI g), (54, .slice (some ⟨gq4, oq4, none⟩) x.rs.length x.sc), (57, .bool true), (56, vI g), (55, vI x.rs.length), (52, .bool false), (6, vI (fidx x.ts id)), (5, vI id), (4, vI c), (18, .slice (some ⟨gq1, oq1, none⟩) x.cu.length x.uc), (21, .bool true), (20, vI c), (19, vI x.cu.length), (3, vP g16 0), (13, .bool false), (2, .bool false), (1, vP g1 0)] ∧ Mem w wS [.blk g9 ((bestM topM (memS x.sta g c)).cells) 156, .blk g16 #[vI x.cpus, vQ x.credit, .slice x.gA x.gs.length x.gc, .slice x.lA x.cl.length x.lc, .slice x.uA x.cu.length x.uc, .slice x.tA x.ts.length x.tc, .slice x.sA x.rs.length x.sc, .bool true] 153, .blk g1 x.cells 30]) ?_ ?_)
   ·
    refine qz O [.blk g9 ((bestM topM (memS x.sta g c)).cells) 156, .blk g16 #[vI x.cpus, vQ x.credit, .slice x.gA x.gs.length x.gc, .slice x.lA x.cl.length x.lc, .slice x.uA x.cu.length x.uc, .slice x.tA x.ts.length x.tc, .slice x.sA x.rs.length x.sc, .bool true] 153, .blk g1 x.cells 30] [0, 1, 2] [] fun O Z => ?_
    refine ap M (fun _ => Z) [0, 1] (bf 11 [0, 1]) [(69, .bool (!(memS x.sta g c).isEmpty))] fun a M => ?_
    rcases M.tf 69 rfl with ⟨hb69, M⟩ | ⟨hb69, M⟩
    ·
     refine ap M (fun _ => Z) [4, 5] (bf 11 [0, 1, 4, 5]) [(73, vI c), (72, .slice y.A y.l.length y.c)] fun a M => ?_
     refine s_az M Z 2 rfl (v := .agg ((bestM topM (memS x.sta g c)).cells)) (Yl.qt rfl rfl qea rfl (fun _ h => qf (h.blk (i := 0) rfl))) fun a M => ?_
     obtain ⟨gq10, oq10, hq10, _⟩ := Rd.qi hyr (Nat.lt_of_le_of_lt (Nat.zero_le _) (show c < y.l.length from by omega)) (by decide)
     have hrq10 := hyr; rw [hq10] at hrq10
     replace M := M.sp 72 (.slice (some ⟨gq10, oq10, none⟩) y.l.length y.c) rfl (by rw [hq10]; try rfl)
     refine s_az M Z 6 rfl (v := vP gq10 (oq10 + c * 3)) (Yl.ix gq10 oq10 c 3 rfl rfl rfl) fun a M => ?_
     refine ap M (fun _ => Z) [7] (bt 11 [3, 8, 9, 10]) [(75, vP gq10 (oq10 + c * 3 + 2))] fun a M => ?_
     refine s_az M Z 8 rfl (v := vQ ((y.l.getD c Sp.zero).floor)) (Yl.qk rfl rfl (by kernel_rfl) (fun _ h => (h.old hrq10).partAt qau (k := c) (j := 2) (x := (y.l.getD c Sp.zero)) ((getD_at Sp.zero (by omega))) rfl)) fun a M => ?_
     refine s_on M 3 rfl (e_is M O [.agg ((bestM topM (memS x.sta g c)).cells)] (vQ ((bestM topM (memS x.sta g c)).v)) rfl rfl (q1g (bestM topM (memS x.sta g c)) _) fun w71 hbw O a M => ?_)
     refine keepS (O.pk [0, 1, 2]) (fun Z => ?_)
     refine ap M (fun _ => Z) [9, 10] (bt 11 []) [(78, .bool (decide (((bestM topM (memS x.sta g c)).v : Int) > ((y.l.getD c Sp.zero).floor : Int))))] fun a M => ?_
     refine qh (by kernel_rfl) ?_
     have M := M.sp 78 (.bool (!lowS x.sta g c)) rfl (congrArg Value.bool (by rw [qrv (by simpa using hb69), ql5 hg57, hy, ← decide_not]; exact decide_eq_decide.2 (by omega)))
     exact ⟨M.sub (by kernel_rfl), O.pk [0, 1, 2]⟩
    refine ap M (fun _ => Z) [2, 3, 4, 5, 6, 7, 8, 9, 10] (bt 11 []) [(78, .bool false)] fun a M => ?_
    refine qh (by kernel_rfl) ?_
    have M := M.sp 78 (.bool (!lowS x.sta g c)) rfl (congrArg Value.bool (by rw [ql4 (by simpa using hb69)]; rfl))
    exact ⟨M.sub (by kernel_rfl), O.pk [0, 1, 2]⟩
   clear M O; rintro a w14 ⟨M, O⟩
   rcases M.tf 78 rfl with ⟨hb78, M⟩ | ⟨hb78, M⟩
   ·
    refine s_ct M (s_fs1 ?_)
    refine fp M 1 0 [(2, .bool false)] fun a M => s_d0 (wp_ret ?_)
    exact s_rt1 rfl M rfl (is_as (r_no2 hc21 hg57 (by simpa using hb78)).symm O.below)
   refine s_cf M (wp_skip (qa ?_))
   refine fp M 1 0 [(79, vI (IntKind.i64.wrap ((g : Int) + 1)))] fun a M => ?_
   replace M := M.sp 79 (vI (g + 1 : Nat)) rfl (qc (by omega) (by omega))
   refine fp M 1 1 [(56, vI (g + 1 : Nat))] fun a M => s_d0 ?_
   replace M := M.sp 54 (.slice x.sA x.rs.length x.sc) rfl (by rw [hq4])
   exact ⟨_, (by omega), g + 1, by omega, hu2.succ (by simpa using hb78), rfl, M.sub (by kernel_rfl), O.pk [1, 2]⟩
  have hd57 := of_decide_eq_false hb57
  refine s_cf M (wp_exit (qa ?_))
  refine fp M 1 0 [(80, vI (IntKind.i64.wrap ((c : Int) + 1)))] fun a M => ?_
  replace M := M.sp 80 (vI (c + 1 : Nat)) rfl (qc (by omega) (by omega))
  refine fp M 1 1 [(20, vI (c + 1 : Nat))] fun a M => s_d0 ?_
  replace M := M.sp 18 (.slice x.uA x.cu.length x.uc) rfl (by rw [hq1])
  exact ⟨_, (by omega), c + 1, by omega, hu.succ (by rw [show curOk x.sta c = true by simpa using hb52, Bool.true_and]; exact UpTo.all fun i hi => hu2 i (by omega)), rfl, M.sub (by kernel_rfl), O.pk [0, 1]⟩
 have hd21 := of_decide_eq_false hb21
 refine s_cf M (wp_exit (s_fs1 ?_))
 refine fp M 1 0 [(2, .bool true)] fun a M => s_d0 (wp_ret ?_)
 exact s_rt1 rfl M rfl (is_as (r_yes hsd (fun i hi => hu i (by omega))).symm O.below)
def upF {α : Type} (k : Nat) (f : Nat → List α) : List α := (List.range k).flatMap f
theorem qm {α : Type} (k : Nat) (f : Nat → List α) : upF (k + 1) f = upF k f ++ f k := by unfold upF; rw [List.range_succ, List.flatMap_append]; simp
theorem qbj {α : Type} (f : Nat → List α) : upF 0 f = [] := rfl
theorem qnl {α : Type} {f : Nat → List α} {m : Nat} (h : ∀ i, (f i).length ≤ m) : ∀ k, (upF k f).length ≤ m * k
 | 0 => Nat.zero_le _
 | k + 1 => by rw [qm, List.length_append, Nat.mul_succ]; have := qnl h k; have := h k; omega
theorem qrw {α : Type} {f : Nat → List α} {m : Nat} : ∀ k, (∀ i, i < k → (f i).length ≤ m) → (upF k f).length ≤ m * k
 | 0, _ => Nat.zero_le _
 | k + 1, h => by rw [qm, List.length_append, Nat.mul_succ]; have := qrw k (fun i hi => h i (by omega)); have := h k (by omega); omega
theorem qe9 {α : Type} {f : Nat → List α} {p : α → Prop} : ∀ k, (∀ i, i < k → ∀ x ∈ f i, p x) → ∀ x ∈ upF k f, p x
 | 0, _ => fun x hx => by cases hx
 | k + 1, h => fun x hx => by
  rw [qm] at hx
  rcases List.mem_append.1 hx with hx | hx
  ·exact qe9 k (fun i hi => h i (by omega)) x hx
  ·exact h k (by omega) x hx
def toU (n : Int) : Nat := (n % 18446744073709551616).toNat
theorem qdh (n : Int) : toU n < 18446744073709551616 := by unfold toU; omega
theorem zo (n : Int) : Value.int .u64 (Go.IntKind.u64.wrap n) = .int .u64 ((toU n : Nat) : Int) := by
 unfold toU
 rw [Int.toNat_of_nonneg (Int.emod_nonneg _ (by decide))]
 rfl
structure Snm where
 next : Int
 st : Stm
def Snm.cells (s : Snm) : Array Value := #[.int .i64 s.next, .int .i64 s.st.cpus, .int .u64 (s.st.credit : Int), .slice s.st.gA s.st.gs.length s.st.gc, .slice s.st.lA s.st.cl.length s.st.lc, .slice s.st.uA s.st.cu.length s.st.uc, .slice s.st.tA s.st.ts.length s.st.tc, .slice s.st.sA s.st.rs.length s.st.sc]
theorem qa5 (x : Snm) : ∀ v ∈ x.cells.toList, v.oneCell' = true := by simp [Snm.cells, Value.oneCell']
def gsN (l : List Gr) (i : Nat) : List Nat := [toU (l.getD (i + 1) Gr.zero).parent, toU (l.getD (i + 1) Gr.zero).weight]
def qp (l : List Tk) (i : Nat) : Int := if i = 0 then 0 else (l.getD (i - 1) Tk.zero).id
def tkN (p : Int) (t : Tk) : List Nat := [toU (t.id - p), toU t.group, toU t.weight, toU t.cpu, t.mask, if t.ready then 1 else 0, t.v, t.r]
def spN (g : Nat) (z : Sp) : List Nat := (if 0 < g then [z.v, z.r] else []) ++ [z.floor]
def rwN (g : Nat) (l : List Sp) : List Nat := upF l.length fun c => spN g (l.getD c Sp.zero)
def secN (s : Snm) : Nat → List Nat
 | 0 => [toU s.next]
 | 1 => [toU s.st.cpus, s.st.credit, s.st.gs.length]
 | 2 => upF (s.st.gs.length - 1) (gsN s.st.gs)
 | 3 => s.st.cl.map toU
 | 4 => s.st.cu.map toU
 | 5 => s.st.ts.length :: upF s.st.ts.length fun i => tkN (qp s.st.ts i) (s.st.ts.getD i Tk.zero)
 | 6 => upF s.st.rs.length fun g => rwN g (s.st.rs.getD g Rw.zero).l
 | _ => []
def qb : Nat → ByteArray
 | 0 => ⟨#[110, 101, 120, 116]⟩
 | 1 => ⟨#[99, 111, 110, 102, 105, 103]⟩
 | 2 => ⟨#[103, 114, 111, 117, 112, 115]⟩
 | 3 => ⟨#[99, 108, 111, 99, 107, 115]⟩
 | 4 => ⟨#[99, 117, 114, 114, 101, 110, 116]⟩
 | 5 => ⟨#[116, 97, 115, 107, 115]⟩
 | 6 => ⟨#[115, 112, 111, 116, 115]⟩
 | _ => ⟨#[]⟩
def chkS (s : Snm) : Nat := if s.next < 1 ∨ 281474976710657 < s.next then 330 else if qac s.st.sta = false then 331 else 0
def numsS (s : Snm) : List Nat := upF 7 (secN s)
def bodyS (s : Snm) : List Nat := [113, 115, 1] ++ (numsS s).flatMap vbytes
def outS (s : Snm) : List Nat := if chkS s = 0 then sealL (bodyS s) else []
structure Sec where
 nm : ByteArray
 fr : Nat
 to : Nat
def secL (x : Sec) : List Value := [.string x.nm, .int .i64 (x.fr : Int), .int .i64 (x.to : Int)]
theorem qaa (x : Sec) : (secL x).length = 3 := rfl
def ql6 (w : World) (R : List Nat) (r : Ending) (w' : World) : Prop :=
 (∃ A c, r = .returned (.slice A R.length c) ∧ w'.ownsRow w.heap.size 22 1 (.slice A R.length c) R.length (R.map U64) ∧ R.length ≤ c) ∧ Below w.heap.size w w'
theorem qaq {w w' : World} {q R : List Nat} {A : Option Addr} {c : Nat} (h : q = R) (ho : w'.ownsRow w.heap.size 22 1 (.slice A q.length c) q.length (q.map U64)) (hc : q.length ≤ c) (hb : Below w.heap.size w w') : ql6 w R (.returned (.slice A q.length c)) w' := by
 subst h
 exact ⟨⟨A, c, rfl, ho, hc⟩, hb⟩
theorem qal (l : List Nat) : ∀ u ∈ l.map U64, u.oneCell' = true := by
 intro u hu
 obtain ⟨x, _, rfl⟩ := List.mem_map.1 hu
 rfl
theorem qd8 {l : List Int} {k : Nat} (h : k < l.length) : (l.take (k + 1)).map toU = (l.take k).map toU ++ [toU (l.getD k 0)] := by
 rw [List.take_add_one, List.getElem?_eq_getElem h, List.map_append, List.getD_eq_getElem?_getD, List.getElem?_eq_getElem h]
 rfl
theorem qs {α : Type} {a b : List α} {n : Nat} (h : b.length = n) : a.length + n = (a ++ b).length := by rw [List.length_append, h]
theorem qyy {n : Nat} (h : n < 18446744073709551616) : toU (n : Int) = n := by unfold toU; omega
theorem qam (l : List Tk) (k : Nat) : qp l (k + 1) = (l.getD k Tk.zero).id := by unfold qp; rw [if_neg (by omega)]; rfl
theorem ql7 (l : List Tk) : qp l 0 = 0 := rfl
theorem qvh (b : Bool) : (if b then 1 else 0 : Nat) < 18446744073709551616 := by cases b <;> decide
theorem qrx {g : Nat} {z : Sp} (h : 0 < g) : spN g z = [z.v, z.r] ++ [z.floor] := by unfold spN; rw [if_pos h]
theorem qnn {g : Nat} {z : Sp} (h : ¬ 0 < g) : spN g z = [z.floor] := by unfold spN; rw [if_neg h]; rfl
theorem ts_id {x : Stm} (h : ShAt x) : ∀ i, i < x.ts.length → (i : Int) + 1 ≤ (x.ts.getD i Tk.zero).id
 | 0, hi => (tk_id (h.tk 0 hi)).1
 | i + 1, hi => by
  have h1 := ts_id h i (by omega)
  have h2 := (qi5 (h.tk (i + 1) hi)).1
  rw [Nat.add_sub_cancel] at h2
  omega
theorem q1h {x : Stm} (h : ShAt x) : x.ts.length ≤ 65535 := by
 rcases Nat.lt_or_ge 65535 x.ts.length with h1 | h1
 ·have h2 := ts_id h 65535 h1
  have h3 := (tk_id (h.tk 65535 h1)).2
  omega
 ·exact h1
theorem qy3 (g : Nat) (z : Sp) : (spN g z).length ≤ 3 := by unfold spN; split <;> simp
theorem qy4 (g : Nat) (l : List Sp) : (rwN g l).length ≤ 3 * l.length := qnl (fun c => qy3 g (l.getD c Sp.zero)) _
theorem qvj {s : Snm} (h : ShAt s.st) : (secN s 0).length = 1 ∧ (secN s 1).length = 3 ∧ (secN s 2).length ≤ 512 ∧ (secN s 3).length ≤ 64 ∧ (secN s 4).length ≤ 64 ∧ (secN s 5).length ≤ 524281 ∧ (secN s 6).length ≤ 49152 := by
 obtain ⟨hc1, hc2, _, hg⟩ := qdg h.cfg
 obtain ⟨hg1, hg2, _, _⟩ := qga hg
 have hcl := h.cl
 have hcu := h.cu
 have hrs := h.rs
 have ht := q1h h
 refine ⟨rfl, rfl, ?_, ?_, ?_, ?_, ?_⟩
 ·have := qnl (f := gsN s.st.gs) (m := 2) (fun i => Nat.le_refl 2) (s.st.gs.length - 1)
  show (upF (s.st.gs.length - 1) (gsN s.st.gs)).length ≤ 512
  omega
 ·show (s.st.cl.map toU).length ≤ 64
  rw [List.length_map]; omega
 ·show (s.st.cu.map toU).length ≤ 64
  rw [List.length_map]; omega
 ·have := qnl (f := fun i => tkN (qp s.st.ts i) (s.st.ts.getD i Tk.zero)) (m := 8) (fun i => Nat.le_refl 8) s.st.ts.length
  show (upF s.st.ts.length fun i => tkN (qp s.st.ts i) (s.st.ts.getD i Tk.zero)).length + 1 ≤ 524281
  omega
 ·have := qrw (f := fun g => rwN g (s.st.rs.getD g Rw.zero).l) (m := 192) s.st.rs.length (fun g hg => by
   have h1 := qy4 g (s.st.rs.getD g Rw.zero).l
   have h2 := (qgw hg (h.row g hg)).1
   omega)
  show (upF s.st.rs.length fun g => rwN g (s.st.rs.getD g Rw.zero).l).length ≤ 49152
  omega
theorem qno (s : Snm) : numsS s = secN s 0 ++ secN s 1 ++ secN s 2 ++ secN s 3 ++ secN s 4 ++ secN s 5 ++ secN s 6 := by
 unfold numsS
 rw [qm, qm, qm, qm, qm, qm, qm, qbj, List.nil_append]
theorem qvk {α : Type} {f : Nat → List α} {i k : Nat} (h : i ≤ k) : (upF i f).length ≤ (upF k f).length := by
 induction k with
 | zero =>
  obtain rfl : i = 0 := by omega
  exact Nat.le_refl _
 | succ k ih =>
  rcases Nat.lt_or_ge k i with h1 | h1
  ·obtain rfl : i = k + 1 := by omega
   exact Nat.le_refl _
  ·have := ih h1
   rw [qm, List.length_append]; omega
theorem qg0 {s : Snm} (h : ShAt s.st) : (numsS s).length ≤ 600000 := by
 obtain ⟨h0, h1, h2, h3, h4, h5, h6⟩ := qvj h
 rw [qno]
 simp only [List.length_append]
 omega
theorem qpi {s : Snm} (h : ShAt s.st) {i : Nat} (hi : i ≤ 7) : (upF i (secN s)).length ≤ 600000 := Nat.le_trans (qvk hi) (qg0 h)
theorem qvl {s : Snm} (h : ShAt s.st) {i : Nat} (hi : i < 7) : (secN s i).length ≤ 600000 := by
 have := qpi h (show i + 1 ≤ 7 by omega)
 rw [qm, List.length_append] at this
 omega
theorem q1i {p : Int} {t : Tk} (ht : t.Ok) : ∀ x ∈ tkN p t, x < 18446744073709551616 := by
 intro x hx
 have h1 := ht.mask
 have h2 := ht.v
 have h3 := ht.r
 simp only [tkN, List.mem_cons, List.not_mem_nil, or_false] at hx
 rcases hx with rfl | rfl | rfl | rfl | rfl | rfl | rfl | rfl
 ·exact qdh _
 ·exact qdh _
 ·exact qdh _
 ·exact qdh _
 ·exact h1
 ·exact qvh _
 ·exact h2
 ·omega
theorem q1j {g : Nat} {z : Sp} (hz : z.Ok) : ∀ x ∈ spN g z, x < 18446744073709551616 := by
 intro x hx
 have h1 := hz.v
 have h2 := hz.r
 have h3 := hz.floor
 unfold spN at hx
 split at hx
 ·simp only [List.cons_append, List.nil_append, List.mem_cons, List.not_mem_nil, or_false] at hx
  omega
 ·simp only [List.nil_append, List.mem_cons, List.not_mem_nil, or_false] at hx
  omega
theorem qy5 {s : Snm} (hok : s.st.sta.Ok) (hf : StFew s.st) : ∀ i, ∀ x ∈ secN s i, x < 18446744073709551616 := by
 have hgl := hf.g
 have htl := hf.t
 have hcr := hok.credit
 intro i
 match i with
 | 0 => intro x hx; simp only [secN, List.mem_cons, List.not_mem_nil, or_false] at hx; subst hx; exact qdh _
 | 1 =>
  intro x hx
  simp only [secN, List.mem_cons, List.not_mem_nil, or_false] at hx
  rcases hx with rfl | rfl | rfl
  ·exact qdh _
  ·exact hcr
  ·omega
 | 2 =>
  refine qe9 _ fun i _ x hx => ?_
  simp only [gsN, List.mem_cons, List.not_mem_nil, or_false] at hx
  rcases hx with rfl | rfl
  ·exact qdh _
  ·exact qdh _
 | 3 => intro x hx; obtain ⟨y, _, rfl⟩ := List.mem_map.1 hx; exact qdh _
 | 4 => intro x hx; obtain ⟨y, _, rfl⟩ := List.mem_map.1 hx; exact qdh _
 | 5 =>
  intro x hx
  rcases List.mem_cons.1 hx with rfl | hx
  ·omega
  ·exact qe9 (p := fun x => x < 18446744073709551616) _ (fun i hi => q1i (hok.ts _ (qr Tk.zero hi))) x hx
 | 6 =>
  refine qe9 _ fun g hg => qe9 _ fun c hc => q1j ?_
  refine hok.sp _ (qr [] (show g < s.st.sta.sp.length from by rw [qaz]; exact hg)) _ ?_
  rw [rs_at hg]
  exact qr Sp.zero hc
 | k + 7 => intro x hx; cases hx
theorem qnp {s : Snm} (hok : s.st.sta.Ok) (hf : StFew s.st) : ∀ x ∈ numsS s, x < 18446744073709551616 := qe9 7 fun i _ => qy5 hok hf i
theorem qy6 {l : List Nat} : ∀ b ∈ l.flatMap vbytes, b < 256 := by
 intro b hb
 obtain ⟨x, _, hx⟩ := List.mem_flatMap.1 hb
 exact qrc x b hx
theorem qr2 (s : Snm) : ∀ b ∈ bodyS s, b < 256 := by
 intro b hb
 rcases List.mem_append.1 hb with hb | hb
 ·simp only [List.mem_cons, List.not_mem_nil, or_false] at hb
  omega
 ·exact qy6 b hb
theorem qnq (s : Snm) : (bodyS s).length = 3 + ((numsS s).flatMap vbytes).length := by unfold bodyS; rw [List.length_append]; rfl
theorem qf1 {s : Snm} (h : s.next < 1 ∨ 281474976710657 < s.next) : chkS s = 330 := if_pos h
theorem qkq {s : Snm} (h : ¬ (s.next < 1 ∨ 281474976710657 < s.next)) (hr : qac s.st.sta = false) : chkS s = 331 := by unfold chkS; rw [if_neg h, if_pos hr]
theorem qkr {s : Snm} (h : ¬ (s.next < 1 ∨ 281474976710657 < s.next)) (hr : qac s.st.sta = true) : chkS s = 0 := by unfold chkS; rw [if_neg h, if_neg (by rw [hr]; decide)]
theorem qr3 {s : Snm} (h : chkS s = 0) : (1 ≤ s.next ∧ s.next ≤ 281474976710657) ∧ qac s.st.sta = true := by
 unfold chkS at h
 split at h
 ·cases h
 ·split at h
  ·cases h
  ·rename_i h1 h2
   refine ⟨by omega, ?_⟩
   cases hr : qac s.st.sta with
   | true => rfl
   | false => exact absurd hr h2
theorem qr4 {s : Snm} (h : chkS s = 0) : ShAt s.st := by
 have := (qr3 h).2
 unfold qac at this
 rw [Bool.and_eq_true] at this
 exact sh_at this.1
def numsE (s : Snm) : List Nat := if chkS s = 0 then numsS s else []
theorem qeb {s : Snm} (h : chkS s = 0) : numsE s = numsS s := if_pos h
theorem qvm {s : Snm} (h : chkS s ≠ 0) : numsE s = [] := if_neg h
theorem qmc {s : Snm} (h : chkS s = 0) : outS s = sealL (bodyS s) := if_pos h
theorem qy7 {s : Snm} (h : chkS s ≠ 0) : outS s = [] := if_neg h
theorem qvn {s : Snm} (h : ShAt s.st) : (sealL (bodyS s)).length ≤ 6000007 := by
 rw [ze, qnq]
 have := qdl (numsS s)
 have := qg0 h
 omega
def qg1 (w : World) (er : Nat) (R : List Nat) (r : Ending) (w' : World) : Prop :=
 (∃ A c, r = .returned (.tuple #[.slice A R.length c, .int .i64 (er : Int)]) ∧ w'.ownsRow w.heap.size 22 1 (.slice A R.length c) R.length (R.map U64) ∧ R.length ≤ c) ∧ Below w.heap.size w w'
theorem qfa {w w' : World} {er er' : Nat} {q R : List Nat} {A : Option Addr} {c : Nat} (he : er' = er) (h : q = R) (ho : w'.ownsRow w.heap.size 22 1 (.slice A q.length c) q.length (q.map U64)) (hc : q.length ≤ c) (hb : Below w.heap.size w w') : qg1 w er R (.returned (.tuple #[.slice A q.length c, .int .i64 (er' : Int)])) w' := by
 subst h; subst he
 exact ⟨⟨A, c, rfl, ho, hc⟩, hb⟩
theorem qib {w w' : World} {er : Nat} {R : List Nat} (e : Int) (he : e = er) (h : R = []) (hb : Below w.heap.size w w') : qg1 w er R (.returned (.tuple #[.slice none 0 0, .int .i64 e])) w' := by
 subst h; subst he
 exact ⟨⟨none, 0, rfl, World.ownsRow_nil _ _ _ _, Nat.le_refl _⟩, hb⟩
theorem qpj {w w' : World} {er : Nat} {R : List Nat} (e : Int) (he : e = er) (h : R = []) (hb : Below w.heap.size w w') : qlu w er R (.returned (.tuple #[.slice none 0 0, .int .i64 e])) w' := by
 subst h; subst he
 exact ⟨⟨none, 0, rfl, World.ownsRow_nil _ _ _ _, Nat.le_refl _⟩, hb⟩
theorem qpk {s : Snm} (h : chkS s = 0) : ([113, 115, 1] : List Nat).map B8 ++ ((numsE s).flatMap vbytes).map B8 = (bodyS s).map B8 := by
 rw [qeb h]; exact List.map_append.symm
theorem q1k {s : Snm} (h : chkS s = 0) : 3 + ((numsE s).flatMap vbytes).length = (bodyS s).length := by rw [qnq, qeb h]
theorem qvo {s : Snm} (h : ShAt s.st) : (bodyS s).length ≤ 6000003 := by
 have h1 := qvn h
 rw [ze] at h1
 omega
theorem qpl {w w' : World} {er er' : Nat} {q R : List Nat} {A : Option Addr} {c : Nat} (he : er' = er) (h : q = R) (ho : w'.ownsRow w.heap.size 5 1 (.slice A q.length c) q.length (q.map B8)) (hc : q.length ≤ c) (hb : Below w.heap.size w w') : qlu w er R (.returned (.tuple #[.slice A q.length c, .int .i64 (er' : Int)])) w' := by
 subst h; subst he
 exact ⟨⟨A, c, rfl, ho, hc⟩, hb⟩
theorem qmd (l : List Sec) : ∀ u ∈ l.flatMap secL, u.oneCell' = true := by
 intro u hu
 obtain ⟨x, _, hx⟩ := List.mem_flatMap.1 hu
 simp only [secL, List.mem_cons, List.not_mem_nil, or_false] at hx
 rcases hx with rfl | rfl | rfl <;> rfl
def qj : Sec := ⟨⟨#[104, 101, 97, 100]⟩, 0, 3⟩
def qcv (t : TypeId) (w : World) (er : Nat) (R : List Sec) (r : Ending) (w' : World) : Prop :=
 (∃ A c, r = .returned (.tuple #[.slice A R.length c, .int .i64 (er : Int)]) ∧ w'.ownsRow w.heap.size t 3 (.slice A R.length c) R.length (R.flatMap secL) ∧ R.length ≤ c) ∧ Below w.heap.size w w'
theorem qic {t : TypeId} {w w' : World} {er er' : Nat} {q R : List Sec} {A : Option Addr} {c : Nat} (he : er' = er) (h : q = R) (ho : w'.ownsRow w.heap.size t 3 (.slice A q.length c) q.length (q.flatMap secL)) (hc : q.length ≤ c) (hb : Below w.heap.size w w') : qcv t w er R (.returned (.tuple #[.slice A q.length c, .int .i64 (er' : Int)])) w' := by
 subst h; subst he
 exact ⟨⟨A, c, rfl, ho, hc⟩, hb⟩
theorem qpm {t : TypeId} {w w' : World} {er : Nat} {R : List Sec} (e : Int) (he : e = er) (h : R = []) (hb : Below w.heap.size w w') : qcv t w er R (.returned (.tuple #[.slice none 0 0, .int .i64 e])) w' := by
 subst h; subst he
 exact ⟨⟨none, 0, rfl, World.ownsRow_nil _ _ _ _, Nat.le_refl _⟩, hb⟩
theorem qc6 {α : Type} (d : α) {l m : List α} (hl : l.length = m.length) (hu : ∀ i, i < l.length → l.getD i d = m.getD i d) : l = m := by
 apply List.ext_getElem hl
 intro i h1 h2
 have := hu i h1
 rwa [List.getD_eq_getElem?_getD, List.getD_eq_getElem?_getD, List.getElem?_eq_getElem h1, List.getElem?_eq_getElem h2] at this
theorem qc7 {α : Type} {f g : Nat → α} : ∀ i, i < 0 → f i = g i := fun i h => by omega
theorem qc8 {α : Type} {f g : Nat → α} {k : Nat} (h : ∀ i, i < k → f i = g i) (hk : f k = g k) : ∀ i, i < k + 1 → f i = g i := fun i hi => by
 rcases Nat.lt_or_ge i k with h1 | h1
 ·exact h i h1
 ·obtain rfl : i = k := by omega
  exact hk
theorem qvp (x y : Tk) : zt Tryz.prog 4 46 (.agg x.cells) (.agg y.cells) = some (decide (x = y)) := by
 have h : zt Tryz.prog 4 46 (.agg x.cells) (.agg y.cells) = some ((x.id == y.id) && ((x.group == y.group) && ((x.weight == y.weight) && ((x.cpu == y.cpu) && (((x.mask : Int) == (y.mask : Int)) && ((x.ready == y.ready) && (((x.v : Int) == (y.v : Int)) && (((x.r : Int) == (y.r : Int)) && true)))))))) := by kernel_rfl
 refine h.trans (congrArg some ?_)
 obtain ⟨a1, a2, a3, a4, a5, a6, a7, a8⟩ := x
 obtain ⟨b1, b2, b3, b4, b5, b6, b7, b8⟩ := y
 rw [Bool.eq_iff_iff]
 simp only [Bool.and_eq_true, beq_iff_eq, decide_eq_true_eq, Tk.mk.injEq, and_true, Int.ofNat_inj]
theorem qvq (x y : Sp) : zt Tryz.prog 4 43 (.agg x.cells) (.agg y.cells) = some (decide (x = y)) := by
 have h : zt Tryz.prog 4 43 (.agg x.cells) (.agg y.cells) = some (((x.v : Int) == (y.v : Int)) && (((x.r : Int) == (y.r : Int)) && (((x.floor : Int) == (y.floor : Int)) && true))) := by kernel_rfl
 refine h.trans (congrArg some ?_)
 obtain ⟨a1, a2, a3⟩ := x
 obtain ⟨b1, b2, b3⟩ := y
 rw [Bool.eq_iff_iff]
 simp only [Bool.and_eq_true, beq_iff_eq, decide_eq_true_eq, Sp.mk.injEq, and_true, Int.ofNat_inj]
def rowsL (x : Stm) : List (List Sp) := x.rs.map Rw.l
theorem qr5 {x : Stm} {g : Nat} (h : g < x.rs.length) : (rowsL x).getD g [] = (x.rs.getD g Rw.zero).l := rs_at h
theorem qnr (x : Stm) : (rowsL x).length = x.rs.length := List.length_map ..
def CfgEq (a b : Stm) : Prop := a.cpus = b.cpus ∧ a.credit = b.credit ∧ a.gs = b.gs
instance cfgEqDec (a b : Stm) : Decidable (CfgEq a b) := by unfold CfgEq; infer_instance
def StaEq (a b : Stm) : Prop := CfgEq a b ∧ a.cl = b.cl ∧ a.cu = b.cu ∧ a.ts = b.ts ∧ rowsL a = rowsL b
instance staEqDec (a b : Stm) : Decidable (StaEq a b) := by unfold StaEq; infer_instance
def SnEq (a b : Snm) : Prop := a.next = b.next ∧ a.st.cpus = b.st.cpus ∧ a.st.credit = b.st.credit ∧ a.st.gs = b.st.gs ∧ a.st.cl = b.st.cl ∧ a.st.cu = b.st.cu ∧ a.st.ts = b.st.ts ∧ rowsL a.st = rowsL b.st
instance snEqDec (a b : Snm) : Decidable (SnEq a b) := by unfold SnEq; infer_instance
theorem qc9 {l : List Rw} {i : Nat} (h : i < l.length) : (l.map Rw.l).getD i [] = (l.getD i Rw.zero).l := by
 rw [List.getD_eq_getElem?_getD, List.getD_eq_getElem?_getD, List.getElem?_map, List.getElem?_eq_getElem h]
 rfl
theorem qr6 {l m : List Rw} (hl : l.length = m.length) (hu : ∀ i, i < l.length → (l.getD i Rw.zero).l = (m.getD i Rw.zero).l) : l.map Rw.l = m.map Rw.l :=
 qc6 [] (by simpa using hl) fun i hi => by
  rw [List.length_map] at hi
  rw [qc9 hi, qc9 (by omega)]
  exact hu i hi
theorem qks {l m : List Rw} {k : Nat} (h1 : k < l.length) (h2 : k < m.length) (h : (l.getD k Rw.zero).l ≠ (m.getD k Rw.zero).l) : l.map Rw.l ≠ m.map Rw.l := fun e => h (by rw [← qc9 h1, ← qc9 h2, e])
theorem q1l {α : Type} {l m : List α} (h : l.length ≠ m.length) : l ≠ m := fun e => h (by rw [e])
section
variable {P : Program} {Q : Exit → Act → World → Prop} {a : Act} {W w : World} {n d : Nat} {D : List Deferred} {σ : List (Nat × Value)} {o : Oper} {K : Act → World → Prop} {fs : List Fact}
theorem Mem.setPart (h : Mem W w fs) {i g off : Nat} {cs ds es : Array Value} {t : TypeId} (hi : fs[i]? = some (.blk g cs t)) (hl : off + ds.size ≤ cs.size) (he : cs.toList.take off ++ ds.toList ++ cs.toList.drop (off + ds.size) = es.toList) : Mem W (w.setCells g off ds.toList) (fs.set i (.blk g es t)) := by
 have hb := h.holds _ (List.mem_of_getElem? hi)
 refine h.turn hi (below_setCells h.below hb.1 off _) (fun k hk hne => ?_) ⟨hb.1, ?_⟩ (fun g' hg' => .inl hg')
 ·exact zj _ _ _ _ _ (fun e => hne (by rw [e]; rfl))
 ·have hlen : (cs.toList.take off).length = off := by rw [List.length_take]; simp; omega
  have h1 := qag g t ds.toList w (cs.toList.take off) (cs.toList.drop (off + ds.size)) ((cs.toList.drop off).take ds.size) (by
   rw [hb.2]
   congr 2
   apply Array.ext'
   show cs.toList = _
   rw [List.append_assoc, ← List.drop_drop, List.take_append_drop, List.take_append_drop]) (by rw [List.length_take, List.length_drop]; simp; omega)
  rw [hlen, he] at h1
  simpa using h1
theorem e_sp (M : Fr a n D σ) (O : Mem W w fs) (i : Nat) {t : TypeId} {x y : Operand} {g off m : Nat} {cs ds : Array Value} {tb : TypeId} (es : Array Value) (hop : o.op = .store t x y) (hd : o.dst = none) (hx : look σ x = some (.pointer (some ⟨g, off, none⟩))) (hy : look σ y = some (.agg ds)) (hi : fs[i]? = some (.blk g cs tb)) (si : SI P t m) (hc : off + m ≤ cs.size) (hm : ds.size = m) (h1 : ∀ u ∈ ds.toList, u.oneCell' = true) (he : cs.toList.take off ++ ds.toList ++ cs.toList.drop (off + m) = es.toList)
  (k : ∀ w', Mem W w' (fs.set i (.blk g es tb)) → K a w') : o.wp P a w K Q := by
 subst hm
 have hb := O.blk hi
 have hl := run_storeVar_mid (P := P) w g off t ds (qbz hb off ds.size (by omega)) (by exact si.size) (by simpa using all_oneCell_toArray h1)
 unfold Oper.wp execOp
 simp only [hop, M.eval hx, M.eval hy, Sem.run_bind, Instr.storeAt, Instr.sureAddr, Sem.run_pure, hl, Result.andThen_ok, Oper.upon_skip, hd]
 exact k _ (O.setPart hi hc he)
end
def rwF (t : TypeId) (q : List Rw) : List Fact := ownsF t 3 (q.map Rw.own)
section
variable {W w w' : World} {fs gs a T : List Fact} {t : TypeId} {q : List Rw}
theorem qy8 {x : Rw} (hq : x ∈ q) : Fact.row (.slice x.A x.l.length x.c) x.l.length (x.l.flatMap spL) t 3 ∈ rwF t q := List.mem_map_of_mem (List.mem_map_of_mem hq)
theorem Mem.toRw {A : Option Addr} {c : Nat} {l : List Sp} (h : Mem W w (.row (.slice A l.length c) l.length (l.flatMap spL) t 3 :: (fs ++ rwF t q))) : Mem W w (fs ++ rwF t (q ++ [⟨A, c, l⟩])) := by
 have h1 := Mem.qym h
 unfold rwF
 rw [List.map_append]
 exact h1
theorem Mem.joinT (h : Mem W w fs) (k : Mem w w' gs) : Mem W w' (fs ++ gs) := (h.join k).perm List.perm_append_comm
end
def stF (x : Stm) : List Fact := [.row (.slice x.gA x.gs.length x.gc) x.gs.length (x.gs.flatMap grL) 40 2, .row (.slice x.lA x.cl.length x.lc) x.cl.length (x.cl.map I64i) 3 1, .row (.slice x.uA x.cu.length x.uc) x.cu.length (x.cu.map I64i) 3 1, .row (.slice x.tA x.ts.length x.tc) x.ts.length (x.ts.flatMap tkL) 46 8, .row (.slice x.sA x.rs.length x.sc) x.rs.length (x.rs.map Rw.val) 44 1] ++ rwF 43 x.rs
section
variable {W w w' : World} {fs T : List Fact} {x : Stm}
theorem Mem.stOf (h : Mem W w fs) (hs : ∀ f ∈ stF x, f ∈ fs) : StRd w x :=
 ⟨h.qlq (hs _ (List.mem_of_getElem? (i := 0) (l := stF x) rfl)), h.qlq (hs _ (List.mem_of_getElem? (i := 1) (l := stF x) rfl)), h.qlq (hs _ (List.mem_of_getElem? (i := 2) (l := stF x) rfl)), h.qlq (hs _ (List.mem_of_getElem? (i := 3) (l := stF x) rfl)), h.qlq (hs _ (List.mem_of_getElem? (i := 4) (l := stF x) rfl)), fun y hy => h.qlq (hs _ (List.mem_append_right _ (qy8 hy)))⟩
theorem Mem.stL (n : Nat) (h : Mem W w fs) (he : fs.drop n = stF x ++ T) : StRd w x := h.stOf fun f hf => List.mem_of_mem_drop (he ▸ List.mem_append_left _ hf)
theorem Mem.stX (n : Nat) (h : Mem W w fs) (he : fs.drop n = stF x) : StRd w x := h.stOf fun f hf => List.mem_of_mem_drop (he ▸ hf)
end
def q1m (w : World) (x : Stm) (r : Ending) (w' : World) : Prop := ∃ y : Stm, r = .returned (.agg y.cells) ∧ StaEq x y ∧ StCap y ∧ Mem w w' (stF y)
def qxq (w : World) (s : Snm) (r : Ending) (w' : World) : Prop := ∃ z : Snm, r = .returned (.agg z.cells) ∧ SnEq s z ∧ StCap z.st ∧ Mem w w' (stF z.st)
def qy9 (w : World) (R : List Int) (r : Ending) (w' : World) : Prop :=
 (∃ A c, r = .returned (.slice A R.length c) ∧ w'.ownsRow w.heap.size 3 1 (.slice A R.length c) R.length (R.map I64i) ∧ R.length ≤ c) ∧ Below w.heap.size w w'
def q1n (w : World) (x : Stm) (r : Ending) (w' : World) : Prop :=
 (∃ A c, r = .returned (.agg #[.int .i64 x.cpus, .int .u64 (x.credit : Int), .slice A x.gs.length c]) ∧ w'.ownsRow w.heap.size 40 2 (.slice A x.gs.length c) x.gs.length (x.gs.flatMap grL) ∧ x.gs.length ≤ c) ∧ Below w.heap.size w w'
theorem qns (l : List Gr) : ∀ u ∈ l.flatMap grL, u.oneCell' = true := by
 intro u hu
 obtain ⟨x, _, hx⟩ := List.mem_flatMap.1 hu
 simp only [grL, List.mem_cons, List.not_mem_nil, or_false] at hx
 rcases hx with rfl | rfl <;> rfl
theorem qkt (l : List Sp) : ∀ u ∈ l.flatMap spL, u.oneCell' = true := by
 intro u hu
 obtain ⟨x, _, hx⟩ := List.mem_flatMap.1 hu
 simp only [spL, List.mem_cons, List.not_mem_nil, or_false] at hx
 rcases hx with rfl | rfl | rfl <;> rfl
theorem qnt (l : List Tk) : ∀ u ∈ l.flatMap tkL, u.oneCell' = true := by
 intro u hu
 obtain ⟨x, _, hx⟩ := List.mem_flatMap.1 hu
 simp only [tkL, List.mem_cons, List.not_mem_nil, or_false] at hx
 rcases hx with rfl | rfl | rfl | rfl | rfl | rfl | rfl | rfl <;> rfl
theorem qg2 (l : List Int) : ∀ u ∈ l.map I64i, u.oneCell' = true := by
 intro u hu
 obtain ⟨x, _, rfl⟩ := List.mem_map.1 hu
 rfl
theorem qr7 (l : List Rw) : ∀ u ∈ l.map Rw.val, u.oneCell' = true := by
 intro u hu
 obtain ⟨x, _, rfl⟩ := List.mem_map.1 hu
 rfl
theorem qvr {l : List Rw} {k : Nat} (h : k < l.length) : (l.take (k + 1)).map Rw.l = (l.take k).map Rw.l ++ [(l.getD k Rw.zero).l] := by rw [qnm Rw.zero h, List.map_append]; rfl
theorem qxr {a b : Stm} (h : StaEq a b) : b.sta = a.sta := by
 obtain ⟨⟨h1, h2, h3⟩, h4, h5, h6, h7⟩ := h
 unfold Stm.sta
 rw [h1, h2, h3, h4, h5, h6, show a.rs.map Rw.l = b.rs.map Rw.l from h7]
theorem qcw {a b : Snm} (h : SnEq a b) : StaEq a.st b.st := ⟨⟨h.2.1, h.2.2.1, h.2.2.2.1⟩, h.2.2.2.2.1, h.2.2.2.2.2.1, h.2.2.2.2.2.2.1, h.2.2.2.2.2.2.2⟩
theorem sn_of {a b : Snm} (h0 : a.next = b.next) (h : StaEq a.st b.st) : SnEq a b := ⟨h0, h.1.1, h.1.2.1, h.1.2.2, h.2.1, h.2.2.1, h.2.2.2.1, h.2.2.2.2⟩
theorem qfb {a b : Stm} (h : rowsL a = rowsL b) : a.rs.length = b.rs.length := by rw [← qnr a, h, qnr]
theorem qf2 {α : Type} {f g : Nat → List α} : ∀ k, (∀ i, i < k → f i = g i) → upF k f = upF k g
 | 0, _ => rfl
 | k + 1, h => by rw [qm, qm, qf2 k (fun i hi => h i (by omega)), h k (by omega)]
theorem q1o {a b : Snm} (h : SnEq a b) : ∀ i, secN b i = secN a i := by
 obtain ⟨h0, h1, h2, h3, h4, h5, h6, h7⟩ := h
 intro i
 match i with
 | 0 => show [toU b.next] = [toU a.next]; rw [h0]
 | 1 => show [toU b.st.cpus, b.st.credit, b.st.gs.length] = [toU a.st.cpus, a.st.credit, a.st.gs.length]; rw [h1, h2, h3]
 | 2 => show upF (b.st.gs.length - 1) (gsN b.st.gs) = upF (a.st.gs.length - 1) (gsN a.st.gs); rw [h3]
 | 3 => show b.st.cl.map toU = a.st.cl.map toU; rw [h4]
 | 4 => show b.st.cu.map toU = a.st.cu.map toU; rw [h5]
 | 5 => show (b.st.ts.length :: upF b.st.ts.length fun i => tkN (qp b.st.ts i) (b.st.ts.getD i Tk.zero)) = a.st.ts.length :: upF a.st.ts.length fun i => tkN (qp a.st.ts i) (a.st.ts.getD i Tk.zero); rw [h6]
 | 6 =>
  have hl := qfb h7
  show (upF b.st.rs.length fun g => rwN g (b.st.rs.getD g Rw.zero).l) = upF a.st.rs.length fun g => rwN g (a.st.rs.getD g Rw.zero).l
  rw [hl]
  exact qf2 _ fun g hg => by rw [← qr5 hg, ← h7, qr5 (by omega)]
 | k + 7 => rfl
theorem qku {a b : Snm} (h : SnEq a b) : chkS b = chkS a := by unfold chkS; rw [qxr (qcw h), h.1]
theorem qza {a b : Snm} (h : SnEq a b) : numsS b = numsS a := qf2 7 fun i _ => q1o h i
theorem qzb {a b : Snm} (h : SnEq a b) : bodyS b = bodyS a := by unfold bodyS; rw [qza h]
theorem qxs {a b : Snm} (h : SnEq a b) : outS b = outS a := by unfold outS; rw [qku h, qzb h]
theorem qpn (a : Stm) : StaEq a a := ⟨⟨rfl, rfl, rfl⟩, rfl, rfl, rfl, rfl⟩
theorem qpo {a b : Stm} (h : StaEq a b) : StaEq b a := ⟨⟨h.1.1.symm, h.1.2.1.symm, h.1.2.2.symm⟩, h.2.1.symm, h.2.2.1.symm, h.2.2.2.1.symm, h.2.2.2.2.symm⟩
theorem qme {a b c : Stm} (h : StaEq a b) (k : StaEq b c) : StaEq a c := ⟨⟨h.1.1.trans k.1.1, h.1.2.1.trans k.1.2.1, h.1.2.2.trans k.1.2.2⟩, h.2.1.trans k.2.1, h.2.2.1.trans k.2.2.1, h.2.2.2.1.trans k.2.2.2.1, h.2.2.2.2.trans k.2.2.2.2⟩
theorem qr8 {a b : Snm} (h : SnEq a b) : SnEq b a := sn_of h.1.symm (qpo (qcw h))
theorem qid {a b c : Snm} (h : SnEq a b) (k : SnEq b c) : SnEq a c := sn_of (h.1.trans k.1) (qme (qcw h) (qcw k))
theorem qie {a b : Stm} (h : StaEq a b) (hf : StFew a) : StFew b := by
 obtain ⟨⟨h1, h2, h3⟩, h4, h5, h6, h7⟩ := h
 refine ⟨h3 ▸ hf.g, h4 ▸ hf.l, h5 ▸ hf.u, h6 ▸ hf.t, by rw [← qfb h7]; exact hf.s, fun y hy => ?_⟩
 have h8 : y.l ∈ rowsL a := by rw [h7]; exact List.mem_map_of_mem hy
 obtain ⟨z, hz, e⟩ := List.mem_map.1 h8
 rw [← e]
 exact hf.r z hz
theorem Mem.q2x {W w w' : World} {l A B C : List Fact} (h : Mem W w (l ++ (A ++ B))) (k : Mem w w' C) : Mem W w' (l ++ (A ++ (B ++ C))) := by
 have h1 := h.joinT k
 rwa [List.append_assoc, List.append_assoc] at h1
theorem Mem.stE {W w : World} {fs A B : List Fact} {x : Stm} (n : Nat) (h : Mem W w fs) (he : fs.drop n = A ++ (B ++ stF x)) : StRd w x := h.stOf fun _ hf => List.mem_of_mem_drop (he ▸ List.mem_append_right _ (List.mem_append_right _ hf))
def LitP (x : Stm) : Prop := x.ts.length ≤ 60 ∧ x.gs.length ≤ 12 ∧ x.rs.length ≤ 12 ∧ x.cl.length ≤ 8 ∧ x.cu.length ≤ 8 ∧ ∀ k, k < x.rs.length → (x.rs.getD k Rw.zero).l.length ≤ 8
instance litDec (x : Stm) : Decidable (LitP x) := by unfold LitP; infer_instance
def Sec.zero : Sec := ⟨⟨#[]⟩, 0, 0⟩
def Sec.cells (x : Sec) : Array Value := #[.string x.nm, .int .i64 (x.fr : Int), .int .i64 (x.to : Int)]
theorem qvs (x : Sec) : ∀ v ∈ x.cells.toList, v.oneCell' = true := by simp [Sec.cells, Value.oneCell']
def secEq (x y : Sec) : Bool := (x.nm.toList == y.nm.toList) && (((x.fr : Int) == (y.fr : Int)) && (((x.to : Int) == (y.to : Int)) && true))
theorem qpp (x : Sec) : secEq x x = true := by unfold secEq; simp
theorem qpq (x y : Sec) : zt Tryz.prog 4 83 (.agg x.cells) (.agg y.cells) = some (secEq x y) := by kernel_rfl
end Go.Proofs.YtggpmlaappaopaaGreatDoor
namespace Go.Proofs.YtggpmlaappaopaaGreatDoor
open Go.RowKit Go.ChangeShapes Go.WideShapes Go.ChangeAt
section
variable {H : Type} {enc : TypeId × Value → H} {W : World} {b0 : Nat} {v : Value} {d : DataW H} {p : List MemPlace}
theorem qzc : Tryz.prog.underlying 41 = some (.int .u32) := by kernel_rfl
structure RwIn (W : World) (x : Rw) : Prop where
 ok : ∀ z ∈ x.l, z.Ok
 hc : x.l.length ≤ x.c
 rd : Rd W W.heap.size 3 x.A x.l.length (x.l.flatMap spL)
structure StIn (W : World) (x : Stm) : Prop where
 ok : x.sta.Ok
 cap : StCap x
 rd : StRd W x
end
set_option maxRecDepth 100000 in
theorem qkv {W : World} (h : laidMetH Tryz.prog Rows.canonTellsRow.laid W) : LaidX W.heap.size W := by
 rw [MakeChecks.laidMetH_plain _ _ _ (by kernel_rfl)] at h
 obtain ⟨g1, t1, cs1, f1, p1, hg1, ht1, hv1, hd1⟩ := Lib.laidMet.reads h (n := "quantum/crc.halves") (d := Rows.laid_quantum_crc_halves) (List.mem_cons_self ..)
 have gg1 : Tryz.prog.globalNamed "quantum/crc.halves" = some 0 := by kernel_rfl
 obtain rfl := Option.some.inj (gg1.symm.trans hg1)
 have ty1 : (Tryz.prog.globals[0]?).map (·.type) = some 191 := by kernel_rfl
 obtain rfl := Option.some.inj (ty1.symm.trans ht1)
 have one1 : Tryz.prog.cellsOf 41 = 1 := by kernel_rfl
 have c1 : ∀ i v, cs1.toList[i]? = some v → W.cell? ⟨0, i, none⟩ = some v := fun i v hv => by
  rw [World.var?_cell gg1 hv1 i]; simpa using hv
 have at1 : ∀ (cs : List Value) (i : Nat) (v : Value), (cs.drop (i * 1)).take 1 = [v] → cs[i]? = some v := by
  intro cs i v h
  have := congrArg (·[0]?) h
  simpa [List.getElem?_take, List.getElem?_drop] using this
 have hal : ∀ k, k < 16 → W.cell? ⟨0, k, none⟩ = some (.int .u32 ((qak.getD k 0 : Nat) : Int)) := by
  intro k hk
  obtain ⟨f', d, q, hd, ht⟩ := Lib.array_elem (n := 16) (e := 41) (by kernel_rfl) hd1 k hk
  rw [one1] at ht
  have hdk : d = .lit (.int .u32 ((qak.getD k 0 : Nat) : Int)) := by
   have hk' : k = 0 ∨ k = 1 ∨ k = 2 ∨ k = 3 ∨ k = 4 ∨ k = 5 ∨ k = 6 ∨ k = 7 ∨ k = 8 ∨ k = 9 ∨ k = 10 ∨ k = 11 ∨ k = 12 ∨ k = 13 ∨ k = 14 ∨ k = 15 := by omega
   rcases hk' with rfl | rfl | rfl | rfl | rfl | rfl | rfl | rfl | rfl | rfl | rfl | rfl | rfl | rfl | rfl | rfl <;> exact (Option.some.inj hd).symm
  subst hdk
  obtain ⟨z, e1, e2, _⟩ := DataW.trod_int qzc ht
  have e2 := congrArg Prod.fst e2
  simp only [DataW.lit.injEq, Lit.int.injEq, true_and] at e2
  exact c1 k _ (by rw [at1 _ _ _ e1, ← e2])
 exact ⟨hal, World.block_lt_of_cell? W _ (hal 0 (by omega))⟩
end Go.Proofs.YtggpmlaappaopaaGreatDoor
namespace Go.Proofs.YtggpmlaappaopaaGreatDoor
open Go.RowKit
def byA : List Nat := [113, 115, 1, 1, 1, 0, 1, 0, 0, 0, 0]
section
variable {w : World} {a b c d e f : Nat}
end
def DepIs (w : World) (l : List Gr) (g : Nat) (r : Ending) (w' : World) : Prop := (∃ d : Int, r = .returned (.int .i64 d) ∧ (d ≤ 4 ↔ ParB l g ∧ depG l g ≤ 4)) ∧ Below w.heap.size w w'
theorem qwc {l : List Gr} {g y z : Nat} (hp : ∀ i, 0 < i → i < g → ParB l i) (hy : y ≤ g) (h0 : 0 < y) (hz : (l.getD y Gr.zero).parent = z) (hyz : z < y) : depG l y = depG l z + 1 := by
 have h := qf9 (l := l) (g := y) (fun i h1 h2 => by
  rcases Nat.lt_or_ge i y with h3 | h3
  ·exact hp i h1 (by omega)
  ·obtain rfl : i = y := by omega
   unfold ParB
   omega) h0
 rw [hz, Int.toNat_natCast] at h
 exact h
theorem qob {w w' : World} {l : List Gr} {g y : Nat} (hp : ∀ i, 0 < i → i < g → ParB l i) (hy : y ≤ g) (h0 : 0 < y) (h : ¬ (0 ≤ (l.getD y Gr.zero).parent ∧ (l.getD y Gr.zero).parent < y)) (hb : Below w.heap.size w w') : DepIs w l g (.returned (.int .i64 5)) w' := by
 refine ⟨⟨5, rfl, ⟨fun h => by omega, fun hh => ?_⟩⟩, hb⟩
 exfalso
 apply h
 rcases Nat.lt_or_ge y g with h3 | h3
 ·exact hp y h0 h3
 ·obtain rfl : y = g := by omega
  exact hh.1
theorem qoc {w w' : World} {l : List Gr} {g y n : Nat} (hd : depG l g = n + depG l y) (h : y = 0 ∨ 5 ≤ n) (hpg : y = g ∨ ParB l g) (hg : 0 < g) (hb : Below w.heap.size w w') : DepIs w l g (.returned (.int .i64 (n : Int))) w' := by
 refine ⟨⟨n, rfl, ⟨fun hn => ?_, fun hh => ?_⟩⟩, hb⟩
 ·rcases h with rfl | h
  ·rw [qjz] at hd
   exact ⟨hpg.resolve_left (by omega), by omega⟩
  ·omega
 ·omega
theorem qzt {l : List Gr} {y z : Nat} (hz : (l.getD y Gr.zero).parent = z) (h : z < y) : ParB l y := by unfold ParB; omega
theorem qzu {l : List Gr} {g : Nat} (h0 : 0 < g) (h : ¬ (ParB l g ∧ depG l g ≤ 4)) : gOk l g = false := qh2 h0 fun hh => h ⟨⟨hh.1, hh.2.1⟩, hh.2.2.2⟩
theorem qwd {l : List Gr} {g : Nat} (h : ParB l g ∧ depG l g ≤ 4) (hw : 1 ≤ (l.getD g Gr.zero).weight ∧ (l.getD g Gr.zero).weight ≤ 65536) : gOk l g = true := qre ⟨h.1.1, h.1.2, hw, h.2⟩
theorem qzv {l : List Gr} {g : Nat} (hu : UpTo g (gOk l)) : ∀ i, 0 < i → i < g → ParB l i := fun i h0 hi => qiv (hu i hi) h0
theorem qil {x : Stm} (h : gsOk x.gs = false) : cfgOk x.sta = false := by unfold cfgOk; rw [show gsOk x.sta.gs = false from h, Bool.and_false]
theorem qs2 {m n : Nat} : ∀ k, (∀ i, n ≤ i → i < n + k → m / 2 ^ i % 2 = 0) → m % 2 ^ (n + k) = m % 2 ^ n
 | 0, _ => rfl
 | k + 1, h => by
  rw [← Nat.add_assoc, Nat.mod_pow_succ, h (n + k) (by omega) (by omega), Nat.mul_zero, Nat.add_zero]
  exact qs2 k fun i h1 h2 => h i h1 (by omega)
theorem qs3 {m n : Nat} (hm : m < 18446744073709551616) (hn : n ≤ 64) (h : ∀ i, n ≤ i → i < 64 → m / 2 ^ i % 2 = 0) : ¬ 2 ^ n ≤ m := by
 have h1 := qs2 (m := m) (n := n) (64 - n) fun i h1 h2 => h i h1 (by omega)
 rw [show n + (64 - n) = 64 by omega, Nat.mod_eq_of_lt (show m < 2 ^ 64 from hm)] at h1
 have := Nat.mod_lt m (Nat.two_pow_pos n)
 omega
theorem qs4 {m n c : Nat} (hc : n ≤ c) (h : m / 2 ^ c % 2 = 1) : 2 ^ n ≤ m := by
 have h1 : 2 ^ n ≤ 2 ^ c := Nat.pow_le_pow_right (by decide) hc
 rcases Nat.lt_or_ge m (2 ^ c) with h2 | h2
 ·rw [Nat.div_eq_of_lt h2] at h; omega
 ·omega
def shpS (s : Sta) : Bool := (cfgOk s && qm3 s) && (allN s.cl.length (fun c => clOk (s.cl.getD c 0)) && allN s.sp.length (rowOk s))
structure ShA0 (x : Stm) : Prop where
 cfg : cfgOk x.sta = true
 cl : (x.cl.length : Int) = x.cpus
 cu : (x.cu.length : Int) = x.cpus
 rs : x.rs.length = x.gs.length
 cls : ∀ c, c < x.cl.length → clOk (x.cl.getD c 0) = true
 row : ∀ g, g < x.rs.length → rowOk x.sta g = true
section
variable {x : Stm} {g : Nat}
theorem qzw (h : cfgOk x.sta = false) : shpS x.sta = false := by unfold shpS; rw [h]; rfl
theorem qml (h : ¬ ((x.cl.length : Int) = x.cpus ∧ (x.cu.length : Int) = x.cpus ∧ x.rs.length = x.gs.length)) : shpS x.sta = false := by unfold shpS; rw [qe8, decide_eq_false h, Bool.and_false, Bool.false_and]
theorem qx9 {c : Nat} (hc : c < x.cl.length) (h : clOk (x.cl.getD c 0) = false) : shpS x.sta = false := by unfold shpS; rw [q8 (n := x.sta.cl.length) hc (p := fun c => clOk (x.sta.cl.getD c 0)) h]; simp
theorem qs5 (hg : g < x.rs.length) (h : rowOk x.sta g = false) : shpS x.sta = false := by unfold shpS; rw [q8 (n := x.sta.sp.length) (by rwa [qaz]) h]; simp
theorem qzx (h1 : cfgOk x.sta = true) (h2 : (x.cl.length : Int) = x.cpus ∧ (x.cu.length : Int) = x.cpus ∧ x.rs.length = x.gs.length) (h3 : UpTo x.cl.length (fun c => clOk (x.cl.getD c 0))) (h4 : UpTo x.rs.length (rowOk x.sta)) : shpS x.sta = true := by
 unfold shpS
 rw [h1, qe8, decide_eq_true h2, show allN x.sta.cl.length (fun c => clOk (x.sta.cl.getD c 0)) = true from h3.all, qaz, h4.all]
 rfl
theorem q1x (h : shpS x.sta = true) : ShA0 x := by
 unfold shpS at h
 simp only [Bool.and_eq_true] at h
 obtain ⟨⟨h1, h2⟩, h3, h4⟩ := h
 rw [qe8, decide_eq_true_eq] at h2
 rw [qaz] at h4
 exact ⟨h1, h2.1, h2.2.1, h2.2.2, fun c hc => qcb h3 hc, fun g hg => qcb h4 hg⟩
theorem qhc : zg x.sta = (shpS x.sta && allN x.ts.length (tkAt x.sta)) := by
 unfold zg shpS
 simp only [Bool.and_assoc]
 rfl
end
theorem qs6 {t : Int} (h : ¬ (0 ≤ t ∧ t ≤ 281474976710656)) : clOk t = false := decide_eq_false h
theorem qwe {t : Int} (h : 0 ≤ t ∧ t ≤ 281474976710656) : clOk t = true := decide_eq_true h
def mbrL (m : Mb) : List Value := [.int .u64 (m.v : Int), .int .i64 (m.k : Int), .int .i64 (m.id : Int)]
theorem qjl (m : Mb) : (mbrL m).length = 3 := rfl
def Mb.rcells (m : Mb) : Array Value := #[.int .u64 (m.v : Int), .int .i64 (m.k : Int), .int .i64 (m.id : Int)]
def Mb.zero : Mb := ⟨0, 0, 0⟩
theorem qmm (x : Mb) : ∀ v ∈ x.rcells.toList, v.oneCell' = true := by simp [Mb.rcells, Value.oneCell']
theorem qs7 (l : List Mb) : ∀ u ∈ l.flatMap mbrL, u.oneCell' = true := by
 intro u hu
 obtain ⟨x, _, hx⟩ := List.mem_flatMap.1 hu
 simp only [mbrL, List.mem_cons, List.not_mem_nil, or_false] at hx
 rcases hx with rfl | rfl | rfl <;> rfl
def qdi (l : List Mb) : Mb := bestM (l.getD 0 Mb.zero) (l.drop 1)
theorem qk7 {l : List Mb} (h : l ≠ []) (hk : ∀ m ∈ l, m.k ≤ 1 ∧ m.v < 18446744073709551616) : qdi l = bestM topM l := by
 obtain ⟨m, r, rfl⟩ := List.exists_cons_of_ne_nil h
 have h1 := hk m (by simp)
 have e : m.lt topM = true := by
  unfold Mb.lt topM
  rw [decide_eq_true_eq]
  show m.v < 18446744073709551615 ∨ m.v = 18446744073709551615 ∧ (m.k < 18446744073709551615 ∨ m.k = 18446744073709551615 ∧ m.id < 18446744073709551615)
  omega
 show bestM m r = bestM (if m.lt topM then m else topM) r
 rw [e]; rfl
theorem qk8 {l : List Mb} {b : Mb} {k : Nat} (h1 : 1 ≤ k) (hk : k < l.length) : bestM b ((l.take (k + 1)).drop 1) = if (l.getD k Mb.zero).lt (bestM b ((l.take k).drop 1)) then l.getD k Mb.zero else bestM b ((l.take k).drop 1) := by
 rw [qnm Mb.zero hk, List.drop_append_of_le_length (by rw [List.length_take]; omega), qh7]
theorem lt_v {a b : Mb} (h : a.v ≠ b.v) : a.lt b = decide (a.v < b.v) := decide_eq_decide.2 (by omega)
theorem lt_k {a b : Mb} (h : a.v = b.v) (h2 : a.k ≠ b.k) : a.lt b = decide (a.k < b.k) := decide_eq_decide.2 (by omega)
theorem lt_id {a b : Mb} (h : a.v = b.v) (h2 : a.k = b.k) : a.lt b = decide (a.id < b.id) := decide_eq_decide.2 (by omega)
theorem qs8 {a b : Mb} {m n : Nat} (h : a.lt b = decide (m < n)) {w w' : World} (hb : Below w.heap.size w w') : Is w (.bool (a.lt b)) (.returned (.bool (decide ((m : Int) < (n : Int))))) w' := by
 rw [h]; exact qh0 (by omega) hb
section
variable {x : Stm} {g i : Nat} {z : Sp} {t : Tk}
theorem qwf (h : entOk z.v z.r (x.gs.getD g Gr.zero).weight = true) (h0 : g = 0) (hv : z.v = 0) : decide ((z.r : Int) > 0) = !spOk x.sta g z := by
 rw [← qro h h0 hv, Bool.eq_iff_iff, bne_iff_ne, decide_eq_true_eq]
 omega
theorem qs9 (ht : x.ts.getD i Tk.zero = t) (h : t.id ≤ qp x.ts i) : tkAt x.sta i = false := by
 unfold qp at h
 split at h
 ·exact qng (qcr (by rw [ht]; omega))
 ·exact qnf (by omega) (by rw [ht]; omega)
theorem qzy {l : List Tk} {id : Int} (h : ¬ id ≤ qp l i) : i = 0 ∨ (l.getD (i - 1) Tk.zero).id < id := by
 unfold qp at h
 split at h
 ·exact .inl ‹_›
 ·exact .inr (by omega)
theorem qdj (ht : x.ts.getD i Tk.zero = t) (h : tkOk1 x.sta t = false) : tkAt x.sta i = false := qng (by rw [ht]; exact h)
theorem q1y (ht : x.ts.getD i Tk.zero = t) (h0 : ¬ t.id ≤ qp x.ts i) (h : tkOk1 x.sta t = true) : tkAt x.sta i = true := qvc (by rw [ht]; exact qzy h0) (by rw [ht]; exact h)
end
theorem qzz {s : Sta} (hok : s.Ok) (g c : Nat) : (s.spot g c).Ok := by
 have key : ∀ l : List Sp, (∀ z ∈ l, z.Ok) → (l.getD c Sp.zero).Ok := by
  intro l hl
  rcases Nat.lt_or_ge c l.length with h | h
  ·exact hl _ (qr Sp.zero h)
  ·rw [List.getD_eq_getElem?_getD, List.getElem?_eq_none h]
   exact ⟨by decide, by decide, by decide⟩
 refine key _ ?_
 rcases Nat.lt_or_ge g s.sp.length with h | h
 ·exact hok.sp _ (qr [] h)
 ·rw [List.getD_eq_getElem?_getD, List.getElem?_eq_none h]
  intro z hz
  cases hz
theorem qta {x : Stm} (hok : x.sta.Ok) (g c : Nat) : ∀ m ∈ memS x.sta g c, m.k ≤ 1 ∧ m.v < 18446744073709551616 := by
 rw [qiw]
 intro m hm
 rcases List.mem_append.1 hm with h | h
 ·obtain ⟨t, ht, h2⟩ := List.mem_filterMap.1 h
  unfold tkM at h2
  split at h2
  ·injection h2 with h2
   subst h2
   exact ⟨Nat.zero_le _, (hok.ts t ht).v⟩
  ·cases h2
 ·obtain ⟨i, _, h2⟩ := List.mem_filterMap.1 h
  unfold grpM at h2
  split at h2
  ·injection h2 with h2
   subst h2
   exact ⟨Nat.le_refl _, (qzz hok i c).v⟩
  ·cases h2
theorem qwg {β : Type} {f : Nat → Option β} {n g u : Nat} (h2 : u < n) (hf : g + 1 ≤ u → f u = none) : (((List.range n).drop (g + 1)).take (u + 1 - (g + 1))).filterMap f = (((List.range n).drop (g + 1)).take (u - (g + 1))).filterMap f := by
 rcases Nat.lt_or_ge u (g + 1) with h | h
 ·rw [show u + 1 - (g + 1) = u - (g + 1) by omega]
 ·rw [qi6 h h2, hf h]
  simp
def bestU (l : List Mb) (k : Nat) : Mb := bestM (l.getD 0 Mb.zero) ((l.take k).drop 1)
theorem qtb (l : List Mb) : bestU l 1 = l.getD 0 Mb.zero := by
 unfold bestU
 rw [List.drop_of_length_le (by rw [List.length_take]; omega)]
 rfl
theorem qtc {l : List Mb} {k : Nat} (h1 : 1 ≤ k) (hk : k < l.length) (h : (l.getD k Mb.zero).lt (bestU l k) = true) : bestU l (k + 1) = l.getD k Mb.zero := by
 unfold bestU at h ⊢
 rw [qk8 h1 hk, if_pos h]
theorem qwh {l : List Mb} {k : Nat} (h1 : 1 ≤ k) (hk : k < l.length) (h : (l.getD k Mb.zero).lt (bestU l k) = false) : bestU l (k + 1) = bestU l k := by
 unfold bestU at h ⊢
 rw [qk8 h1 hk, if_neg (by rw [h]; decide)]
theorem qtd {l : List Mb} {k : Nat} (h : l.length ≤ k) : bestU l k = qdi l := by
 unfold bestU qdi
 rw [List.take_of_length_le h]
def qya (t : TypeId) (w : World) (R : List Mb) (r : Ending) (w' : World) : Prop :=
 (∃ A c, r = .returned (.slice A R.length c) ∧ w'.ownsRow w.heap.size t 3 (.slice A R.length c) R.length (R.flatMap mbrL) ∧ R.length ≤ c) ∧ Below w.heap.size w w'
theorem qte {t : TypeId} {w w' : World} {q R : List Mb} {A : Option Addr} {c : Nat} (h : q = R) (ho : w'.ownsRow w.heap.size t 3 (.slice A q.length c) q.length (q.flatMap mbrL)) (hc : q.length ≤ c) (hb : Below w.heap.size w w') : qya t w R (.returned (.slice A q.length c)) w' := by
 subst h
 exact ⟨⟨A, c, rfl, ho, hc⟩, hb⟩
theorem qjm (x : Stm) (g c : Nat) : (memS x.sta g c).length ≤ x.ts.length + x.rs.length := by
 rw [qiw, List.length_append]
 have h1 := List.length_filterMap_le (tkM · g c) x.sta.ts
 have h2 := List.length_filterMap_le (grpM x.sta c (fun h => memS x.sta h c) g) ((List.range x.sta.sp.length).drop (g + 1))
 rw [List.length_drop, List.length_range] at h2
 have hl := qaz (x := x)
 have h3 : x.sta.ts.length = x.ts.length := rfl
 omega
def StrC (l : List Nat) : Value := .string (bstr l)
def nameL : List (List Nat) := [[104, 101, 97, 100], [110, 101, 120, 116], [99, 111, 110, 102, 105, 103], [103, 114, 111, 117, 112, 115], [99, 108, 111, 99, 107, 115], [99, 117, 114, 114, 101, 110, 116], [116, 97, 115, 107, 115], [115, 112, 111, 116, 115], [115, 117, 109]]
def nmR (j : Nat) : ByteArray := bstr (nameL.getD j [])
theorem qyb {i : Nat} (h : i < 7) : nmR (i + 1) = qb i := by
 match i, h with
 | 0, _ => rfl
 | 1, _ => rfl
 | 2, _ => rfl
 | 3, _ => rfl
 | 4, _ => rfl
 | 5, _ => rfl
 | 6, _ => rfl
theorem qtf : ∀ j, ∀ b ∈ nameL.getD j [], b < 256
 | 0 => by decide
 | 1 => by decide
 | 2 => by decide
 | 3 => by decide
 | 4 => by decide
 | 5 => by decide
 | 6 => by decide
 | 7 => by decide
 | 8 => by decide
 | j + 9 => by intro b hb; cases hb
theorem qwi : ∀ j, j < 9 → ∀ k, k < 9 → decide (nameL.getD j [] = nameL.getD k []) = decide (j = k) := by decide
theorem nm_eq {j k : Nat} (hj : j < 9) (hk : k < 9) : ((nmR j).toList == (nmR k).toList) = decide (j = k) := by
 unfold nmR
 rw [qgp (qtf j) (qtf k), qwi j hj k hk]
def ofF (s : Snm) (nm : ByteArray) : Nat → Nat → List Nat
 | 0, _ => []
 | f + 1, i => if (nm.toList == (qb i).toList) = true then secN s i else ofF s nm f (i + 1)
def ofR (s : Snm) (nm : ByteArray) : List Nat := ofF s nm 7 0
section
variable {s : Snm} {nm : ByteArray} {f i : Nat}
theorem qfq (h : (nm.toList == (qb i).toList) = true) : ofF s nm (f + 1) i = secN s i := if_pos h
theorem of_no (h : (nm.toList == (qb i).toList) = false) : ofF s nm (f + 1) i = ofF s nm f (i + 1) := if_neg (by rw [h]; decide)
end
theorem of_at (s : Snm) {j : Nat} (hj : j < 9) : ∀ (f i : Nat), i + f = 7 → ofF s (nmR j) f i = if i < j ∧ j < 8 then secN s (j - 1) else []
 | 0, i, h => by
  rw [if_neg (by omega)]
  rfl
 | f + 1, i, h => by
  by_cases hji : j = i + 1
  ·subst hji
   rw [qfq (by rw [← qyb (show i < 7 by omega), nm_eq hj hj]; simp), if_pos ⟨by omega, by omega⟩]
   rfl
  ·rw [of_no (by rw [← qyb (show i < 7 by omega), nm_eq hj (show i + 1 < 9 by omega), decide_eq_false hji]), of_at s hj f (i + 1) (by omega)]
   by_cases hc : i < j ∧ j < 8
   ·rw [if_pos hc, if_pos ⟨by omega, hc.2⟩]
   ·rw [if_neg hc, if_neg (by omega)]
def secR (s : Snm) (j : Nat) : List Nat := ofR s (nmR j)
theorem qmn (s : Snm) {j : Nat} (hj : j < 9) : secR s j = if 0 < j ∧ j < 8 then secN s (j - 1) else [] := of_at s hj 7 0 rfl
theorem qk9 (s : Snm) {j : Nat} (hj : j < 9) (h : j = 0 ∨ j = 8) : secR s j = [] := by rw [qmn s hj, if_neg (by omega)]
theorem qcl (s : Snm) {i : Nat} (h : i < 7) : secR s (i + 1) = secN s i := by rw [qmn s (by omega), if_pos ⟨by omega, by omega⟩]; rfl
theorem numsR (s : Snm) : upF 9 (secR s) = numsS s := by
 rw [qno, qm, qm, qm, qm, qm, qm, qm, qm, qm, qbj, qk9 s (j := 0) (by omega) (.inl rfl), qk9 s (j := 8) (by omega) (.inr rfl),
  qcl s (i := 0) (by omega), qcl s (i := 1) (by omega), qcl s (i := 2) (by omega), qcl s (i := 3) (by omega), qcl s (i := 4) (by omega), qcl s (i := 5) (by omega), qcl s (i := 6) (by omega)]
 simp
theorem qod {s : Snm} (h : ShAt s.st) {j : Nat} (hj : j < 9) : (secR s j).length ≤ 600000 := by
 rw [qmn s hj]
 split
 ·exact qvl h (by omega)
 ·exact Nat.zero_le _
theorem qtg {s : Snm} (h : ShAt s.st) : ∀ k, k ≤ 9 → (upF k (secR s)).length ≤ 600000 * k
 | 0, _ => Nat.zero_le _
 | k + 1, hk => by
  have h1 := qtg h k (by omega)
  have h2 := qod h (show k < 9 by omega)
  rw [qm, List.length_append]
  omega
theorem q1z {l : List Gr} {g : Nat} (h : 1 ≤ g) : gsN l (g - 1) = [toU (l.getD g Gr.zero).parent, toU (l.getD g Gr.zero).weight] := by unfold gsN; rw [Nat.sub_add_cancel h]
theorem qpt {l : List Tk} {i : Nat} (h : 0 < i) : qp l i = (l.getD (i - 1) Tk.zero).id := if_neg (by omega)
theorem qth {l : List Tk} {i : Nat} (h : ¬ 0 < i) : qp l i = 0 := if_pos (by omega)
def qwj (t : TypeId) (w : World) (r : Ending) (w' : World) : Prop :=
 (∃ g, r = .returned (.slice (some ⟨g, 0, none⟩) 9 9) ∧ w'.ownsRow w.heap.size t 1 (.slice (some ⟨g, 0, none⟩) 9 9) 9 (nameL.map StrC)) ∧ Below w.heap.size w w'
structure SnGood (T : List Fact) (S : Snm) : Prop where
 ok : S.st.sta.Ok
 few : StFew S.st
 cap : StCap S.st
 rd : ∀ (W w : World) (fs : List Fact), Mem W w fs → (∀ f ∈ T, f ∈ fs) → StRd w S.st
theorem SnGood.at {T fs : List Fact} {S : Snm} {W w : World} (h : SnGood T S) (O : Mem W w fs) (n : Nat) (he : fs.drop n = T) : StRd w S.st := h.rd _ _ _ O fun _ hf => List.mem_of_mem_drop (he ▸ hf)
theorem Yl.qup {P : Program} {S : World → Prop} {σ : List (Nat × Value)} {o : Oper} {t e : TypeId} {z : Value} {size bytes : Nat} (ei : EI P t e z size bytes) {x hi mx : Operand} {A : Option Addr} {m c j q : Nat} {k' k2 : IntKind} (hop : o.op = .slice t x none (some hi) (some mx)) (hx : look σ x = some (.slice A m c)) (hh : look σ hi = some (.int k' (j : Int))) (hm : look σ mx = some (.int k2 (q : Int))) (hj : j ≤ q) (hq : q ≤ c) :
  Yl P S σ o (.slice A j q) := fun a n D M w hS => by
 obtain ⟨inf, hinf, _, hs, _⟩ := info_parts ei.hi
 have e1 : (Instr.sliceAt t (.slice A m c) none (some (.int k' (j : Int))) (some (.int k2 (q : Int)))).run P w = .ok (.slice A j q) w := by
  subst hs
  simp [Instr.sliceAt, run_underlying ei.ht, Instr.slice, Instr.sliceBounds, Instr.sliceBound, asIntOf, hj, hq, sizeOf, typeInfo, hinf, Addr.add]
 unfold execOp
 simp only [hop, M.eval hx, M.eval hh, M.eval hm, Option.map_some, Option.map_none, Sem.run_bind, e1, Result.andThen_ok]
 rfl
def Sp3 (l : List Sp) : Prop := l.length = 3 ∧ ∀ z ∈ l, z.Ok
theorem Sp3.set {l : List Sp} (h : Sp3 l) (k : Nat) {x : Sp} (hx : x.Ok) : Sp3 (l.set k x) := ⟨by rw [List.length_set]; exact h.1, fun z hz => (List.mem_or_eq_of_mem_set hz).elim (h.2 z) (fun e => e ▸ hx)⟩
theorem Sp3.at {l : List Sp} (h : Sp3 l) {k : Nat} (hk : k < 3) : (l.getD k Sp.zero).Ok := h.2 _ (qr Sp.zero (by rw [h.1]; exact hk))
theorem qp0 (s : Snm) (hok : s.st.sta.Ok) (hf : StFew s.st) (hc : StCap s.st) (w : World) (hx : StRd w s.st) :
    Calls Tryz.prog 29 #[.agg s.cells] w (Is w (.int .i64 (chkS s : Int))) := by
 refine s_ce Tryz.func29 [.agg s.cells] [(0, .agg s.cells)] fun a M => ?_
 have O := Mem.start w
 refine s_fs1 ?_
 refine fo M 0 rfl rfl (s_eb M O s.cells fun a w1 g1 M O => ?_)
 refine fp M 1 1 [(2, vI 0)] fun a M => s_d0 (wp_seq (wp_block (s_fs1 ?_)))
 refine fp M 1 0 [(4, vP g1 0)] fun a M => s_fc M O 1 0 (v := vI s.next) fun a M => ?_
 refine fp M 2 2 [(7, .bool (decide ((s.next : Int) < (1 : Int))))] fun a M => ?_
 rcases M.tf 7 rfl with ⟨hb7, M⟩ | ⟨hb7, M⟩
 ·
  have hd7 := of_decide_eq_true hb7
  refine fp M 5 4 [(3, .bool true)] fun a M => s_d0 (s_ct M (s_fs1 ?_))
  refine fp M 1 0 [(2, vI 330)] fun a M => s_d0 (wp_ret ?_)
  exact s_rt1 rfl M rfl (⟨by rw [qf1 (by omega)]; rfl, O.below⟩)
 have hd7 := of_decide_eq_false hb7
 refine fp M 1 4 [(8, vP g1 0)] fun a M => s_fc M O 5 0 (v := vI s.next) fun a M => ?_
 refine fp M 3 6 [(3, .bool (decide ((s.next : Int) > (281474976710657 : Int))))] fun a M => s_d0 ?_
 rcases M.tf 3 rfl with ⟨hb3, M⟩ | ⟨hb3, M⟩
 ·
  have hd3 := of_decide_eq_true hb3
  refine s_ct M (s_fs1 ?_)
  refine fp M 1 0 [(2, vI 330)] fun a M => s_d0 (wp_ret ?_)
  exact s_rt1 rfl M rfl (⟨by rw [qf1 (by omega)]; rfl, O.below⟩)
 have hd3 := of_decide_eq_false hb3
 refine s_cf M (s_fs1 ?_)
 refine fp M 1 0 [(13, vP g1 1)] fun a M => s_fz M O 1 rfl (v := .agg #[vI s.st.cpus, vQ s.st.credit, .slice s.st.gA s.st.gs.length s.st.gc, .slice s.st.lA s.st.cl.length s.st.lc, .slice s.st.uA s.st.cu.length s.st.uc, .slice s.st.tA s.st.ts.length s.st.tc, .slice s.st.sA s.st.rs.length s.st.sc]) (Yl.qt rfl rfl si_st rfl (fun _ h => h.sub (i := 0) rfl 1 rfl)) fun a M => ?_
 replace M := M.sp 14 (.agg s.st.cells) rfl (rfl)
 refine fo M 2 rfl rfl (e_is M O [.agg s.st.cells] (.bool (qac s.st.sta)) rfl rfl (qmf s.st hok hf _ (hx.old O)) fun w15 hbw O a M => ?_)
 refine fp M 2 3 [(12, .bool (!(qac s.st.sta)))] fun a M => s_d0 ?_
 rcases M.tf 12 rfl with ⟨hb12, M⟩ | ⟨hb12, M⟩
 ·
  refine s_ct M (s_fs1 ?_)
  refine fp M 1 0 [(2, vI 331)] fun a M => s_d0 (wp_ret ?_)
  exact s_rt1 rfl M rfl (⟨by rw [qkq (by omega) (by simpa using hb12)]; rfl, O.below⟩)
 refine s_cf M (wp_skip (s_fs1 ?_))
 refine fp M 1 0 [(2, vI 0)] fun a M => s_d0 (wp_ret ?_)
 exact s_rt1 rfl M rfl (⟨by rw [qkr (by omega) (by simpa using hb12)]; rfl, O.below⟩)
theorem quh (A : Option Addr) (c : Nat) (l : List Nat) (D : Option Addr) (c2 : Nat) (m : List Nat) (w : World) (hr : Rd w w.heap.size 1 A l.length (l.map U64)) (hr2 : Rd w w.heap.size 1 D m.length (m.map U64)) (hn : l.length ≤ 1000000) (hn2 : m.length ≤ 1000000) :
    Calls Tryz.prog 30 #[.slice A l.length c, .slice D m.length c2] w (Is w (.bool (decide (l = m)))) := by
 refine s_ce Tryz.func30 [.slice A l.length c, .slice D m.length c2] [(0, .slice A l.length c), (1, .slice D m.length c2)] fun a M => ?_
 have O := Mem.start w
 refine s_fs1 ?_
 refine fp M 1 0 [(4, .bool false)] fun a M => s_d0 (wp_seq (s_fs1 ?_))
 refine fp M 1 0 [(6, .slice A l.length c)] fun a M => s_fl M 1 fun a M => ?_
 refine fp M 1 2 [(8, .slice D m.length c2)] fun a M => s_fl M 3 fun a M => ?_
 refine fp M 1 4 [(10, .bool ((l.length : Int) != (m.length : Int)))] fun a M => s_d0 ?_
 rcases M.tf 10 rfl with ⟨hb10, M⟩ | ⟨hb10, M⟩
 ·
  have hd10 := bne_iff_ne.1 hb10
  refine s_ct M (s_fs1 ?_)
  refine fp M 1 0 [(4, .bool false)] fun a M => s_d0 (wp_ret ?_)
  exact s_rt1 rfl M rfl (is_no (fun e => by rw [e] at hd10; exact hd10 rfl) O.below)
 have hd10 := bne_eq_false_iff_eq.1 hb10
 have hlm : l.length = m.length := by omega
 refine s_cf M (wp_skip (wp_seq (s_fs1 ?_)))
 refine fp M 1 0 [(5, vI 0)] fun a M => s_d0 (wp_block ?_)
 refine qe (fun mS aS wS => ∃ (k : Nat), (k ≤ l.length) ∧ (∀ i, i < k → l.getD i 0 = m.getD i 0) ∧ mS = l.length - k ∧ Fr aS 26 [] [(5, vI k), (10, .bool false), (4, .bool false), (0, .slice A l.length c), (1, .slice D m.length c2)] ∧ Mem w wS []) (m := l.length - 0) ⟨0, Nat.zero_le _, qc7, rfl, M.sub (by kernel_rfl), O.pk []⟩ ?_
 clear M O; rintro mS a w_ ⟨k, hk, hu, rfl, M, O⟩
 refine wp_seq (s_fs1 ?_)
 refine fp M 2 0 [(12, .slice A l.length c), (11, vI k)] fun a M => s_fl M 2 fun a M => ?_
 refine fp M 1 3 [(14, .bool (decide ((k : Int) < (l.length : Int))))] fun a M => s_d0 ?_
 rcases M.tf 14 rfl with ⟨hb14, M⟩ | ⟨hb14, M⟩
 ·
  have hd14 := of_decide_eq_true hb14
  have hk1 : k < l.length := by omega
  have hk2 : k < m.length := by omega
  obtain ⟨gA, oA, rfl, _⟩ := hr.qi (Nat.lt_of_le_of_lt (Nat.zero_le _) (show k < l.length from hk1)) (by decide)
  obtain ⟨gD, oD, rfl, _⟩ := hr2.qi (Nat.lt_of_le_of_lt (Nat.zero_le _) (show k < m.length from hk2)) (by decide)
  refine s_ct M (wp_skip (wp_seq (wp_block (wp_seq ?_))))
  refine qz O [] [] [] fun O Z => ?_
  refine ap M (fun _ => Z) [0, 1, 4, 5] (bf 9 [0, 1, 4, 5]) [(22, vI k), (21, .slice (some ⟨gD, oD, none⟩) m.length c2), (18, vI k), (17, .slice (some ⟨gA, oA, none⟩) l.length c)] fun a M => ?_
  refine s_az M Z 2 rfl (v := vP gA (oA + k * 1)) (Yl.ix gA oA k 1 rfl rfl rfl) fun a M => ?_
  refine s_az M Z 3 rfl (v := vQ (l.getD k 0)) (Yl.o1 hr k 0 hk1 rfl rfl) fun a M => ?_
  refine s_az M Z 6 rfl (v := vP gD (oD + k * 1)) (Yl.ix gD oD k 1 rfl rfl rfl) fun a M => ?_
  refine s_az M Z 7 rfl (v := vQ (m.getD k 0)) (Yl.o1 hr2 k 0 hk2 rfl rfl) fun a M => ?_
  refine ap M (fun _ => Z) [8] (bt 9 []) [(25, .bool (((l.getD k 0) : Int) != ((m.getD k 0) : Int)))] fun a M => ?_
  refine qh (by kernel_rfl) ?_
  rcases M.tf 25 rfl with ⟨hb25, M⟩ | ⟨hb25, M⟩
  ·
   have hd25 := bne_iff_ne.1 hb25
   refine s_ct M (s_fs1 ?_)
   refine fp M 1 0 [(4, .bool false)] fun a M => s_d0 (wp_ret ?_)
   exact s_rt1 rfl M rfl (is_no (fun e => hd25 (by rw [e])) O.below)
  have hd25 := bne_eq_false_iff_eq.1 hb25
  refine s_cf M (wp_skip (qa ?_))
  refine fp M 2 0 [(16, vI (IntKind.i64.wrap ((k : Int) + 1)))] fun a M => ?_
  replace M := M.sp 16 (vI (k + 1 : Nat)) rfl (qc (by omega) (by omega))
  refine fp M 1 2 [(5, vI (k + 1 : Nat))] fun a M => s_d0 ?_
  exact ⟨_, (by omega), k + 1, by omega, qc8 hu (by omega), rfl, M.sub (by kernel_rfl), O.pk []⟩
 have hd14 := of_decide_eq_false hb14
 refine s_cf M (wp_exit (s_fs1 ?_))
 refine fp M 1 0 [(4, .bool true)] fun a M => s_d0 (wp_ret ?_)
 exact s_rt1 rfl M rfl (qh1 (qc6 0 hlm (fun i hi => hu i (by omega))) O.below)
theorem qo4 (A : Option Addr) (c : Nat) (l : List Int) (D : Option Addr) (c2 : Nat) (m : List Int) (w : World) (hr : Rd w w.heap.size 1 A l.length (l.map I64i)) (hr2 : Rd w w.heap.size 1 D m.length (m.map I64i)) (hn : l.length ≤ 1000000) (hn2 : m.length ≤ 1000000) :
    Calls Tryz.prog 65 #[.slice A l.length c, .slice D m.length c2] w (Is w (.bool (decide (l = m)))) := by
 refine s_ce Tryz.func65 [.slice A l.length c, .slice D m.length c2] [(0, .slice A l.length c), (1, .slice D m.length c2)] fun a M => ?_
 have O := Mem.start w
 refine s_fs1 ?_
 refine fp M 1 0 [(4, .bool false)] fun a M => s_d0 (wp_seq (s_fs1 ?_))
 refine fp M 1 0 [(6, .slice A l.length c)] fun a M => s_fl M 1 fun a M => ?_
 refine fp M 1 2 [(8, .slice D m.length c2)] fun a M => s_fl M 3 fun a M => ?_
 refine fp M 1 4 [(10, .bool ((l.length : Int) != (m.length : Int)))] fun a M => s_d0 ?_
 rcases M.tf 10 rfl with ⟨hb10, M⟩ | ⟨hb10, M⟩
 ·
  have hd10 := bne_iff_ne.1 hb10
  refine s_ct M (s_fs1 ?_)
  refine fp M 1 0 [(4, .bool false)] fun a M => s_d0 (wp_ret ?_)
  exact s_rt1 rfl M rfl (is_no (fun e => by rw [e] at hd10; exact hd10 rfl) O.below)
 have hd10 := bne_eq_false_iff_eq.1 hb10
 have hlm : l.length = m.length := by omega
 refine s_cf M (wp_skip (wp_seq (s_fs1 ?_)))
 refine fp M 1 0 [(5, vI 0)] fun a M => s_d0 (wp_block ?_)
 refine qe (fun mS aS wS => ∃ (k : Nat), (k ≤ l.length) ∧ (∀ i, i < k → l.getD i 0 = m.getD i 0) ∧ mS = l.length - k ∧ Fr aS 26 [] [(5, vI k), (10, .bool false), (4, .bool false), (0, .slice A l.length c), (1, .slice D m.length c2)] ∧ Mem w wS []) (m := l.length - 0) ⟨0, Nat.zero_le _, qc7, rfl, M.sub (by kernel_rfl), O.pk []⟩ ?_
 clear M O; rintro mS a w_ ⟨k, hk, hu, rfl, M, O⟩
 refine wp_seq (s_fs1 ?_)
 refine fp M 2 0 [(12, .slice A l.length c), (11, vI k)] fun a M => s_fl M 2 fun a M => ?_
 refine fp M 1 3 [(14, .bool (decide ((k : Int) < (l.length : Int))))] fun a M => s_d0 ?_
 rcases M.tf 14 rfl with ⟨hb14, M⟩ | ⟨hb14, M⟩
 ·
  have hd14 := of_decide_eq_true hb14
  have hk1 : k < l.length := by omega
  have hk2 : k < m.length := by omega
  obtain ⟨gA, oA, rfl, _⟩ := hr.qi (Nat.lt_of_le_of_lt (Nat.zero_le _) (show k < l.length from hk1)) (by decide)
  obtain ⟨gD, oD, rfl, _⟩ := hr2.qi (Nat.lt_of_le_of_lt (Nat.zero_le _) (show k < m.length from hk2)) (by decide)
  refine s_ct M (wp_skip (wp_seq (wp_block (wp_seq ?_))))
  refine qz O [] [] [] fun O Z => ?_
  refine ap M (fun _ => Z) [0, 1, 4, 5] (bf 9 [0, 1, 4, 5]) [(22, vI k), (21, .slice (some ⟨gD, oD, none⟩) m.length c2), (18, vI k), (17, .slice (some ⟨gA, oA, none⟩) l.length c)] fun a M => ?_
  refine s_az M Z 2 rfl (v := vP gA (oA + k * 1)) (Yl.ix gA oA k 1 rfl rfl rfl) fun a M => ?_
  refine s_az M Z 3 rfl (v := vI (l.getD k 0)) (Yl.o1 hr k 0 hk1 rfl rfl) fun a M => ?_
  refine s_az M Z 6 rfl (v := vP gD (oD + k * 1)) (Yl.ix gD oD k 1 rfl rfl rfl) fun a M => ?_
  refine s_az M Z 7 rfl (v := vI (m.getD k 0)) (Yl.o1 hr2 k 0 hk2 rfl rfl) fun a M => ?_
  refine ap M (fun _ => Z) [8] (bt 9 []) [(25, .bool (((l.getD k 0) : Int) != ((m.getD k 0) : Int)))] fun a M => ?_
  refine qh (by kernel_rfl) ?_
  rcases M.tf 25 rfl with ⟨hb25, M⟩ | ⟨hb25, M⟩
  ·
   have hd25 := bne_iff_ne.1 hb25
   refine s_ct M (s_fs1 ?_)
   refine fp M 1 0 [(4, .bool false)] fun a M => s_d0 (wp_ret ?_)
   exact s_rt1 rfl M rfl (is_no (fun e => hd25 (by rw [e])) O.below)
  have hd25 := bne_eq_false_iff_eq.1 hb25
  refine s_cf M (wp_skip (qa ?_))
  refine fp M 2 0 [(16, vI (IntKind.i64.wrap ((k : Int) + 1)))] fun a M => ?_
  replace M := M.sp 16 (vI (k + 1 : Nat)) rfl (qc (by omega) (by omega))
  refine fp M 1 2 [(5, vI (k + 1 : Nat))] fun a M => s_d0 ?_
  exact ⟨_, (by omega), k + 1, by omega, qc8 hu (hd25), rfl, M.sub (by kernel_rfl), O.pk []⟩
 have hd14 := of_decide_eq_false hb14
 refine s_cf M (wp_exit (s_fs1 ?_))
 refine fp M 1 0 [(4, .bool true)] fun a M => s_d0 (wp_ret ?_)
 exact s_rt1 rfl M rfl (qh1 (qc6 0 hlm (fun i hi => hu i (by omega))) O.below)
theorem qui (s z : Snm) (w : World) (hx : StRd w s.st) (hz : StRd w z.st) (hf : StFew s.st) (hg : StFew z.st) :
    Calls Tryz.prog 32 #[.agg s.cells, .agg z.cells] w (Is w (.bool (decide (SnEq s z)))) := by
 have hfs_ := hf.s; have hfg_ := hf.g; have hft_ := hf.t
 refine s_ce Tryz.func32 [.agg s.cells, .agg z.cells] [(0, .agg s.cells), (1, .agg z.cells)] fun a M => ?_
 have O := Mem.start w
 refine s_fs1 ?_
 refine fo M 0 rfl rfl (s_eb M O s.cells fun a w2 g2 M O => ?_)
 refine fo M 1 rfl rfl (s_eb M O z.cells fun a w3 g3 M O => ?_)
 refine fp M 1 2 [(4, .bool false)] fun a M => s_d0 (qaj (fun aS wS => ∃ (g5 : Nat) (g6 : Nat), Fr aS 169 [] [(6, vP g6 0), (5, vP g5 0), (4, .bool false), (3, vP g3 0), (2, vP g2 0)] ∧ Mem w wS [.blk g6 z.st.cells 30, .blk g5 s.st.cells 30, .blk g3 z.cells 56, .blk g2 s.cells 56]) ?_ ?_)
 ·
  refine qz O [.blk g3 z.cells 56, .blk g2 s.cells 56] [0, 1] [7] fun O Z => ?_
  refine ap M (fun _ => Z) [0, 2] (bf 8 [0, 2]) [(13, vP g3 1), (11, vP g2 1)] fun a M => ?_
  refine s_az M Z 1 rfl (v := .agg #[vI s.st.cpus, vQ s.st.credit, .slice s.st.gA s.st.gs.length s.st.gc, .slice s.st.lA s.st.cl.length s.st.lc, .slice s.st.uA s.st.cu.length s.st.uc, .slice s.st.tA s.st.ts.length s.st.tc, .slice s.st.sA s.st.rs.length s.st.sc]) (Yl.qt rfl rfl si_st rfl (fun _ h => h.sub (i := 1) rfl 1 rfl)) fun a M => ?_
  replace M := M.sp 12 (.agg s.st.cells) rfl (rfl)
  refine s_az M Z 3 rfl (v := .agg #[vI z.st.cpus, vQ z.st.credit, .slice z.st.gA z.st.gs.length z.st.gc, .slice z.st.lA z.st.cl.length z.st.lc, .slice z.st.uA z.st.cu.length z.st.uc, .slice z.st.tA z.st.ts.length z.st.tc, .slice z.st.sA z.st.rs.length z.st.sc]) (Yl.qt rfl rfl si_st rfl (fun _ h => h.sub (i := 0) rfl 1 rfl)) fun a M => ?_
  replace M := M.sp 14 (.agg z.st.cells) rfl (rfl)
  refine qw [4, 5] (by kernel_rfl) rfl ?_
  refine all_cons ?_ ?_
  ·refine qq M (i := 4) rfl rfl ?_
   refine s_ea M O #[vI 0, vQ 0, .slice none 0 0, .slice none 0 0, .slice none 0 0, .slice none 0 0, .slice none 0 0] fun a w5 g5 M O => ?_
   refine keepS (O.pk [1, 2]) (fun Z => ?_)
   refine s_on M 5 rfl (s_ea M O #[vI 0, vQ 0, .slice none 0 0, .slice none 0 0, .slice none 0 0, .slice none 0 0, .slice none 0 0] fun a w6 g6 M O => ?_)
   refine keepS (O.pk [2, 3]) (fun Z => ?_)
   refine s_on M 6 rfl (e_sa M O 1 rfl rfl rfl rfl rfl si_st rfl rfl (qgq s.st) fun w1_6 O => ?_)
   refine keepS (O.pk [2, 3]) (fun Z => ?_)
   refine s_on M 7 rfl (e_sa M O 0 rfl rfl rfl rfl rfl si_st rfl rfl (qgq z.st) fun w1_7 O => ?_)
   refine noS (by kernel_rfl) ?_
   refine qh (by kernel_rfl) ?_
   exact ⟨g5, g6, M.sub (by kernel_rfl), O.pk [0, 1, 2, 3]⟩
  refine all_cons ?_ all_nil
  refine qq M (i := 5) rfl rfl ?_
  refine s_ea M O #[vI 0, vQ 0, .slice none 0 0, .slice none 0 0, .slice none 0 0, .slice none 0 0, .slice none 0 0] fun a w6 g6 M O => ?_
  refine keepS (O.pk [1, 2]) (fun Z => ?_)
  refine s_on M 4 rfl (s_ea M O #[vI 0, vQ 0, .slice none 0 0, .slice none 0 0, .slice none 0 0, .slice none 0 0, .slice none 0 0] fun a w5 g5 M O => ?_)
  refine keepS (O.pk [2, 3]) (fun Z => ?_)
  refine s_on M 6 rfl (e_sa M O 0 rfl rfl rfl rfl rfl si_st rfl rfl (qgq s.st) fun w1_6 O => ?_)
  refine keepS (O.pk [2, 3]) (fun Z => ?_)
  refine s_on M 7 rfl (e_sa M O 1 rfl rfl rfl rfl rfl si_st rfl rfl (qgq z.st) fun w1_7 O => ?_)
  refine noS (by kernel_rfl) ?_
  refine qh (by kernel_rfl) ?_
  exact ⟨g5, g6, M.sub (by kernel_rfl), O.pk [1, 0, 2, 3]⟩
 clear M O; rintro a w1 ⟨g5, g6, M, O⟩
 refine wp_seq (s_fs1 ?_)
 refine fp M 1 0 [(15, vP g2 0)] fun a M => s_fc M O 1 3 (v := vI s.next) fun a M => ?_
 refine fp M 1 2 [(17, vP g3 0)] fun a M => s_fc M O 3 2 (v := vI z.next) fun a M => ?_
 refine fp M 2 4 [(20, .bool ((s.next : Int) != (z.next : Int)))] fun a M => ?_
 rcases M.tf 20 rfl with ⟨hb20, M⟩ | ⟨hb20, M⟩
 ·
  have hd20 := bne_iff_ne.1 hb20
  refine fp M 62 6 [(82, .bool true)] fun a M => s_d0 (s_ct M (s_fs1 ?_))
  refine fp M 1 0 [(4, .bool false)] fun a M => s_d0 (wp_ret ?_)
  exact s_rt1 rfl M rfl (is_no (p := SnEq s z) (fun e => hd20 e.1) O.below)
 have hd20 := bne_eq_false_iff_eq.1 hb20
 refine fp M 2 6 [(22, vP g5 0)] fun a M => s_fc M O 8 1 (v := vI s.st.cpus) fun a M => ?_
 refine fp M 2 9 [(25, vP g6 0)] fun a M => s_fc M O 11 0 (v := vI z.st.cpus) fun a M => ?_
 refine fp M 3 12 [(29, .bool ((s.st.cpus : Int) != (z.st.cpus : Int)))] fun a M => ?_
 rcases M.tf 29 rfl with ⟨hb29, M⟩ | ⟨hb29, M⟩
 ·
  have hd29 := bne_iff_ne.1 hb29
  refine fp M 53 15 [(82, .bool true)] fun a M => s_d0 (s_ct M (s_fs1 ?_))
  refine fp M 1 0 [(4, .bool false)] fun a M => s_d0 (wp_ret ?_)
  exact s_rt1 rfl M rfl (is_no (p := SnEq s z) (fun e => hd29 e.2.1) O.below)
 have hd29 := bne_eq_false_iff_eq.1 hb29
 refine fp M 2 15 [(31, vP g5 1)] fun a M => s_fc M O 17 1 (v := vQ s.st.credit) fun a M => ?_
 refine fp M 2 18 [(34, vP g6 1)] fun a M => s_fc M O 20 0 (v := vQ z.st.credit) fun a M => ?_
 refine fp M 3 21 [(38, .bool ((s.st.credit : Int) != (z.st.credit : Int)))] fun a M => ?_
 rcases M.tf 38 rfl with ⟨hb38, M⟩ | ⟨hb38, M⟩
 ·
  have hd38 := bne_iff_ne.1 hb38
  refine fp M 44 24 [(82, .bool true)] fun a M => s_d0 (s_ct M (s_fs1 ?_))
  refine fp M 1 0 [(4, .bool false)] fun a M => s_d0 (wp_ret ?_)
  exact s_rt1 rfl M rfl (is_no (p := SnEq s z) (fun e => hd38 (by rw [e.2.2.1])) O.below)
 have hd38 := bne_eq_false_iff_eq.1 hb38
 refine fp M 2 24 [(40, vP g5 2)] fun a M => s_fc M O 26 1 (v := .slice s.st.gA s.st.gs.length s.st.gc) fun a M => ?_
 refine s_fl M 27 fun a M => ?_
 refine fp M 2 28 [(44, vP g6 2)] fun a M => s_fc M O 30 0 (v := .slice z.st.gA z.st.gs.length z.st.gc) fun a M => ?_
 refine s_fl M 31 fun a M => ?_
 refine fp M 3 32 [(49, .bool ((s.st.gs.length : Int) != (z.st.gs.length : Int)))] fun a M => ?_
 rcases M.tf 49 rfl with ⟨hb49, M⟩ | ⟨hb49, M⟩
 ·
  have hd49 := bne_iff_ne.1 hb49
  refine fp M 33 35 [(82, .bool true)] fun a M => s_d0 (s_ct M (s_fs1 ?_))
  refine fp M 1 0 [(4, .bool false)] fun a M => s_d0 (wp_ret ?_)
  exact s_rt1 rfl M rfl (is_no (p := SnEq s z) (fun e => hd49 (by rw [e.2.2.2.1])) O.below)
 have hd49 := bne_eq_false_iff_eq.1 hb49
 refine fp M 1 35 [(50, vP g5 5)] fun a M => s_fc M O 36 1 (v := .slice s.st.tA s.st.ts.length s.st.tc) fun a M => ?_
 refine s_fl M 37 fun a M => ?_
 refine fp M 1 38 [(53, vP g6 5)] fun a M => s_fc M O 39 0 (v := .slice z.st.tA z.st.ts.length z.st.tc) fun a M => ?_
 refine s_fl M 40 fun a M => ?_
 refine fp M 3 41 [(58, .bool ((s.st.ts.length : Int) != (z.st.ts.length : Int)))] fun a M => ?_
 rcases M.tf 58 rfl with ⟨hb58, M⟩ | ⟨hb58, M⟩
 ·
  have hd58 := bne_iff_ne.1 hb58
  refine fp M 24 44 [(82, .bool true)] fun a M => s_d0 (s_ct M (s_fs1 ?_))
  refine fp M 1 0 [(4, .bool false)] fun a M => s_d0 (wp_ret ?_)
  exact s_rt1 rfl M rfl (is_no (p := SnEq s z) (fun e => hd58 (by rw [e.2.2.2.2.2.2.1])) O.below)
 have hd58 := bne_eq_false_iff_eq.1 hb58
 refine fp M 1 44 [(59, vP g5 6)] fun a M => s_fc M O 45 1 (v := .slice s.st.sA s.st.rs.length s.st.sc) fun a M => ?_
 refine s_fl M 46 fun a M => ?_
 refine fp M 1 47 [(62, vP g6 6)] fun a M => s_fc M O 48 0 (v := .slice z.st.sA z.st.rs.length z.st.sc) fun a M => ?_
 refine s_fl M 49 fun a M => ?_
 refine fp M 3 50 [(67, .bool ((s.st.rs.length : Int) != (z.st.rs.length : Int)))] fun a M => ?_
 rcases M.tf 67 rfl with ⟨hb67, M⟩ | ⟨hb67, M⟩
 ·
  have hd67 := bne_iff_ne.1 hb67
  refine fp M 15 53 [(82, .bool true)] fun a M => s_d0 ?_
  replace M := M.to [(82, .bool true), (6, vP g6 0), (5, vP g5 0), (4, .bool false), (3, vP g3 0), (2, vP g2 0)]
  refine s_ct M (s_fs1 ?_)
  refine fp M 1 0 [(4, .bool false)] fun a M => s_d0 (wp_ret ?_)
  exact s_rt1 rfl M rfl (is_no (p := SnEq s z) (fun e => hd67 (by rw [qfb e.2.2.2.2.2.2.2])) O.below)
 have hd67 := bne_eq_false_iff_eq.1 hb67
 refine fp M 1 53 [(68, vP g5 3)] fun a M => s_fc M O 54 1 (v := .slice s.st.lA s.st.cl.length s.st.lc) fun a M => ?_
 refine fp M 1 55 [(70, vP g6 3)] fun a M => s_fc M O 56 0 (v := .slice z.st.lA z.st.cl.length z.st.lc) fun a M => ?_
 refine fo M 57 rfl rfl ?_
 refine e_cl M [.slice s.st.lA s.st.cl.length s.st.lc, .slice z.st.lA z.st.cl.length z.st.lc] rfl rfl (qo4 s.st.lA s.st.lc s.st.cl z.st.lA z.st.lc z.st.cl _ (O.old hx.l) (O.old hz.l) hf.l hg.l) ?_
 rintro _ w72 ⟨rfl, hbw⟩
 refine ⟨_, rfl, ?_⟩
 replace O := O.call hbw
 clear M; intro a M
 refine fp M 3 58 [(75, .bool (!(decide (s.st.cl = z.st.cl))))] fun a M => ?_
 rcases M.tf 75 rfl with ⟨hb75, M⟩ | ⟨hb75, M⟩
 ·
  have hd75 := of_decide_eq_false ((Bool.not_eq_true' _).mp hb75)
  refine fp M 7 61 [(82, .bool true)] fun a M => s_d0 ?_
  replace M := M.to [(82, .bool true), (6, vP g6 0), (5, vP g5 0), (4, .bool false), (3, vP g3 0), (2, vP g2 0)]
  refine s_ct M (s_fs1 ?_)
  refine fp M 1 0 [(4, .bool false)] fun a M => s_d0 (wp_ret ?_)
  exact s_rt1 rfl M rfl (is_no (p := SnEq s z) (fun e => by simp [e.2.2.2.2.1] at hb75) O.below)
 have hd75 := of_decide_eq_true ((Bool.not_eq_false' _).mp hb75)
 refine fp M 1 61 [(76, vP g5 4)] fun a M => s_fc M O 62 1 (v := .slice s.st.uA s.st.cu.length s.st.uc) fun a M => ?_
 refine fp M 1 63 [(78, vP g6 4)] fun a M => s_fc M O 64 0 (v := .slice z.st.uA z.st.cu.length z.st.uc) fun a M => ?_
 refine fo M 65 rfl rfl ?_
 refine e_cl M [.slice s.st.uA s.st.cu.length s.st.uc, .slice z.st.uA z.st.cu.length z.st.uc] rfl rfl (qo4 s.st.uA s.st.uc s.st.cu z.st.uA z.st.uc z.st.cu _ (O.old hx.u) (O.old hz.u) hf.u hg.u) ?_
 rintro _ w80 ⟨rfl, hbw⟩
 refine ⟨_, rfl, ?_⟩
 replace O := O.call hbw
 clear M; intro a M
 refine fp M 2 66 [(82, .bool (!(decide (s.st.cu = z.st.cu))))] fun a M => s_d0 ?_
 replace M := M.to [(82, .bool (!(decide (s.st.cu = z.st.cu)))), (6, vP g6 0), (5, vP g5 0), (4, .bool false), (3, vP g3 0), (2, vP g2 0)]
 rcases M.tf 82 rfl with ⟨hb82, M⟩ | ⟨hb82, M⟩
 ·
  have hd82 := of_decide_eq_false ((Bool.not_eq_true' _).mp hb82)
  refine s_ct M (s_fs1 ?_)
  refine fp M 1 0 [(4, .bool false)] fun a M => s_d0 (wp_ret ?_)
  exact s_rt1 rfl M rfl (is_no (p := SnEq s z) (fun e => by simp [e.2.2.2.2.2.1] at hb82) O.below)
 have hd82 := of_decide_eq_true ((Bool.not_eq_false' _).mp hb82)
 have hcl : s.st.cl = z.st.cl := by simpa using hb75
 have hcu : s.st.cu = z.st.cu := by simpa using hb82
 refine s_cf M (wp_skip (wp_seq (s_fs1 ?_)))
 refine fp M 1 0 [(7, vI 0)] fun a M => s_d0 (wp_block ?_)
 refine qe (fun mS aS wS => ∃ (i : Nat), (i ≤ s.st.gs.length) ∧ (∀ n, n < i → s.st.gs.getD n Gr.zero = z.st.gs.getD n Gr.zero) ∧ mS = s.st.gs.length - i ∧ Fr aS 169 [] [(7, vI i), (82, .bool false), (6, vP g6 0), (5, vP g5 0), (4, .bool false), (3, vP g3 0), (2, vP g2 0)] ∧ Mem w wS [.blk g6 z.st.cells 30, .blk g5 s.st.cells 30, .blk g3 z.cells 56, .blk g2 s.cells 56]) (m := s.st.gs.length - 0) ⟨0, Nat.zero_le _, qc7, rfl, M.sub (by kernel_rfl), O.pk [0, 1, 2, 3]⟩ ?_
 clear M O; rintro mS a w_ ⟨i, hk, hu, rfl, M, O⟩
 refine wp_seq (s_fs1 ?_)
 refine fp M 3 0 [(85, vP g5 2), (83, vI i)] fun a M => s_fc M O 3 1 (v := .slice s.st.gA s.st.gs.length s.st.gc) fun a M => ?_
 refine s_fl M 4 fun a M => ?_
 refine fp M 1 5 [(88, .bool (decide ((i : Int) < (s.st.gs.length : Int))))] fun a M => s_d0 ?_
 rcases M.tf 88 rfl with ⟨hb88, M⟩ | ⟨hb88, M⟩
 ·
  have hd88 := of_decide_eq_true hb88
  have hk1 : i < s.st.gs.length := by omega
  have hk2 : i < z.st.gs.length := by omega
  obtain ⟨gq1, oq1, hq1, _⟩ := Rd.qi hx.g (Nat.lt_of_le_of_lt (Nat.zero_le _) (show i < s.st.gs.length from hk1)) (by decide)
  have hrq1 := hx.g; rw [hq1] at hrq1
  obtain ⟨gq2, oq2, hq2, _⟩ := Rd.qi hz.g (Nat.lt_of_le_of_lt (Nat.zero_le _) (show i < z.st.gs.length from hk2)) (by decide)
  have hrq2 := hz.g; rw [hq2] at hrq2
  refine s_ct M (wp_skip (wp_seq (wp_block (wp_seq ?_))))
  refine qz O [.blk g6 z.st.cells 30, .blk g5 s.st.cells 30, .blk g3 z.cells 56, .blk g2 s.cells 56] [0, 1, 2, 3] [] fun O Z => ?_
  refine ap M (fun _ => Z) [0, 1, 3, 6, 7, 9] (bf 13 [0, 1, 3, 6, 7, 9]) [(100, vI i), (98, vP g6 2), (94, vI i), (92, vP g5 2)] fun a M => ?_
  refine s_ac M Z 2 1 (v := .slice s.st.gA s.st.gs.length s.st.gc) fun a M => ?_
  replace M := M.sp 93 (.slice (some ⟨gq1, oq1, none⟩) s.st.gs.length s.st.gc) rfl (by rw [hq1]; try rfl)
  refine s_az M Z 4 rfl (v := vP gq1 (oq1 + i * 2)) (Yl.ix gq1 oq1 i 2 rfl rfl rfl) fun a M => ?_
  refine s_az M Z 5 rfl (v := .agg ((s.st.gs.getD i Gr.zero).cells)) (Yl.qt rfl rfl si_gr rfl (fun _ h => (h.old hrq1).zf zx ((getD_at Gr.zero hk1)))) fun a M => ?_
  refine s_ac M Z 8 0 (v := .slice z.st.gA z.st.gs.length z.st.gc) fun a M => ?_
  replace M := M.sp 99 (.slice (some ⟨gq2, oq2, none⟩) z.st.gs.length z.st.gc) rfl (by rw [hq2]; try rfl)
  refine s_az M Z 10 rfl (v := vP gq2 (oq2 + i * 2)) (Yl.ix gq2 oq2 i 2 rfl rfl rfl) fun a M => ?_
  refine s_az M Z 11 rfl (v := .agg ((z.st.gs.getD i Gr.zero).cells)) (Yl.qt rfl rfl si_gr rfl (fun _ h => (h.old hrq2).zf zx ((getD_at Gr.zero hk2)))) fun a M => ?_
  refine s_az M Z 12 rfl (v := .bool (!(decide ((s.st.gs.getD i Gr.zero) = (z.st.gs.getD i Gr.zero))))) (Yl.qlr rfl rfl rfl (qnd (s.st.gs.getD i Gr.zero) (z.st.gs.getD i Gr.zero))) fun a M => ?_
  refine qh (by kernel_rfl) ?_
  rcases M.tf 103 rfl with ⟨hb103, M⟩ | ⟨hb103, M⟩
  ·
   have hd103 := of_decide_eq_false ((Bool.not_eq_true' _).mp hb103)
   refine s_ct M (s_fs1 ?_)
   refine fp M 1 0 [(4, .bool false)] fun a M => s_d0 (wp_ret ?_)
   exact s_rt1 rfl M rfl (is_no (p := SnEq s z) (fun e => hd103 (by rw [e.2.2.2.1])) O.below)
  have hd103 := of_decide_eq_true ((Bool.not_eq_false' _).mp hb103)
  refine s_cf M (wp_skip (qa ?_))
  refine fp M 2 0 [(90, vI (IntKind.i64.wrap ((i : Int) + 1)))] fun a M => ?_
  replace M := M.sp 90 (vI (i + 1 : Nat)) rfl (qc (by omega) (by omega))
  refine fp M 1 2 [(7, vI (i + 1 : Nat))] fun a M => s_d0 ?_
  exact ⟨_, (by omega), i + 1, by omega, qc8 hu hd103, rfl, M.sub (by kernel_rfl), O.pk [0, 1, 2, 3]⟩
 have hd88 := of_decide_eq_false hb88
 have hgs : s.st.gs = z.st.gs := qc6 Gr.zero (by omega) (fun n hn => hu n (by omega))
 refine s_cf M (wp_exit (wp_seq (s_fs1 ?_)))
 refine fp M 1 0 [(8, vI 0)] fun a M => s_d0 (wp_block ?_)
 refine qe (fun mS aS wS => ∃ (j : Nat), (j ≤ s.st.ts.length) ∧ (∀ n, n < j → s.st.ts.getD n Tk.zero = z.st.ts.getD n Tk.zero) ∧ mS = s.st.ts.length - j ∧ Fr aS 169 [] [(8, vI j), (88, .bool false), (7, vI i), (82, .bool false), (6, vP g6 0), (5, vP g5 0), (4, .bool false), (3, vP g3 0), (2, vP g2 0)] ∧ Mem w wS [.blk g6 z.st.cells 30, .blk g5 s.st.cells 30, .blk g3 z.cells 56, .blk g2 s.cells 56]) (m := s.st.ts.length - 0) ⟨0, Nat.zero_le _, qc7, rfl, M.sub (by kernel_rfl), O.pk [0, 1, 2, 3]⟩ ?_
 clear M O; rintro mS a w_ ⟨j, hk, hu, rfl, M, O⟩
 refine wp_seq (s_fs1 ?_)
 refine fp M 2 0 [(105, vP g5 5), (104, vI j)] fun a M => s_fc M O 2 1 (v := .slice s.st.tA s.st.ts.length s.st.tc) fun a M => ?_
 refine s_fl M 3 fun a M => ?_
 refine fp M 1 4 [(108, .bool (decide ((j : Int) < (s.st.ts.length : Int))))] fun a M => s_d0 ?_
 rcases M.tf 108 rfl with ⟨hb108, M⟩ | ⟨hb108, M⟩
 ·
  have hd108 := of_decide_eq_true hb108
  have hk1 : j < s.st.ts.length := by omega
  have hk2 : j < z.st.ts.length := by omega
  obtain ⟨gq3, oq3, hq3, _⟩ := Rd.qi hx.t (Nat.lt_of_le_of_lt (Nat.zero_le _) (show j < s.st.ts.length from hk1)) (by decide)
  have hrq3 := hx.t; rw [hq3] at hrq3
  obtain ⟨gq4, oq4, hq4, _⟩ := Rd.qi hz.t (Nat.lt_of_le_of_lt (Nat.zero_le _) (show j < z.st.ts.length from hk2)) (by decide)
  have hrq4 := hz.t; rw [hq4] at hrq4
  refine s_ct M (wp_skip (wp_seq (wp_block (wp_seq ?_))))
  refine qz O [.blk g6 z.st.cells 30, .blk g5 s.st.cells 30, .blk g3 z.cells 56, .blk g2 s.cells 56] [0, 1, 2, 3] [] fun O Z => ?_
  refine ap M (fun _ => Z) [0, 2, 5, 7] (bf 11 [0, 2, 5, 7]) [(118, vI j), (116, vP g6 5), (113, vI j), (111, vP g5 5)] fun a M => ?_
  refine s_ac M Z 1 1 (v := .slice s.st.tA s.st.ts.length s.st.tc) fun a M => ?_
  replace M := M.sp 112 (.slice (some ⟨gq3, oq3, none⟩) s.st.ts.length s.st.tc) rfl (by rw [hq3]; try rfl)
  refine s_az M Z 3 rfl (v := vP gq3 (oq3 + j * 8)) (Yl.ix gq3 oq3 j 8 rfl rfl rfl) fun a M => ?_
  refine s_az M Z 4 rfl (v := .agg ((s.st.ts.getD j Tk.zero).cells)) (Yl.qt rfl rfl si_tk rfl (fun _ h => (h.old hrq3).zf z7 ((getD_at Tk.zero hk1)))) fun a M => ?_
  refine s_ac M Z 6 0 (v := .slice z.st.tA z.st.ts.length z.st.tc) fun a M => ?_
  replace M := M.sp 117 (.slice (some ⟨gq4, oq4, none⟩) z.st.ts.length z.st.tc) rfl (by rw [hq4]; try rfl)
  refine s_az M Z 8 rfl (v := vP gq4 (oq4 + j * 8)) (Yl.ix gq4 oq4 j 8 rfl rfl rfl) fun a M => ?_
  refine s_az M Z 9 rfl (v := .agg ((z.st.ts.getD j Tk.zero).cells)) (Yl.qt rfl rfl si_tk rfl (fun _ h => (h.old hrq4).zf z7 ((getD_at Tk.zero hk2)))) fun a M => ?_
  refine s_az M Z 10 rfl (v := .bool (!(decide ((s.st.ts.getD j Tk.zero) = (z.st.ts.getD j Tk.zero))))) (Yl.qlr rfl rfl rfl (qvp (s.st.ts.getD j Tk.zero) (z.st.ts.getD j Tk.zero))) fun a M => ?_
  refine qh (by kernel_rfl) ?_
  rcases M.tf 121 rfl with ⟨hb121, M⟩ | ⟨hb121, M⟩
  ·
   have hd121 := of_decide_eq_false ((Bool.not_eq_true' _).mp hb121)
   refine s_ct M (s_fs1 ?_)
   refine fp M 1 0 [(4, .bool false)] fun a M => s_d0 (wp_ret ?_)
   exact s_rt1 rfl M rfl (is_no (p := SnEq s z) (fun e => hd121 (by rw [e.2.2.2.2.2.2.1])) O.below)
  have hd121 := of_decide_eq_true ((Bool.not_eq_false' _).mp hb121)
  refine s_cf M (wp_skip (qa ?_))
  refine fp M 2 0 [(110, vI (IntKind.i64.wrap ((j : Int) + 1)))] fun a M => ?_
  replace M := M.sp 110 (vI (j + 1 : Nat)) rfl (qc (by omega) (by omega))
  refine fp M 1 2 [(8, vI (j + 1 : Nat))] fun a M => s_d0 ?_
  exact ⟨_, (by omega), j + 1, by omega, qc8 hu hd121, rfl, M.sub (by kernel_rfl), O.pk [0, 1, 2, 3]⟩
 have hd108 := of_decide_eq_false hb108
 have hts : s.st.ts = z.st.ts := qc6 Tk.zero (by omega) (fun n hn => hu n (by omega))
 refine s_cf M (wp_exit (wp_seq (s_fs1 ?_)))
 refine fp M 1 0 [(9, vI 0)] fun a M => s_d0 (wp_block ?_)
 refine qe (fun mS aS wS => ∃ (k : Nat), (k ≤ s.st.rs.length) ∧ (∀ i, i < k → (s.st.rs.getD i Rw.zero).l = (z.st.rs.getD i Rw.zero).l) ∧ mS = s.st.rs.length - k ∧ Fr aS 169 [] [(9, vI k), (108, .bool false), (8, vI j), (88, .bool false), (7, vI i), (82, .bool false), (6, vP g6 0), (5, vP g5 0), (4, .bool false), (3, vP g3 0), (2, vP g2 0)] ∧ Mem w wS [.blk g6 z.st.cells 30, .blk g5 s.st.cells 30, .blk g3 z.cells 56, .blk g2 s.cells 56]) (m := s.st.rs.length - 0) ⟨0, Nat.zero_le _, qc7, rfl, M.sub (by kernel_rfl), O.pk [0, 1, 2, 3]⟩ ?_
 clear M O; rintro mS a w_ ⟨k, hk, hu, rfl, M, O⟩
 refine wp_seq (s_fs1 ?_)
 refine fp M 2 0 [(123, vP g5 6), (122, vI k)] fun a M => s_fc M O 2 1 (v := .slice s.st.sA s.st.rs.length s.st.sc) fun a M => ?_
 refine s_fl M 3 fun a M => ?_
 refine fp M 1 4 [(126, .bool (decide ((k : Int) < (s.st.rs.length : Int))))] fun a M => s_d0 ?_
 rcases M.tf 126 rfl with ⟨hb126, M⟩ | ⟨hb126, M⟩
 ·
  have hd126 := of_decide_eq_true hb126
  have hk1 : k < s.st.rs.length := by omega
  have hk2 : k < z.st.rs.length := by omega
  obtain ⟨gq5, oq5, hq5, _⟩ := Rd.qi hx.s (Nat.lt_of_le_of_lt (Nat.zero_le _) (show k < s.st.rs.length from hk1)) (by decide)
  have hrq5 := hx.s; rw [hq5] at hrq5
  obtain ⟨gq6, oq6, hq6, _⟩ := Rd.qi hz.s (Nat.lt_of_le_of_lt (Nat.zero_le _) (show k < z.st.rs.length from hk2)) (by decide)
  have hrq6 := hz.s; rw [hq6] at hrq6
  obtain ⟨x, hx_⟩ : ∃ q, (s.st.rs.getD k Rw.zero) = q := ⟨_, rfl⟩
  obtain ⟨y, hy_⟩ : ∃ q, (z.st.rs.getD k Rw.zero) = q := ⟨_, rfl⟩
  have hxr : Rd w w.heap.size 3 x.A x.l.length (x.l.flatMap spL) := by rw [← hx_]; exact hx.row hk1
  have hyr : Rd w w.heap.size 3 y.A y.l.length (y.l.flatMap spL) := by rw [← hy_]; exact hz.row hk2
  have hxl : x.l.length ≤ 1000000 := by rw [← hx_]; exact hf.r _ (qr Rw.zero hk1)
  have hyl : y.l.length ≤ 1000000 := by rw [← hy_]; exact hg.r _ (qr Rw.zero hk2)
  refine s_ct M (wp_skip (wp_seq (wp_block (wp_seq (wp_seq ?_)))))
  refine qz O [.blk g6 z.st.cells 30, .blk g5 s.st.cells 30, .blk g3 z.cells 56, .blk g2 s.cells 56] [0, 1, 2, 3] [] fun O Z => ?_
  refine ap M (fun _ => Z) [0, 2, 6, 8] (bf 13 [0, 2, 6, 8]) [(137, vI k), (135, vP g6 6), (131, vI k), (129, vP g5 6)] fun a M => ?_
  refine s_ac M Z 1 1 (v := .slice s.st.sA s.st.rs.length s.st.sc) fun a M => ?_
  replace M := M.sp 130 (.slice (some ⟨gq5, oq5, none⟩) s.st.rs.length s.st.sc) rfl (by rw [hq5]; try rfl)
  refine s_az M Z 3 rfl (v := vP gq5 (oq5 + k * 1)) (Yl.ix gq5 oq5 k 1 rfl rfl rfl) fun a M => ?_
  refine s_az M Z 4 rfl (v := .slice ((s.st.rs.getD k Rw.zero).A) ((s.st.rs.getD k Rw.zero).l.length) ((s.st.rs.getD k Rw.zero).c)) (Yl.o1 hrq5 k Rw.zero hk1 rfl rfl) fun a M => ?_
  replace M := M.sp 133 (.slice x.A x.l.length x.c) rfl (by rw [hx_])
  refine s_al M Z 5 fun a M => ?_
  refine s_ac M Z 7 0 (v := .slice z.st.sA z.st.rs.length z.st.sc) fun a M => ?_
  replace M := M.sp 136 (.slice (some ⟨gq6, oq6, none⟩) z.st.rs.length z.st.sc) rfl (by rw [hq6]; try rfl)
  refine s_az M Z 9 rfl (v := vP gq6 (oq6 + k * 1)) (Yl.ix gq6 oq6 k 1 rfl rfl rfl) fun a M => ?_
  refine s_az M Z 10 rfl (v := .slice ((z.st.rs.getD k Rw.zero).A) ((z.st.rs.getD k Rw.zero).l.length) ((z.st.rs.getD k Rw.zero).c)) (Yl.o1 hrq6 k Rw.zero hk2 rfl rfl) fun a M => ?_
  replace M := M.sp 139 (.slice y.A y.l.length y.c) rfl (by rw [hy_])
  refine s_al M Z 11 fun a M => ?_
  refine ap M (fun _ => Z) [12] (bt 13 []) [(141, .bool ((x.l.length : Int) != (y.l.length : Int)))] fun a M => ?_
  refine qh (by kernel_rfl) ?_
  rcases M.tf 141 rfl with ⟨hb141, M⟩ | ⟨hb141, M⟩
  ·
   have hd141 := bne_iff_ne.1 hb141
   refine s_ct M (s_fs1 ?_)
   refine fp M 1 0 [(4, .bool false)] fun a M => s_d0 (wp_ret ?_)
   exact s_rt1 rfl M rfl (is_no (p := SnEq s z) (fun e => qks hk1 hk2 (by rw [hx_, hy_]; exact q1l (by omega)) e.2.2.2.2.2.2.2) O.below)
  have hd141 := bne_eq_false_iff_eq.1 hb141
  refine s_cf M (wp_skip (s_fs1 ?_))
  refine fp M 1 0 [(10, vI 0)] fun a M => s_d0 (wp_block ?_)
  refine qe (fun mS aS wS => ∃ (c : Nat), (c ≤ x.l.length) ∧ (∀ i, i < c → x.l.getD i Sp.zero = y.l.getD i Sp.zero) ∧ mS = x.l.length - c ∧ Fr aS 169 [] [(10, vI c), (141, .bool false), (126, .bool true), (9, vI k), (108, .bool false), (8, vI j), (88, .bool false), (7, vI i), (82, .bool false), (6, vP g6 0), (5, vP g5 0), (4, .bool false), (3, vP g3 0), (2, vP g2 0)] ∧ Mem w wS [.blk g6 z.st.cells 30, .blk g5 s.st.cells 30, .blk g3 z.cells 56, .blk g2 s.cells 56]) (m := x.l.length - 0) ⟨0, Nat.zero_le _, qc7, rfl, M.sub (by kernel_rfl), O.pk [0, 1, 2, 3]⟩ ?_
  clear M O; rintro mS a w_ ⟨c, hc, hu2, rfl, M, O⟩
  refine wp_seq (s_fs1 ?_)
  refine fp M 2 0 [(143, vP g5 6), (142, vI c)] fun a M => s_fc M O 2 1 (v := .slice s.st.sA s.st.rs.length s.st.sc) fun a M => ?_
  refine fp M 1 3 [(145, vI k)] fun a M => ?_
  replace M := M.sp 144 (.slice (some ⟨gq5, oq5, none⟩) s.st.rs.length s.st.sc) rfl (by rw [hq5]; try rfl)
  refine s_fz M O 4 rfl (v := vP gq5 (oq5 + k * 1)) (Yl.ix gq5 oq5 k 1 rfl rfl rfl) fun a M => ?_
  refine s_fz M O 5 rfl (v := .slice ((s.st.rs.getD k Rw.zero).A) ((s.st.rs.getD k Rw.zero).l.length) ((s.st.rs.getD k Rw.zero).c)) (Yl.o1 hrq5 k Rw.zero hk1 rfl rfl) fun a M => ?_
  replace M := M.sp 147 (.slice x.A x.l.length x.c) rfl (by rw [hx_])
  refine s_fl M 6 fun a M => ?_
  refine fp M 1 7 [(149, .bool (decide ((c : Int) < (x.l.length : Int))))] fun a M => s_d0 ?_
  rcases M.tf 149 rfl with ⟨hb149, M⟩ | ⟨hb149, M⟩
  ·
   have hd149 := of_decide_eq_true hb149
   have hc1 : c < x.l.length := by omega
   have hc2 : c < y.l.length := by omega
   obtain ⟨gq7, oq7, hq7, _⟩ := Rd.qi hxr (Nat.lt_of_le_of_lt (Nat.zero_le _) (show c < x.l.length from hc1)) (by decide)
   have hrq7 := hxr; rw [hq7] at hrq7
   obtain ⟨gq8, oq8, hq8, _⟩ := Rd.qi hyr (Nat.lt_of_le_of_lt (Nat.zero_le _) (show c < y.l.length from hc2)) (by decide)
   have hrq8 := hyr; rw [hq8] at hrq8
   refine s_ct M (wp_skip (wp_seq (wp_block (wp_seq ?_))))
   refine qz O [.blk g6 z.st.cells 30, .blk g5 s.st.cells 30, .blk g3 z.cells 56, .blk g2 s.cells 56] [0, 1, 2, 3] [] fun O Z => ?_
   refine ap M (fun _ => Z) [0, 2, 5, 8, 10, 13] (bf 17 [0, 2, 5, 8, 10, 13]) [(165, vI c), (162, vI k), (160, vP g6 6), (157, vI c), (154, vI k), (152, vP g5 6)] fun a M => ?_
   refine s_ac M Z 1 1 (v := .slice s.st.sA s.st.rs.length s.st.sc) fun a M => ?_
   replace M := M.sp 153 (.slice (some ⟨gq5, oq5, none⟩) s.st.rs.length s.st.sc) rfl (by rw [hq5]; try rfl)
   refine s_az M Z 3 rfl (v := vP gq5 (oq5 + k * 1)) (Yl.ix gq5 oq5 k 1 rfl rfl rfl) fun a M => ?_
   refine s_az M Z 4 rfl (v := .slice ((s.st.rs.getD k Rw.zero).A) ((s.st.rs.getD k Rw.zero).l.length) ((s.st.rs.getD k Rw.zero).c)) (Yl.o1 hrq5 k Rw.zero hk1 rfl rfl) fun a M => ?_
   replace M := M.sp 156 (.slice x.A x.l.length x.c) rfl (by rw [hx_])
   replace M := M.sp 156 (.slice (some ⟨gq7, oq7, none⟩) x.l.length x.c) rfl (by rw [hq7]; try rfl)
   refine s_az M Z 6 rfl (v := vP gq7 (oq7 + c * 3)) (Yl.ix gq7 oq7 c 3 rfl rfl rfl) fun a M => ?_
   refine s_az M Z 7 rfl (v := .agg ((x.l.getD c Sp.zero).cells)) (Yl.qt rfl rfl si_sp rfl (fun _ h => (h.old hrq7).zf qau ((getD_at Sp.zero hc1)))) fun a M => ?_
   refine s_ac M Z 9 0 (v := .slice z.st.sA z.st.rs.length z.st.sc) fun a M => ?_
   replace M := M.sp 161 (.slice (some ⟨gq6, oq6, none⟩) z.st.rs.length z.st.sc) rfl (by rw [hq6]; try rfl)
   refine s_az M Z 11 rfl (v := vP gq6 (oq6 + k * 1)) (Yl.ix gq6 oq6 k 1 rfl rfl rfl) fun a M => ?_
   refine s_az M Z 12 rfl (v := .slice ((z.st.rs.getD k Rw.zero).A) ((z.st.rs.getD k Rw.zero).l.length) ((z.st.rs.getD k Rw.zero).c)) (Yl.o1 hrq6 k Rw.zero hk2 rfl rfl) fun a M => ?_
   replace M := M.sp 164 (.slice y.A y.l.length y.c) rfl (by rw [hy_])
   replace M := M.sp 164 (.slice (some ⟨gq8, oq8, none⟩) y.l.length y.c) rfl (by rw [hq8]; try rfl)
   refine s_az M Z 14 rfl (v := vP gq8 (oq8 + c * 3)) (Yl.ix gq8 oq8 c 3 rfl rfl rfl) fun a M => ?_
   refine s_az M Z 15 rfl (v := .agg ((y.l.getD c Sp.zero).cells)) (Yl.qt rfl rfl si_sp rfl (fun _ h => (h.old hrq8).zf qau ((getD_at Sp.zero hc2)))) fun a M => ?_
   refine s_az M Z 16 rfl (v := .bool (!(decide ((x.l.getD c Sp.zero) = (y.l.getD c Sp.zero))))) (Yl.qlr rfl rfl rfl (qvq (x.l.getD c Sp.zero) (y.l.getD c Sp.zero))) fun a M => ?_
   refine qh (by kernel_rfl) ?_
   rcases M.tf 168 rfl with ⟨hb168, M⟩ | ⟨hb168, M⟩
   ·
    have hd168 := of_decide_eq_false ((Bool.not_eq_true' _).mp hb168)
    refine s_ct M (s_fs1 ?_)
    refine fp M 1 0 [(4, .bool false)] fun a M => s_d0 (wp_ret ?_)
    exact s_rt1 rfl M rfl (is_no (p := SnEq s z) (fun e => qks hk1 hk2 (by rw [hx_, hy_]; exact fun h => hd168 (by rw [h])) e.2.2.2.2.2.2.2) O.below)
   have hd168 := of_decide_eq_true ((Bool.not_eq_false' _).mp hb168)
   refine s_cf M (wp_skip (qa ?_))
   refine fp M 2 0 [(151, vI (IntKind.i64.wrap ((c : Int) + 1)))] fun a M => ?_
   replace M := M.sp 151 (vI (c + 1 : Nat)) rfl (qc (by omega) (by omega))
   refine fp M 1 2 [(10, vI (c + 1 : Nat))] fun a M => s_d0 ?_
   exact ⟨_, (by omega), c + 1, by omega, qc8 hu2 hd168, rfl, M.sub (by kernel_rfl), O.pk [0, 1, 2, 3]⟩
  have hd149 := of_decide_eq_false hb149
  have hxy : x.l = y.l := qc6 Sp.zero (by omega) (fun i hi => hu2 i (by omega))
  refine s_cf M (wp_exit (qa ?_))
  refine fp M 2 0 [(128, vI (IntKind.i64.wrap ((k : Int) + 1)))] fun a M => ?_
  replace M := M.sp 128 (vI (k + 1 : Nat)) rfl (qc (by omega) (by omega))
  refine fp M 1 2 [(9, vI (k + 1 : Nat))] fun a M => s_d0 ?_
  exact ⟨_, (by omega), k + 1, by omega, qc8 (f := fun i => (s.st.rs.getD i Rw.zero).l) (g := fun i => (z.st.rs.getD i Rw.zero).l) hu (by rw [hx_, hy_]; exact hxy), rfl, M.sub (by kernel_rfl), O.pk [0, 1, 2, 3]⟩
 have hd126 := of_decide_eq_false hb126
 refine s_cf M (wp_exit (s_fs1 ?_))
 refine fp M 1 0 [(4, .bool true)] fun a M => s_d0 (wp_ret ?_)
 exact s_rt1 rfl M rfl (qh1 (p := SnEq s z) ⟨hd20, hd29, by omega, hgs, hcl, hcu, hts, qr6 (by omega) (fun i hi => hu i (by omega))⟩ O.below)
end Go.Proofs.YtggpmlaappaopaaGreatDoor
