/- A part of the proof. -/
import Derived.Test.YtcajpeiobkcliaaGreatDoorQpChn
set_option linter.all false
namespace Go.Proofs.YtcajpeiobkcliaaGreatDoor
open Go.RowKit
section
variable {P : Program} {ops o2 : Array Oper} {Q : Exit → Act → World → Prop} {a : Act} {W w : World} {n d d2 fuel : Nat} {D : List Deferred} {σ σ' : List (Nat × Value)} {o o' : Oper} {op : Op} {v v1 v2 v3 : Value} {X : Act → World → Prop} {fs gs fs' : List Fact} {md : Region.Mode} {listed : Array Bool} {ex : List Nat} {S : World → Prop}
def VV (W w : World) (n : Nat) (D : List Deferred) (σ : List (Nat × Value)) (fs gs : List Fact) (X : Act → World → Prop) : Prop := ∀ a, Fr a n D σ → Mem W w fs → Mem W w gs → X a w
theorem Vb (Z : Fr a n D σ) (I : Mem W w fs) (HS : Mem W w gs) (h : VV W w n D σ fs gs X) : X a w := h a Z I HS
def setT (l : Array Bool) (is : List Nat) : Array Bool := is.foldl (fun l i => l.setIfInBounds i true) l
theorem Vs (m : Sel fs gs) (ex : List Nat) {id f0 : Nat} (hf : ops.size = f0 := by exact rfl) (hm : P.follows .mixedOrders = true := by kernel_rfl) (k : ∀ w', VV W w' n D σ fs gs (qh P .any ops Q (fun wS => Mem W wS gs) ex f0 (Array.replicate ops.size false))) : JJ W w n D σ fs (Code.wp P (.region id ops true) Q) :=
 fun a Z I => qml hm (fun wS => Mem W wS gs) ex (by have h := k w.drew a Z I.drew (I.drew.sel m); subst hf; exact h)
theorem Vd (hr : Region.ready md ops listed = [] := by kernel_rfl) (k : JJ W w n D σ fs (Q .normal)) : VV W w n D σ fs gs (qh P md ops Q S ex fuel listed) := fun a Z I _ => qc hr (k a Z I)
def qgg (P : Program) (ops : Array Oper) (n : Nat) : List Nat → List (Nat × Value) → Option (List (Nat × Value))
 | [], σ => some σ
 | i :: is, σ => match qb4 P ops n i σ with
  | some σ' => qgg P ops n is σ'
  | none => none
def okSel (md : Region.Mode) (ops : Array Oper) (ex : List Nat) : List Nat → Array Bool → Bool
 | [], _ => true
 | i :: is, l => qa7 md ops ex l i && okSel md ops ex is (l.setIfInBounds i true)
theorem qet : ∀ (is : List Nat) {l : Array Bool} {σ σ' : List (Nat × Value)}, qgg P ops n is σ = some σ' → okSel md ops ex is l = true → qbr P md ops n ex is l σ = some (setT l is, σ')
 | [], _, _, _, h, _ => by injection h with h; subst h; rfl
 | i :: is, l, σ, σ', h, hk => by
  unfold qgg at h
  unfold okSel at hk
  rw [Bool.and_eq_true] at hk
  split at h
  ·rename_i s hs
   unfold qbr
   rw [if_pos hk.1, hs]
   exact qet is h hk.2
  ·cases h
theorem Vp (is : List Nat) (h : qgg P ops n is σ = some σ' := by exact rfl) (hk : okSel md ops ex is listed = true := by kernel_rfl) (hQ : ∀ c (a : Act) d v w, Q (.panic c) (a.put d v) w → Q (.panic c) a w := by intro _ _ d _ _ h; cases d <;> exact h)
 (k : VV W w n D σ' fs gs (qh P md ops Q S ex fuel (setT listed is))) (hS : ∀ w, Mem W w gs → S w := by exact fun _ h => h) : VV W w n D σ fs gs (qh P md ops Q S ex (fuel + is.length) listed) :=
 fun a Z I HS => qd4 hQ is Z (fun _ => hS _ HS) (qet is h hk) fun a Z => k a Z I HS
theorem Vq (is : List Nat) (new : List (Nat × Value)) (h : (qgg P ops n is σ).map (fun s => (thin s σ new, new.map fun p => s.lookup p.1)) = some (true, new.map fun p => some p.2) := by kernel_rfl) (hk : okSel md ops ex is listed = true := by kernel_rfl) (hQ : ∀ c (a : Act) d v w, Q (.panic c) (a.put d v) w → Q (.panic c) a w := by intro _ _ d _ _ h; cases d <;> exact h)
 (k : VV W w n D (new ++ σ) fs gs (qh P md ops Q (fun wS => Mem W wS gs) ex fuel (setT listed is))) : VV W w n D σ fs gs (qh P md ops Q (fun wS => Mem W wS gs) ex (fuel + is.length) listed) := by
 cases hs : qgg P ops n is σ with
 | none => rw [hs] at h; cases h
 | some s =>
  rw [hs] at h
  injection h with h
  injection h with h1 h2
  have hA := qet is hs hk
  obtain ⟨full, hf⟩ := qdo is hA
  exact fun a Z I HS => qd4 hQ is Z (fun _ => HS) hA fun a Z => k a (Z.thin hf h1 h2) I HS
section
variable {i : Nat}
theorem VV.yl (h : opW ops σ n i = some (d, op)) (hk : qe9 md ops ex listed i = true) (hQ : ∀ c (a : Act) v w, Q (.panic c) (a.put (some d) v) w → Q (.panic c) a w) (hy : ∀ o : Oper, o.op = op → Yl P (fun wS => Mem W wS gs) σ o v)
 (k : VV W w n D ((d, v) :: σ) fs gs (qh P md ops Q (fun wS => Mem W wS gs) ex fuel (listed.setIfInBounds i true))) : VV W w n D σ fs gs (qh P md ops Q (fun wS => Mem W wS gs) ex (fuel + 1) listed) := by
 obtain ⟨o, ho, hw, hd, hdn, he⟩ := qfg h
 exact fun a Z I HS => qjp Z HS ho hw hd hdn hk (fun c a w => by rw [hd]; exact hQ c a v w) (hy o he) fun a Z => k a Z I HS
theorem VV.pu (h : opW ops σ n i = some (d, op)) (hk : qa7 md ops ex listed i = true) (hQ : ∀ c (a : Act) v w, Q (.panic c) (a.put (some d) v) w → Q (.panic c) a w) (hy : ∀ o : Oper, o.op = op → ∀ S', Yl P S' σ o v)
 (k : VV W w n D ((d, v) :: σ) fs gs (qh P md ops Q (fun wS => Mem W wS gs) ex fuel (listed.setIfInBounds i true))) : VV W w n D σ fs gs (qh P md ops Q (fun wS => Mem W wS gs) ex (fuel + 1) listed) := by
 obtain ⟨o, ho, hw, hd, hdn, he⟩ := qfg h
 exact fun a Z I HS => qd3 Z (fun _ => HS) ho hw hd hdn hk (fun c a w => by rw [hd]; exact hQ c a v w) (hy o he) fun a Z => k a Z I HS
theorem VV.eff (h : opW ops σ n i = some (d, op)) (hr : Region.ready md ops listed = [i]) (k : ∀ (o : Oper) a, o.op = op → o.dst = some d → d < n → Fr a n D σ → Mem W w fs → o.wp P a w (fun a' w' => (pastB ex (listed.setIfInBounds i true) = false → Mem W w' gs) ∧ qh P md ops Q (fun wS => Mem W wS gs) ex fuel (listed.setIfInBounds i true) a' w') Q) : VV W w n D σ fs gs (qh P md ops Q (fun wS => Mem W wS gs) ex (fuel + 1) listed) := by
 obtain ⟨o, ho, hw, hd, hdn, he⟩ := qfg h
 exact fun a Z I _ => ze [i] hr rfl (all_cons (q3 Z ho hw (k o a he hd hdn Z I)) all_nil)
end
theorem Vf (i off : Nat) {s f g b : Nat} {x : Operand} (h : opW ops σ n i = some (d, .fieldAddr s x f) := by exact rfl) (hx : look σ x = some (.pointer (some ⟨g, b, none⟩)) := by exact rfl) (hf : (qd2 P s f == some off && qa7 md ops ex listed i) = true := by kernel_rfl) (hQ : ∀ c (a : Act) v w, Q (.panic c) (a.put (some d) v) w → Q (.panic c) a w := by exact fun _ _ _ _ h => h)
 (k : VV W w n D ((d, .pointer (some ⟨g, b + off, none⟩)) :: σ) fs gs (qh P md ops Q (fun wS => Mem W wS gs) ex fuel (listed.setIfInBounds i true))) : VV W w n D σ fs gs (qh P md ops Q (fun wS => Mem W wS gs) ex (fuel + 1) listed) := by
 rw [Bool.and_eq_true, beq_iff_eq] at hf
 exact VV.pu h hf.2 hQ (fun o ho _ => Yl.pure (by rw [ho]; simp only [qa9, hx, hf.1]; rw [Addr.add_mid])) k
theorem Vc (i : Nat) {g off : Nat} {x : Operand} {t tb : TypeId} {cs : Array Value} (O : At gs (.blk g cs tb)) (h : opW ops σ n i = some (d, .load t x) := by exact rfl) (hx : look σ x = some (.pointer (some ⟨g, off, none⟩)) := by exact rfl) (hv : nth cs.toList off = some v := by exact rfl) (ht : (isOne P t && qe9 md ops ex listed i) = true := by kernel_rfl) (hQ : ∀ c (a : Act) v w, Q (.panic c) (a.put (some d) v) w → Q (.panic c) a w := by exact fun _ _ _ _ h => h)
 (k : VV W w n D ((d, v) :: σ) fs gs (qh P md ops Q (fun wS => Mem W wS gs) ex fuel (listed.setIfInBounds i true))) : VV W w n D σ fs gs (qh P md ops Q (fun wS => Mem W wS gs) ex (fuel + 1) listed) := by
 rw [Bool.and_eq_true] at ht
 exact VV.yl h ht.2 hQ (fun o ho => Yl.qr ho hx ht.1 fun _ h => let ⟨_, hi⟩ := O.get; h.cell hi (qky hv)) k
theorem Vl (i : Nat) {x : Operand} {t : TypeId} {A : Option Addr} {m c : Nat} (h : opW ops σ n i = some (d, .call { callee := .builtin .len, args := #[x], argTypes := #[t] }) := by exact rfl) (hx : look σ x = some (.slice A m c) := by exact rfl) (ht : (isSl P t && qa7 md ops ex listed i) = true := by kernel_rfl) (hQ : ∀ c (a : Act) v w, Q (.panic c) (a.put (some d) v) w → Q (.panic c) a w := by exact fun _ _ _ _ h => h)
 (k : VV W w n D ((d, .int .i64 (m : Int)) :: σ) fs gs (qh P md ops Q (fun wS => Mem W wS gs) ex fuel (listed.setIfInBounds i true))) : VV W w n D σ fs gs (qh P md ops Q (fun wS => Mem W wS gs) ex (fuel + 1) listed) := by
 rw [Bool.and_eq_true] at ht
 exact VV.pu h ht.2 hQ (fun o ho _ => Yl.len ho hx ht.1) k
theorem Vn (i : Nat) {x : Operand} {p : Addr} (h : opW ops σ n i = some (d, .nilCheck x) := by exact rfl) (hx : look σ x = some (.pointer (some p)) := by exact rfl) (ht : qa7 md ops ex listed i = true := by kernel_rfl) (hQ : ∀ c (a : Act) v w, Q (.panic c) (a.put (some d) v) w → Q (.panic c) a w := by exact fun _ _ _ _ h => h)
 (k : VV W w n D ((d, .pointer (some p)) :: σ) fs gs (qh P md ops Q (fun wS => Mem W wS gs) ex fuel (listed.setIfInBounds i true))) : VV W w n D σ fs gs (qh P md ops Q (fun wS => Mem W wS gs) ex (fuel + 1) listed) :=
 VV.pu h ht hQ (fun o ho _ => Yl.nilCheck ho hx) k
theorem Vx (i : Nat) {x : Operand} {e : Nat} {vs : Array Value} (h : opW ops σ n i = some (d, .extract x e) := by exact rfl) (hx : look σ x = some (.tuple vs) := by exact rfl) (hv : nth vs.toList e = some v := by exact rfl) (ht : qa7 md ops ex listed i = true := by kernel_rfl) (hQ : ∀ c (a : Act) v w, Q (.panic c) (a.put (some d) v) w → Q (.panic c) a w := by exact fun _ _ _ _ h => h)
 (k : VV W w n D ((d, v) :: σ) fs gs (qh P md ops Q (fun wS => Mem W wS gs) ex fuel (listed.setIfInBounds i true))) : VV W w n D σ fs gs (qh P md ops Q (fun wS => Mem W wS gs) ex (fuel + 1) listed) :=
 VV.pu h ht hQ (fun o ho _ => Yl.pure (by rw [ho]; simp only [qa9, hx]; exact qky hv)) k
theorem Vy (i : Nat) (ho : ops[i]? = some o := by exact rfl) (hw : wantB ops σ o = some true := by exact rfl) (hd : o.dst = some d := by exact rfl) (hdn : d < n := by decide) (h : Yl P (fun wS => Mem W wS gs) σ o v) (ht : qe9 md ops ex listed i = true := by kernel_rfl) (hQ : ∀ c (a : Act) w, Q (.panic c) (a.put o.dst v) w → Q (.panic c) a w := by exact fun _ _ _ h => h)
 (k : VV W w n D ((d, v) :: σ) fs gs (qh P md ops Q (fun wS => Mem W wS gs) ex fuel (listed.setIfInBounds i true))) : VV W w n D σ fs gs (qh P md ops Q (fun wS => Mem W wS gs) ex (fuel + 1) listed) :=
 fun a Z I HS => qjp Z HS ho hw hd hdn ht hQ h fun a Z => k a Z I HS
theorem Vu (i : Nat) (ho : ops[i]? = some o := by exact rfl) (hw : wantB ops σ o = some true := by exact rfl) (hd : o.dst = some d := by exact rfl) (hdn : d < n := by decide) (h : ∀ S' : World → Prop, Yl P S' σ o v) (ht : qa7 md ops ex listed i = true := by kernel_rfl) (hQ : ∀ c (a : Act) w, Q (.panic c) (a.put o.dst v) w → Q (.panic c) a w := by exact fun _ _ _ h => h)
 (k : VV W w n D ((d, v) :: σ) fs gs (qh P md ops Q (fun wS => Mem W wS gs) ex fuel (listed.setIfInBounds i true))) : VV W w n D σ fs gs (qh P md ops Q (fun wS => Mem W wS gs) ex (fuel + 1) listed) :=
 fun a Z I HS => qd3 Z (fun _ => HS) ho hw hd hdn ht hQ h fun a Z => k a Z I HS
theorem Vo (u : Value) (h : v = u) (k : VV W w n D ((d, u) :: σ) fs gs X) : VV W w n D ((d, v) :: σ) fs gs X := by subst h; exact k
theorem VH {p : Prop} (h : p) (k : p → VV W w n D σ fs gs X) : VV W w n D σ fs gs X := k h
section
variable {x y : Operand} {t t2 : TypeId} {k : Go.IntKind} {m p B : Nat}
theorem VV.bin (i : Nat) {bo : BinOp} {u : Value} {a1 a2 : Value} (h : opW ops σ n i = some (d, .binOp bo t x y t2)) (hx : look σ x = some a1) (hy : look σ y = some a2) (ht : qa7 md ops ex listed i = true) (hQ : ∀ c (a : Act) v w, Q (.panic c) (a.put (some d) v) w → Q (.panic c) a w) (hn : qmi a1 = true) (hb : qcq bo a1 a2 = some v) (e : v = u)
 (K : VV W w n D ((d, u) :: σ) fs gs (qh P md ops Q (fun wS => Mem W wS gs) ex fuel (listed.setIfInBounds i true))) : VV W w n D σ fs gs (qh P md ops Q (fun wS => Mem W wS gs) ex (fuel + 1) listed) := by
 subst e
 exact VV.pu h ht hQ (fun o ho _ => Yl.pure (by rw [ho]; simp only [qa9, hx, hy, hn, if_true]; exact hb)) K
theorem Va (i : Nat) (h : opW ops σ n i = some (d, .binOp .add t x y t2) := by exact rfl) (hx : look σ x = some (.int k (m : Int)) := by exact rfl) (hy : look σ y = some (.int k (p : Int)) := by exact rfl) (hB : mostO k = some B := by exact rfl) (hb : m + p ≤ B := by omega) (ht : qa7 md ops ex listed i = true := by kernel_rfl) (hQ : ∀ c (a : Act) v w, Q (.panic c) (a.put (some d) v) w → Q (.panic c) a w := by exact fun _ _ _ _ h => h)
 (K : VV W w n D ((d, .int k ((m + p : Nat) : Int)) :: σ) fs gs (qh P md ops Q (fun wS => Mem W wS gs) ex fuel (listed.setIfInBounds i true))) : VV W w n D σ fs gs (qh P md ops Q (fun wS => Mem W wS gs) ex (fuel + 1) listed) :=
 VV.bin i h hx hy ht hQ rfl (qvi _ _ _) (by rw [show ((m : Int) + (p : Int)) = ((m + p : Nat) : Int) from rfl, qcu hB hb]) K
theorem VaK (i p : Nat) {z : Int} (h : opW ops σ n i = some (d, .binOp .add t x y t2) := by exact rfl) (hx : look σ x = some (.int k (m : Int)) := by exact rfl) (hy : look σ y = some (.int k z) := by exact rfl) (hz : z = (p : Int) := by exact rfl) (hB : mostO k = some B := by exact rfl) (hb : m + p ≤ B := by omega) (ht : qa7 md ops ex listed i = true := by kernel_rfl) (hQ : ∀ c (a : Act) v w, Q (.panic c) (a.put (some d) v) w → Q (.panic c) a w := by exact fun _ _ _ _ h => h)
 (K : VV W w n D ((d, .int k ((m + p : Nat) : Int)) :: σ) fs gs (qh P md ops Q (fun wS => Mem W wS gs) ex fuel (listed.setIfInBounds i true))) : VV W w n D σ fs gs (qh P md ops Q (fun wS => Mem W wS gs) ex (fuel + 1) listed) := by
 subst hz; exact Va i h hx hy hB hb ht hQ K
theorem VsK (i p : Nat) {z : Int} (h : opW ops σ n i = some (d, .binOp .sub t x y t2) := by exact rfl) (hx : look σ x = some (.int k (m : Int)) := by exact rfl) (hy : look σ y = some (.int k z) := by exact rfl) (hz : z = (p : Int) := by exact rfl) (hB : mostO k = some B := by exact rfl) (hb : p ≤ m ∧ m - p ≤ B := by omega) (ht : qa7 md ops ex listed i = true := by kernel_rfl) (hQ : ∀ c (a : Act) v w, Q (.panic c) (a.put (some d) v) w → Q (.panic c) a w := by exact fun _ _ _ _ h => h)
 (K : VV W w n D ((d, .int k ((m - p : Nat) : Int)) :: σ) fs gs (qh P md ops Q (fun wS => Mem W wS gs) ex fuel (listed.setIfInBounds i true))) : VV W w n D σ fs gs (qh P md ops Q (fun wS => Mem W wS gs) ex (fuel + 1) listed) := by
 subst hz
 exact VV.bin i h hx hy ht hQ rfl (qvj _ _ _) (by rw [show ((m : Int) - (p : Int)) = ((m - p : Nat) : Int) by omega, qcu hB hb.2]) K
theorem Vw (i : Nat) (k : Go.IntKind) {k0 : Go.IntKind} (h : opW ops σ n i = some (d, .convert t t2 x) := by exact rfl) (hx : look σ x = some (.int k0 (m : Int)) := by exact rfl) (hk : (intK P t t2 == some k && qa7 md ops ex listed i) = true := by kernel_rfl) (hB : mostO k = some B := by exact rfl) (hb : m ≤ B := by omega) (hQ : ∀ c (a : Act) v w, Q (.panic c) (a.put (some d) v) w → Q (.panic c) a w := by exact fun _ _ _ _ h => h)
 (K : VV W w n D ((d, .int k (m : Int)) :: σ) fs gs (qh P md ops Q (fun wS => Mem W wS gs) ex fuel (listed.setIfInBounds i true))) : VV W w n D σ fs gs (qh P md ops Q (fun wS => Mem W wS gs) ex (fuel + 1) listed) := by
 rw [Bool.and_eq_true, beq_iff_eq] at hk
 obtain ⟨hk, ht⟩ := hk
 refine VV.pu h ht hQ (fun o ho _ => Yl.pure (by
  rw [ho]
  unfold intK at hk
  split at hk
  ·rename_i q1 q2 h1 h2
   injection hk with hk
   subst hk
   simp only [qa9, h1, h2, hx, qcu hB hb]
  ·cases hk)) K
end
theorem VA (i : Nat) (m : Sel fs gs) (cs : Array Value) {e : TypeId} (h : opW ops σ n i = some (d, .alloc e) := by exact rfl) (hz : zx P e = some cs := by kernel_rfl) (hr : Region.ready md ops listed = [i] := by kernel_rfl)
 (k : ∀ w' g, VV W w' n D ((d, .pointer (some ⟨g, 0, none⟩)) :: σ) (.blk g cs e :: fs) gs (qh P md ops Q (fun wS => Mem W wS gs) ex fuel (listed.setIfInBounds i true))) : VV W w n D σ fs gs (qh P md ops Q (fun wS => Mem W wS gs) ex (fuel + 1) listed) :=
 VV.eff h hr fun _ _ he hd hdn Z I => qou Z I he hz hd hdn fun a w' g Z I => ⟨fun _ => I.sel (.f m), k w' g a Z I (I.sel (.f m))⟩
theorem VI (i : Nat) (m : Sel fs gs) {f : FuncId} {xs : Array Operand} {ts : Array TypeId} {vs : List Value} (h0 : opW ops σ n i = some (d, .call { callee := .value (.func f), args := xs, argTypes := ts }) := by exact rfl) (hv : looks σ xs.toList = some vs := by exact rfl) (h : Mem W w fs → Calls P f vs.toArray w (fun r w' => r = .returned v ∧ Below w.heap.size w w')) (hf : callable P f = true := by kernel_rfl) (hr : Region.ready md ops listed = [i] := by kernel_rfl)
 (k : ∀ w', Below w.heap.size w w' → VV W w' n D ((d, v) :: σ) fs gs (qh P md ops Q (fun wS => Mem W wS gs) ex fuel (listed.setIfInBounds i true))) : VV W w n D σ fs gs (qh P md ops Q (fun wS => Mem W wS gs) ex (fuel + 1) listed) :=
 VV.eff h0 hr fun _ _ he hd hdn Z I => qgv Z he hv hf hd hdn (h I) fun _ w' ⟨h1, h2⟩ => ⟨v, h1, fun a Z => ⟨fun _ => (I.call h2).sel m, k w' h2 a Z (I.call h2) ((I.call h2).sel m)⟩⟩
theorem VK (i : Nat) (m : Sel fs gs) {f : FuncId} {xs : Array Operand} {ts : Array TypeId} {vs : List Value} {V : Option Addr → Nat → Value} {l sz : Nat} {e : TypeId} {ys : List Value} (h0 : opW ops σ n i = some (d, .call { callee := .value (.func f), args := xs, argTypes := ts }) := by exact rfl) (hv : looks σ xs.toList = some vs := by exact rfl) (h : Mem W w fs → Calls P f vs.toArray w (fun r w' => (∃ A c, r = .returned (V A c) ∧ w'.ownsRow w.heap.size e sz (.slice A l c) l ys ∧ l ≤ c) ∧ Below w.heap.size w w')) (hf : callable P f = true := by kernel_rfl) (hr : Region.ready md ops listed = [i] := by kernel_rfl)
 (k : ∀ A c w', l ≤ c → VV W w' n D ((d, V A c) :: σ) (.row (.slice A l c) l ys e sz :: fs) gs (qh P md ops Q (fun wS => Mem W wS gs) ex fuel (listed.setIfInBounds i true))) : VV W w n D σ fs gs (qh P md ops Q (fun wS => Mem W wS gs) ex (fuel + 1) listed) :=
 VV.eff h0 hr fun _ _ he hd hdn Z I => qgv Z he hv hf hd hdn (h I) fun r w' ⟨⟨A, c, h1, h2, h3⟩, h4⟩ => ⟨_, h1, fun a Z => ⟨fun _ => (I.callRow h4 h2).sel (.f m), k A c w' h3 a Z (I.callRow h4 h2) ((I.callRow h4 h2).sel (.f m))⟩⟩
end
end Go.Proofs.YtcajpeiobkcliaaGreatDoor
