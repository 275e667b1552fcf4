/- A part of the proof. -/
import Derived.Test.YtpklccgmjhikeaaGreatDoorQaCod7
import Derived.Test.YtpklccgmjhikeaaGreatDoorQaRnd
namespace Go.Proofs.YtpklccgmjhikeaaGreatDoor
open Go.RowKit
theorem ei_ev : EI Tryz.prog 58 35 (.agg Ev.zero.cells) 11 80 := ⟨by kernel_rfl, by kernel_rfl, rfl, by omega⟩
def joinE (es : List Ev) (a : Nat) (q : List Ev × Nat × Nat) : List Ev × Nat × Nat := if q.2.2 ≠ 0 then ([], 0, q.2.2) else (es ++ q.1, a + q.2.1, 0)
theorem qmj {cpu j : Nat} {bk : Bs} {p : Option Ev} {lk : List Nat} {e : Ev} {mm er : Nat} (hq : takeR bk cpu lk = (e, mm, er)) (h : er ≠ 0) (es : List Ev) (a : Nat) : joinE es a (qq cpu (j + 1) bk p lk) = ([], 0, er) := by
 have e1 : qq cpu (j + 1) bk p lk = ([], 0, er) := by rw [qq, hq, if_pos h]
 rw [e1]; unfold joinE; rw [if_pos h]
theorem qjx {cpu j : Nat} {bk : Bs} {p : Option Ev} {lk : List Nat} {e : Ev} {mm : Nat} (hq : takeR bk cpu lk = (e, mm, 0)) (hp : p.any (fun q => decide (e.seq = q.seq)) = true) (es : List Ev) (a : Nat) : joinE es a (qq cpu (j + 1) bk p lk) = ([], 0, 71) := by
 have e1 : qq cpu (j + 1) bk p lk = ([], 0, 71) := by rw [qq, hq, if_neg (by simp), if_pos hp]
 rw [e1]; rfl
theorem qgw {cpu j : Nat} {bk : Bs} {p : Option Ev} {lk : List Nat} {e : Ev} {mm : Nat} (hq : takeR bk cpu lk = (e, mm, 0)) (hp : p.any (fun q => decide (e.seq = q.seq)) = false) (es : List Ev) (a : Nat) : joinE es a (qq cpu (j + 1) bk p lk) = joinE (es ++ [e]) (a + mm) (qq cpu j e.at (some e) (lk.drop mm)) := by
 rw [qq, hq, if_neg (by simp), if_neg (by simp [hp])]
 simp only
 by_cases h : (qq cpu j e.at (some e) (lk.drop mm)).2.2 = 0
 ·rw [if_neg (by omega)]; unfold joinE; rw [if_neg (by simp), if_neg (by omega)]; simp; omega
 ·rw [if_pos h]; unfold joinE; rw [if_pos h, if_pos h]
theorem qrg (cpu : Nat) : ∀ (j : Nat) (b : Bs) (p : Option Ev) (l : List Nat), (qq cpu j b p l).2.2 ≠ 0 → qq cpu j b p l = ([], 0, (qq cpu j b p l).2.2)
 | 0, _, _, _, h => absurd rfl h
 | j + 1, b, p, l, h => by
  rw [qq] at h ⊢
  split
  ·rfl
  ·split
   ·rfl
   ·split
    ·rfl
    ·rename_i h1 h2 h3
     rw [if_neg h1, if_neg h2, if_neg h3] at h
     exact absurd rfl h
theorem qmk (cpu j : Nat) (b : Bs) (p : Option Ev) (l : List Nat) : joinE [] 0 (qq cpu j b p l) = qq cpu j b p l := by
 unfold joinE
 by_cases h : (qq cpu j b p l).2.2 = 0
 ·rw [if_neg (by omega)]
  generalize qq cpu j b p l = q at *
  obtain ⟨x, y, z⟩ := q
  simp only at h
  simp [h]
 ·rw [if_pos h]; exact (qrg cpu j b p l h).symm
structure ReadAt (w : World) (o m : Nat) (es : List Ev) (a : Nat) (W : World) (v : Value) : Prop where
 out : OutBox o 58 (o + 5) 35 11 (fun g => o + 5 ≤ g) es.length (es.flatMap evL) W v
 at' : W.heap[o + 1]? = some (.cells #[.int .i64 (a : Int)] 3 (0, 0))
 num : W.heap[w.heap.size + 1]? = some (.cells #[.int .i64 (m : Int)] 3 (0, 0))
 r8 : W.heap[w.heap.size + 1 + 1]? = some (.cells #[.slice none 0 0] 58 (0, 0))
 r9 : W.heap[w.heap.size + 1 + 1 + 1]? = some (.cells #[.int .i64 0] 3 (0, 0))
 r10 : W.heap[w.heap.size + 1 + 1 + 1 + 1]? = some (.cells #[.int .i64 0] 45 (0, 0))
 below : Below w.heap.size w W
 size : o + 5 ≤ W.heap.size
 wo : w.heap.size + 5 ≤ o
def ReadT (w : World) (o : Nat) (W : World) (b : Nat) : Prop := OutT o 58 W b ∨ b = o + 1 ∨ b = w.heap.size + 1 + 1 ∨ b = w.heap.size + 1 + 1 + 1 ∨ b = w.heap.size + 1 + 1 + 1 + 1
def ReadJ (w : World) (o m cpu : Nat) (b : Bs) (l : List Nat) (k : Nat) (W : World) : Prop :=
 ∃ (es : List Ev) (a f : Nat) (bk : Bs) (lk : List Nat) (v : Value), es.length = k ∧ ReadAt w o m es a W v ∧ (qcj (l.length + 1) b cpu l).drop k = qcj (f + 1) bk cpu lk ∧ lk.length < f + 1 ∧ k + lk.length ≤ l.length ∧ k < m ∧ a + lk.length ≤ l.length ∧
  qq cpu m b none l = joinE es a (qq cpu (m - k) bk es.getLast? lk)
structure ReadEnd (w : World) (o m cpu : Nat) (b : Bs) (l : List Nat) (er : Nat) (W : World) : Prop where
 r8 : W.heap[w.heap.size + 1 + 1]? = some (.cells #[.slice none 0 0] 58 (0, 0))
 r9 : W.heap[w.heap.size + 1 + 1 + 1]? = some (.cells #[.int .i64 0] 3 (0, 0))
 r10 : W.heap[w.heap.size + 1 + 1 + 1 + 1]? = some (.cells #[.int .i64 (er : Int)] 45 (0, 0))
 below : Below w.heap.size w W
 size : o + 5 ≤ W.heap.size
 said : qq cpu m b none l = ([], 0, er)
def qp3 (w : World) (o m cpu : Nat) (b : Bs) (l : List Nat) : Code → Nat → World → Prop
 | .exit 0, _, W => ∃ es a v, ReadAt w o m es a W v ∧ a ≤ l.length ∧ qq cpu m b none l = (es, a, 0)
 | .ret, _, W => ∃ er, ReadEnd w o m cpu b l er W
 | _, _, _ => False
theorem qy {B : Nat} {a w : World} (h : Below B a w) {b o : Nat} (hb : B ≤ b) (v : Value) : Below B a (w.setCell ⟨b, o, none⟩ v) := h.setCell (p := ⟨b, o, none⟩) hb v
theorem qc {w : World} {b o k : Nat} (h : k ≠ b) (v : Value) : (w.setCell ⟨b, o, none⟩ v).heap[k]? = w.heap[k]? := Below.heap_setCell w ⟨b, o, none⟩ v k h
section
variable {w : World} {o m cpu : Nat} {es : List Ev} {a : Nat} {W W' : World} {v : Value} {B : Nat} {S : List Nat}
theorem ReadAt.keep (h : ReadAt w o m es a W v) (hk : Keep B S W W') (hB : w.heap.size ≤ B) (hS : ∀ g ∈ S, o + 2 ≤ g ∧ g < o + 5) : ReadAt w o m es a W' v := by
 have hwo := h.wo
 have n1 : ∀ x, x < o + 2 → x ∉ S := fun x hx hm => by have := hS x hm; omega
 refine ⟨h.out.keep hk (n1 _ (by omega)) (fun g hg hm => by have := hS g hm; omega), hk.obj _ _ h.at' rfl (n1 _ (by omega)), hk.obj _ _ h.num rfl (n1 _ (by omega)), hk.obj _ _ h.r8 rfl (n1 _ (by omega)), hk.obj _ _ h.r9 rfl (n1 _ (by omega)), hk.obj _ _ h.r10 rfl (n1 _ (by omega)), h.below.trans (hk.below hB (fun k hk' => by have := hS k hk'; omega)), by have := hk.size; have := h.size; omega, hwo⟩
theorem ReadAt.tkeep (h : ReadAt w o m es a W v) (hk : Keep B S W W') (hS : ∀ g ∈ S, o + 2 ≤ g ∧ g < o + 5) : ∀ b, ReadT w o W' b → ReadT w o W b := fun b hb => by
 rcases hb with hb | hb
 ·exact .inl (h.out.tkeep hk (fun hm => by have := hS _ hm; omega) b hb)
 ·exact .inr hb
theorem ReadAt.tdatum (h : ReadAt w o m es a W v) : ∀ b, ReadT w o W b → ∃ x, W.heap[b]? = some x ∧ datum x = true := fun b hb => by
 rcases hb with hb | rfl | rfl | rfl | rfl
 ·exact h.out.tdatum b hb
 ·exact ⟨_, h.at', rfl⟩
 ·exact ⟨_, h.r8, rfl⟩
 ·exact ⟨_, h.r9, rfl⟩
 ·exact ⟨_, h.r10, rfl⟩
theorem ReadEnd.keep {b : Bs} {l : List Nat} {er : Nat} (h : ReadEnd w o m cpu b l er W) (hk : Keep B S W W') (hB : w.heap.size ≤ B) (hS : ∀ g ∈ S, w.heap.size + 5 ≤ g) : ReadEnd w o m cpu b l er W' := by
 have n1 : ∀ x, x < w.heap.size + 5 → x ∉ S := fun x hx hm => by have := hS x hm; omega
 exact ⟨hk.obj _ _ h.r8 rfl (n1 _ (by omega)), hk.obj _ _ h.r9 rfl (n1 _ (by omega)), hk.obj _ _ h.r10 rfl (n1 _ (by omega)), h.below.trans (hk.below hB (fun k hk' => by have := hS k hk'; omega)), by have := hk.size; have := h.size; omega, h.said⟩
theorem ReadAt.drew (h : ReadAt w o m es a W v) : ReadAt w o m es a W.drew v :=
 ⟨⟨h.out.box, h.out.row, h.out.good⟩, h.at', h.num, h.r8, h.r9, h.r10, h.below.drew, h.size, h.wo⟩
theorem ReadAt.chg (h : ReadAt w o m es a W v) (hk : Chg [] W W') : ReadAt w o m es a W' v := by
 have hz := h.below.size
 exact h.keep (B := w.heap.size) (S := []) (hk.keep hz) (Nat.le_refl _) (by simp)
def retW (w : World) (er : Nat) (W : World) : World :=
 ((W.setCell ⟨w.heap.size + 1 + 1, 0, none⟩ (.slice none 0 0)).setCell ⟨w.heap.size + 1 + 1 + 1, 0, none⟩ (.int .i64 0)).setCell ⟨w.heap.size + 1 + 1 + 1 + 1, 0, none⟩ (.int .i64 (er : Int))
theorem ReadAt.ret {b : Bs} {l : List Nat} {er : Nat} (h : ReadAt w o m es a W v) (hs : qq cpu m b none l = ([], 0, er)) :
  ChgT (ReadT w o) W (retW w er W) ∧ ReadEnd w o m cpu b l er (retW w er W) ∧ (∀ W4, Keep B S (retW w er W) W4 → (∀ g ∈ S, o + 2 ≤ g ∧ g < o + 5) → ∀ b, ReadT w o W4 b → ReadT w o (retW w er W) b) := by
 have hwo := h.wo
 have hsz := h.size
 have hc : Chg [w.heap.size + 1 + 1, w.heap.size + 1 + 1 + 1, w.heap.size + 1 + 1 + 1 + 1] W (retW w er W) := by
  unfold retW
  exact (((Chg.refl _ W).setCell (.inl (by simp)) _).setCell (.inl (by simp)) _).setCell (.inl (by simp)) _
 have hout : OutBox o 58 (o + 5) 35 11 (fun g => o + 5 ≤ g) es.length (es.flatMap evL) (retW w er W) v := h.out.chg hc (by simp; omega) (fun g hg => by have := h.out.good g hg; simp; omega)
 refine ⟨⟨hc.os, hc.tape, hc.output, hc.size, fun k hk hT => hc.block k hk (fun hm => hT ?_), fun k hT => ?_⟩, ⟨?_, ?_, ?_, ?_, ?_, hs⟩, fun W4 hk hS b hb => ?_⟩
 ·simp at hm
  rcases hm with rfl | rfl | rfl
  ·exact .inr (.inr (.inl rfl))
  ·exact .inr (.inr (.inr (.inl rfl)))
  ·exact .inr (.inr (.inr (.inr rfl)))
 ·rcases hT with hT | hT
  ·rcases (hout.tlist k).1 hT with rfl | hv
   ·exact .inl (.inl (.inl rfl))
   ·exact .inl (.inl ((h.out.tlist k).2 (.inr hv)))
  ·exact .inl (.inr hT)
 ·unfold retW
  rw [qc (by omega), qc (by omega)]
  exact qf h.r8 _
 ·unfold retW
  rw [qc (by omega)]
  exact qf (by rw [qc (by omega)]; exact h.r9) _
 ·unfold retW
  exact qf (by rw [qc (by omega), qc (by omega)]; exact h.r10) _
 ·unfold retW
  exact qy (qy (qy h.below (by omega) _) (by omega) _) (by omega) _
 ·have := hc.size; omega
 ·rcases hb with hb | hb
  ·exact .inl (hout.tkeep hk (fun hm => by have := hS _ hm; omega) b hb)
  ·exact .inr hb
def pushW (o : Nat) (V : Value) (a : Nat) (w1 : World) : World := (w1.setCell ⟨o, 0, none⟩ V).setCell ⟨o + 1, 0, none⟩ (.int .i64 (a : Int))
theorem ReadAt.push {e : Ev} {mm : Nat} {A' : Option Addr} {c' : Nat} {w0 w1 : World} (h : ReadAt w o m es a W v) (h0 : Chg [] W w0) (hg : w0.grownBy w1 v.ownBlock)
  (hown : w1.ownsRow (o + 5) 35 11 (.slice A' (es.length + 1) c') (es.length + 1) (es.flatMap evL ++ evL e)) (hb : (Value.slice A' (es.length + 1) c').ownBlock = v.ownBlock ∨ (Value.slice A' (es.length + 1) c').ownBlock = some w0.heap.size) :
  ReadAt w o m (es ++ [e]) (a + mm) (pushW o (.slice A' (es.length + 1) c') (a + mm) w1) (.slice A' (es.length + 1) c') ∧ ChgT (ReadT w o) W (pushW o (.slice A' (es.length + 1) c') (a + mm) w1) := by
 have hwo := h.wo
 have hsz := h.size
 have hsz0 := h0.size
 have hsz1 := hg.size
 have hvg := h.out.good
 have hne : v.ownBlock ≠ some o := fun e => by have := hvg _ e; omega
 have hst := h.out.store h0 hg hne hown hb (fun g hg => by omega)
 have hown2 := hown.lt
 have far : ∀ x y, x < o + 5 → x ≠ o → x ≠ o + 1 → W.heap[x]? = some y → (pushW o (.slice A' (es.length + 1) c') (a + mm) w1).heap[x]? = some y := fun x y h1 h2 h3 hy => by
  unfold pushW
  rw [qc h3, qc h2, hg.block x (by have := zt hy; omega) (fun e => by have := hvg x e.symm; omega)]
  exact h0.same hy (by simp)
 have hpw : (w1.setCell ⟨o, 0, none⟩ (.slice A' (es.length + 1) c')).heap.size = w1.heap.size := by simp [World.setCell]
 have hch : Chg [o + 1] (w1.setCell ⟨o, 0, none⟩ (.slice A' (es.length + 1) c')) (pushW o (.slice A' (es.length + 1) c') (a + mm) w1) := by
  unfold pushW; exact (Chg.refl _ _).setCell (.inl (by simp)) _
 have hout := hst.1.chg hch (by simp) (fun g hg' => by have := (hown2 g hg').1; simp; omega)
 have hv2 : ∀ g, (Value.slice A' (es.length + 1) c').ownBlock = some g → o + 5 ≤ g := fun g hg' => (hown2 g hg').1
 refine ⟨⟨⟨hout.box, ?_, hout.good⟩, ?_, far _ _ (by omega) (by omega) (by omega) h.num, far _ _ (by omega) (by omega) (by omega) h.r8, far _ _ (by omega) (by omega) (by omega) h.r9, far _ _ (by omega) (by omega) (by omega) h.r10, ?_, ?_, hwo⟩, ?_⟩
 ·have := hout.row
  rw [List.length_append, List.flatMap_append]
  simpa using this
 ·unfold pushW
  refine qf (x := .int .i64 (a : Int)) ?_ _
  rw [qc (by omega), hg.block (o + 1) (by omega) (fun e => by have := hvg _ e.symm; omega)]
  exact h0.same h.at' (by simp)
 ·have hb1 : Below w.heap.size w w0 := h.below.trans ((Chg.below h0).mono h.below.size)
  have hb2 := hb1.grown hg (by have := h.below.size; omega) (fun g hg' => by have := hvg g hg'; omega)
  unfold pushW
  exact qy (qy hb2 (by omega) _) (by omega) _
 ·unfold pushW; simp [World.setCell]; omega
 ·have hc := hst.2
  refine ⟨hch.os.trans hc.os, hch.tape.trans hc.tape, hch.output.trans hc.output, Nat.le_trans hc.size hch.size, fun k hk hT => ?_, fun k hT => ?_⟩
  ·rw [hch.block k (by have := hc.size; omega) (fun hm => hT (.inr (.inl (by simpa using hm))))]
   exact hc.block k hk (fun h' => hT (.inl h'))
  ·rcases hT with hT | hT
   ·rcases (hout.tlist k).1 hT with rfl | hv
    ·exact .inl (.inl (.inl rfl))
    ·rcases hc.own k ((hst.1.tlist k).2 (.inr hv)) with h1 | h1
     ·exact .inl (.inl h1)
     ·exact .inr h1
   ·exact .inl (.inr hT)
end
theorem qak {W w1 : World} {X : Obj} {row : Option Nat} (hg : (W.alloc X).drew.grownBy w1 row) {y : Nat} {obj : Obj} (hy : W.heap[y]? = some obj) (hne : row ≠ some y) : w1.heap[y]? = some obj :=
 (hg.block y (by have := zt hy; show y < (W.alloc X).heap.size; simp; omega) (fun e => hne e.symm)).trans ((Below.heap_alloc W X y (zt hy)).trans hy)
theorem qzs {W : World} {base size n : Nat} {e t : TypeId} {v : Value} {xs : List Value} {x : Nat} {C : Array Value} {fr : Nat × Nat} (h : W.ownsRow base e size v n xs) (hx : W.heap[x]? = some (.cells C t fr)) (ht : t ≠ e) : v.ownBlock ≠ some x := by
 intro he
 rcases h.2 with ⟨rfl, _⟩ | ⟨g, cap, cur, rfl, _, hg, _⟩
 ·cases he
 ·injection he with he
  have he' : g = x := he
  subst he'
  rw [hg] at hx
  injection hx with hx
  injection hx with _ h2 _
  exact ht h2.symm
theorem Rd.block (w : World) (cs : List Value) (t : TypeId) (sz : Nat) (hs : cs.length = sz) : Rd (w.alloc (.cells cs.toArray t)).drew (w.heap.size + 1) sz (some ⟨w.heap.size, 0, none⟩) 1 cs :=
 ⟨by omega, fun _ => ⟨_, rfl, by show w.heap.size < w.heap.size + 1; omega, fun j u hu => by
  rw [Addr.add_mid, Nat.zero_add, World.cell?_drew, World.cell?_alloc_new]
  simpa using hu⟩⟩
end Go.Proofs.YtpklccgmjhikeaaGreatDoor
