/- Parts. -/
import Derived.Test.YtannicghedpdpaaGreatQsChv
import Derived.Test.YtannicghedpdpaaGreatQsZ1
set_option linter.all false
set_option maxRecDepth 100000
set_option maxHeartbeats 1000000
namespace Go.Proofs.YtannicghedpdpaaGreat
open Go.RowKit
section
variable {s : Sta} {g c i d : Nat} {z : Sp} {t t' : Tk} {e : En} {o : Op30}
theorem qrq (h : Shp s) (hg : g < s.gs.length) : ∃ w : Nat, (s.gs.getD g Gr.zero).weight = (w : Int) ∧ 1 ≤ w ∧ w ≤ 65536 := qbu h.gs hg
theorem qua (h0 : 0 < g) (h : entOk z.v z.r (s.gs.getD g Gr.zero).weight = true) : spOk s g z = true := by
 unfold spOk
 rw [h, show (g != 0) = true from bne_iff_ne.2 om]
 rfl
theorem qub (h : Shp s) (hg : g < s.sp.length) (hc : (c : Int) < s.cpus) : entOk (s.spot g c).v (s.spot g c).r (s.gs.getD g Gr.zero).weight = true := by
 have := h.spots g c hg hc
 unfold spOk at this
 rw [Bool.and_eq_true] at this
 exact this.1
theorem qrr (h : Shp s) (hg : g < s.sp.length) (hc : (c : Int) < s.cpus) : (s.spEn g c).Ok ∧ ((s.spEn g c).w : Int) = (s.gs.getD g Gr.zero).weight := by
 obtain ⟨w, hw, _⟩ := qrq h (g := g) (by rw [← h.sp]; exact hg)
 have h1 := qub h hg hc
 have e : s.spEn g c = ⟨(s.spot g c).v, (s.spot g c).r, w⟩ := by unfold Sta.spEn; rw [hw]; rfl
 rw [e]
 exact ⟨En.qdf h1 hw (qb5 h.ok g c).v, hw.symm⟩
theorem ent_r {v r w : Nat} (h : entOk v r w = true) : r < 65536 := by
 unfold entOk at h
 rw [decide_eq_true_eq] at h
 omega
theorem Shp.run (h : Shp s) (h0 : 0 < g) (hg : g < s.sp.length) (hc : (c : Int) < s.cpus) (he : e.Ok) (hw : (e.w : Int) = (s.gs.getD g Gr.zero).weight) : Shp (s.qft g c e) := by
 refine h.spot hg hc ⟨he.2, ?_, (qb5 h.ok g c).floor⟩ (qua h0 ?_)
 ·show e.r < _
  have := ent_r he.1
  omega
 ·show entOk e.v e.r _ = true
  rw [← hw]; exact he.1
theorem qrs : (s.qft g c e).sp.length = s.sp.length := qbi
theorem Shp.wake (h : Shp s) (hc : (c : Int) < s.cpus) : ∀ (l : List Nat), (∀ g ∈ l, 0 < g ∧ g < s.sp.length) → Shp (wakeS s l c) := by
 intro l
 induction l generalizing s with
 | nil => intro _; exact h
 | cons g r ih =>
  intro hl
  have hg := hl g (List.mem_cons_self ..)
  have h1 := qrr h hg.2 hc
  have h2 := En.qdd h1.1 (s.spot (s.par g).toNat c).floor s.credit (qb5 h.ok _ _).floor
  have h3 : Shp (wake1 c s g) := h.run hg.1 hg.2 hc h2.1 (by rw [h2.2]; exact h1.2)
  exact ih (s := wake1 c s g) h3 hc fun g' hg' => ⟨(hl g' (List.mem_cons_of_mem _ hg')).1, by rw [show (wake1 c s g).sp.length = s.sp.length from qrs]; exact (hl g' (List.mem_cons_of_mem _ hg')).2⟩
structure SameBut (s s' : Sta) : Prop where
 cpus : s'.cpus = s.cpus
 credit : s'.credit = s.credit
 gs : s'.gs = s.gs
 cl : s'.cl = s.cl
 cu : s'.cu = s.cu
 ts : s'.ts = s.ts
 len : s'.sp.length = s.sp.length
 row : ∀ g, (s'.sp.getD g []).length = (s.sp.getD g []).length
theorem SameBut.refl (s : Sta) : SameBut s s := ⟨rfl, rfl, rfl, rfl, rfl, rfl, rfl, fun _ => rfl⟩
theorem SameBut.trans {a b c : Sta} (h : SameBut a b) (k : SameBut b c) : SameBut a c := ⟨k.cpus.trans h.cpus, k.credit.trans h.credit, k.gs.trans h.gs, k.cl.trans h.cl, k.cu.trans h.cu, k.ts.trans h.ts, k.len.trans h.len, fun g => (k.row g).trans (h.row g)⟩
theorem SameBut.spot : SameBut s (s.qde g c z) := ⟨rfl, rfl, rfl, rfl, rfl, rfl, qbi, qgp⟩
theorem qep (c : Nat) : ∀ (l : List Nat) (s : Sta), SameBut s (wakeS s l c)
 | [], s => SameBut.refl s
 | g :: r, s => (SameBut.spot (s := s)).trans (qep c r (wake1 c s g))
theorem qgq (c d : Nat) : ∀ (f g : Nat) (s : Sta), SameBut s (z9 c d f g s)
 | 0, _, s => SameBut.refl s
 | f + 1, g, s => by
  rw [z9]
  split
  ·exact SameBut.refl s
  ·exact (SameBut.spot (s := s)).trans (qgq c d f _ _)
theorem Shp.charge (h : Shp s) (hc : (c : Int) < s.cpus) (d : Nat) : ∀ (f g : Nat), g < s.sp.length → Shp (z9 c d f g s) := by
 intro f
 induction f generalizing s with
 | zero => intro g _; exact h
 | succ f ih =>
  intro g hg
  rw [z9]
  split
  ·exact h
  ·rename_i h0
   have h1 := qrr h hg hc
   have h2 := En.qig h1.1 d
   have h3 : Shp (s.qft g c ((s.spEn g c).add d)) := h.run om hg hc h2.1 (by rw [h2.2]; exact h1.2)
   have hp := qac h.gs (g := g) (by rw [← h.sp]; exact hg) g om (Nat.le_refl _)
   unfold ParB at hp
   exact ih (s := s.qft g c ((s.spEn g c).add d)) h3 hc _ (by rw [qrs]; show (s.gs.getD g Gr.zero).parent.toNat < _; omega)
theorem qiu (hg : g < s.sp.length) : (riseS s).sp.getD g [] = (s.sp.getD g []).mapIdx fun c x => rise1 s g c x := by
 unfold riseS
 dsimp only
 rw [List.getD_eq_getElem?_getD, List.getElem?_mapIdx, List.getElem?_eq_getElem hg, List.getD_eq_getElem?_getD, List.getElem?_eq_getElem hg]
 rfl
theorem qbn : (riseS s).sp.length = s.sp.length := by unfold riseS; dsimp only; rw [List.length_mapIdx]
theorem qiv (g : Nat) : ((riseS s).sp.getD g []).length = (s.sp.getD g []).length := by
 rcases Nat.lt_or_ge g s.sp.length with h | h
 ·rw [qiu h, List.length_mapIdx]
 ·rw [List.getD_eq_getElem?_getD, List.getElem?_eq_none (by rw [qbn]; exact h), List.getD_eq_getElem?_getD, List.getElem?_eq_none h]
theorem qko (hg : g < s.sp.length) (hc : c < (s.sp.getD g []).length) : (riseS s).spot g c = rise1 s g c (s.spot g c) := by
 unfold Sta.spot
 rw [qiu hg, List.getD_eq_getElem?_getD (l := List.mapIdx _ _), List.getElem?_mapIdx, List.getElem?_eq_getElem hc, List.getD_eq_getElem?_getD (l := s.sp.getD g []), List.getElem?_eq_getElem hc]
 rfl
theorem qrt (g c : Nat) : ((riseS s).spot g c).v = (s.spot g c).v ∧ ((riseS s).spot g c).r = (s.spot g c).r := by
 rcases Nat.lt_or_ge g s.sp.length with hg | hg
 ·rcases Nat.lt_or_ge c (s.sp.getD g []).length with hc | hc
  ·rw [qko hg hc]; exact qra ..
  ·unfold Sta.spot
   rw [List.getD_eq_getElem?_getD (l := (riseS s).sp.getD g []), List.getElem?_eq_none (by rw [qiv]; exact hc), List.getD_eq_getElem?_getD (l := s.sp.getD g []), List.getElem?_eq_none hc]
   exact ⟨rfl, rfl⟩
 ·unfold Sta.spot
  rw [List.getD_eq_getElem?_getD (l := (riseS s).sp), List.getElem?_eq_none (by rw [qbn]; exact hg), List.getD_eq_getElem?_getD (l := s.sp), List.getElem?_eq_none hg]
  exact ⟨rfl, rfl⟩
theorem qxx (hok : s.Ok) (hn : memS s g c ≠ []) : (bestM topM (memS s g c)).v < 18446744073709551616 := by
 rcases qc5 (qly hok hn) with ⟨t, ht, _, h2⟩ | ⟨h, _, _, _, _, h5⟩
 ·rw [h2]; exact (hok.ts t ht).v
 ·rw [h5]; exact (qb5 hok h c).v
theorem quc (hok : s.Ok) (hz : z.Ok) : (rise1 s g c z).Ok := by
 unfold rise1
 split
 ·exact hz
 ·rename_i hn
  have := qxx hok (show memS s g c ≠ [] by simpa using hn)
  refine ⟨hz.v, hz.r, ?_⟩
  show max z.floor (bestM topM (memS s g c)).v < _
  have := hz.floor
  rw [Nat.max_def]
  split <;> omega
theorem qwk {s s' : Sta} (hgs : s'.gs = s.gs) {z z' : Sp} (hv : z'.v = z.v) (hr : z'.r = z.r) : spOk s' g z' = spOk s g z := by
 unfold spOk
 rw [hgs, hv, hr]
theorem Shp.rise (h : Shp s) : Shp (riseS s) := by
 refine ⟨⟨h.ok.cpus, h.ok.credit, h.ok.gs, h.ok.cl, h.ok.cu, h.ok.ts, fun l hl y hy => ?_⟩, h.cpus, h.credit, h.gs, h.cl, h.cu, qbn.trans h.sp, h.cls, fun g hg => ?_, fun g c hg hc => ?_, h.sort, fun u hu => ?_⟩
 ·obtain ⟨g, hg, rfl⟩ := z4 [] hl
  rw [qbn] at hg
  rw [qiu hg] at hy
  obtain ⟨c, hc, rfl⟩ := List.getElem_of_mem hy
  rw [List.getElem_mapIdx]
  exact quc h.ok (h.ok.sp _ (qf [] hg) _ (List.getElem_mem _))
 ·rw [qiv]; exact h.rows g (by rwa [qbn] at hg)
 ·rw [qbn] at hg
  have e := qwk (s := s) (s' := riseS s) (g := g) rfl (qrt (s := s) g c).1 (qrt (s := s) g c).2
  rw [e]
  exact h.spots g c hg hc
 ·rw [qbn]; exact h.tasks u hu
theorem GoodS.rise (h : GoodS s) : GoodS (riseS s) := ⟨h.sh.rise, h.cur⟩
theorem qgr (h : Shp s) (ht : s.ts[i]? = some t) : TkGood t s.cpus s.sp.length ∧ t.Ok := ⟨h.tasks t (List.mem_of_getElem? ht), h.ok.ts t (List.mem_of_getElem? ht)⟩
theorem qf0 (hg : TkGood t s.cpus s.sp.length) (ho : t.Ok) (he : e.Ok) : TkGood (t.put e) s.cpus s.sp.length ∧ (t.put e).Ok := by
 have h1 := he.1
 unfold entOk at h1
 rw [decide_eq_true_eq] at h1
 refine ⟨⟨hg.id, hg.group, hg.cpu, ⟨h1.1, h1.2.1⟩, hg.mask, hg.bit, he.1⟩, ⟨ho.id, ho.group, ?_, ho.cpu, ho.mask, he.2, ?_⟩⟩
 ·show I64 ((e.w : Nat) : Int); unfold I64; omega
 ·show e.r < _; omega
theorem qh2 (hg : TkGood t s.cpus s.sp.length) (ho : t.Ok) (b : Bool) : TkGood { t with ready := b } s.cpus s.sp.length ∧ ({ t with ready := b } : Tk).Ok := ⟨⟨hg.id, hg.group, hg.cpu, hg.weight, hg.mask, hg.bit, hg.ent⟩, ⟨ho.id, ho.group, ho.weight, ho.cpu, ho.mask, ho.v, ho.r⟩⟩
theorem qiw (hg : TkGood t s.cpus s.sp.length) (ho : t.Ok) : t.en.Ok ∧ (t.en.w : Int) = t.weight := by
 have h1 := hg.weight
 have e : t.en = ⟨t.v, t.r, t.weight.toNat⟩ := rfl
 rw [e]
 exact ⟨En.qdf hg.ent om ho.v, by show ((t.weight.toNat : Nat) : Int) = t.weight; omega⟩
theorem qix {id : Int} (h : ¬ fidx s.ts id < 0) : ∃ (k : Nat) (t : Tk), fidx s.ts id = (k : Int) ∧ s.ts[k]? = some t ∧ t.id = id ∧ tkOf s id = t := by
 obtain ⟨k, t, h1, h2, _, h3⟩ := qco h
 exact ⟨k, t, h1, h2, h3, qao h1 h2⟩
theorem qe7 (h : Shp s) (hg : g < s.sp.length) : ∀ k ∈ zh s g c, 0 < k ∧ k < s.sp.length := fun k hk => by
 have := qhu (s := s) (c := c) (g := g) (qac h.gs (by rw [← h.sp]; exact hg)) k hk
 exact ⟨this.1, by omega⟩
theorem CurS.but {s s' : Sta} (h : CurS s) (hb : SameBut s s') : CurS s' := by
 unfold CurS
 rw [hb.cu, hb.ts]
 exact h
theorem qou (h : GoodS s) (he : (qce s o).2.2 = 0) : GoodS (qce s o).1 := by
 unfold qce at he ⊢
 split at he
 ·cases he
 ·split at he
  ·cases he
  ·rename_i h1 h2
   rw [if_neg h1, if_neg h2]
   split at he
   ·cases he
   ·rename_i h3
    rw [if_neg h3]
    obtain ⟨k, t, hk, ht, hid, htk⟩ := qix h2
    rw [htk] at h3
    simp only [htk, hk, Int.toNat_natCast]
    obtain ⟨hg, ho⟩ := qgr h.sh ht
    have hgl : t.group.toNat < s.sp.length := by have := hg.group; omega
    have hen := qiw hg ho
    have hw := En.qdd hen.1 (s.spot t.group.toNat t.cpu.toNat).floor s.credit (qb5 h.sh.ok _ _).floor
    have hp := qf0 hg ho hw.1
    have hr := qh2 hp.1 hp.2 true
    have hs1 : Shp (s.setT k { t.put (t.en.woken (s.spot t.group.toNat t.cpu.toNat).floor s.credit) with ready := true }) := h.sh.task ht rfl hr.2 hr.1
    have hc1 : CurS (s.setT k { t.put (t.en.woken (s.spot t.group.toNat t.cpu.toNat).floor s.credit) with ready := true }) := h.cur.task h.sh.sort ht rfl fun hh _ => absurd hh h3
    exact ⟨hs1.wake (by show ((t.cpu.toNat : Nat) : Int) < s.cpus; have := hg.cpu; omega) _ (qe7 h.sh hgl), hc1.but (qep ..)⟩
theorem qiy (h : GoodS s) (he : (zx s o).2.2 = 0) : GoodS (zx s o).1 := by
 unfold zx at he ⊢
 split at he
 ·cases he
 ·split at he
  ·cases he
  ·rename_i h1 h2
   rw [if_neg h1, if_neg h2]
   split at he
   ·cases he
   ·rename_i h3
    rw [if_neg h3]
    obtain ⟨k, t, hk, ht, hid, htk⟩ := qix h3
    simp only [htk, hk, Int.toNat_natCast]
    obtain ⟨hg, ho⟩ := qgr h.sh ht
    have hw : 1 ≤ o.weight ∧ o.weight ≤ 65536 := by simpa [wOk] using h2
    obtain ⟨z, hz⟩ : ∃ z : Nat, o.weight = (z : Int) := ⟨o.weight.toNat, by omega⟩
    have hp := qf0 hg ho (e := ⟨t.v, 0, z⟩) ⟨by unfold entOk; rw [decide_eq_true_eq]; exact ⟨by show (1 : Int) ≤ (z : Int); omega, by show (z : Int) ≤ _; omega, by show ((0 : Nat) : Int) < (z : Int); omega, .inr rfl⟩, ho.v⟩
    have e : ({ t with r := 0, weight := o.weight } : Tk) = t.put ⟨t.v, 0, z⟩ := by rw [hz]; rfl
    rw [e]
    exact ⟨h.sh.task ht rfl hp.2 hp.1, h.cur.task h.sh.sort ht rfl fun hh _ => ⟨hh, rfl⟩⟩
theorem qwl (h : Shp s) {v : Int} (hv : 0 ≤ v ∧ v ≤ 281474976710656) : Shp { s with cl := s.cl.set c v } := by
 refine ⟨⟨h.ok.cpus, h.ok.credit, h.ok.gs, fun z hz => ?_, h.ok.cu, h.ok.ts, h.ok.sp⟩, h.cpus, h.credit, h.gs, by show ((s.cl.set c v).length : Int) = _; rw [List.length_set]; exact h.cl, h.cu, h.sp, fun d hd => ?_, h.rows, h.spots, h.sort, h.tasks⟩
 ·rcases List.mem_or_eq_of_mem_set hz with h1 | rfl
  ·exact h.ok.cl z h1
  ·unfold I64; omega
 ·have hd' : d < (s.cl.set c v).length := hd
  show clOk ((s.cl.set c v).getD d 0) = true
  rw [List.length_set] at hd'
  by_cases e : c = d
  ·subst e
   rw [qm _ _ hd']
   unfold clOk
   rw [decide_eq_true hv]
  ·rw [getD_set_ne _ _ e]
   exact h.cls d hd'
theorem qru (h : Shp s) {v : Int} (hv : I64 v) : Shp { s with cu := s.cu.set c v } := by
 refine ⟨⟨h.ok.cpus, h.ok.credit, h.ok.gs, h.ok.cl, fun z hz => ?_, h.ok.ts, h.ok.sp⟩, h.cpus, h.credit, h.gs, h.cl, by show ((s.cu.set c v).length : Int) = _; rw [List.length_set]; exact h.cu, h.sp, h.cls, h.rows, h.spots, h.sort, h.tasks⟩
 rcases List.mem_or_eq_of_mem_set hz with h1 | rfl
 ·exact h.ok.cu z h1
 ·exact hv
theorem qh3 {x : Int} (h : ¬ s.qb8 x = false) : 0 ≤ x ∧ x < s.cpus := by
 unfold Sta.qb8 at h
 simpa using h
theorem qrv (h : GoodS s) (he : (tickS s o).2.2 = 0) : GoodS (tickS s o).1 := by
 unfold tickS at he ⊢
 split at he
 ·cases he
 ·split at he
  ·cases he
  ·rename_i h1 h2
   rw [if_neg h1, if_neg h2]
   split at he
   ·cases he
   ·rename_i h3
    rw [if_neg h3]
    have hc := qh3 h1
    have hcl := h.sh.cls o.cpu.toNat (by have := h.sh.cl; omega)
    have hcl2 : 0 ≤ s.cl.getD o.cpu.toNat 0 ∧ s.cl.getD o.cpu.toNat 0 ≤ 281474976710656 := by unfold clOk at hcl; simpa using hcl
    have hs1 : Shp { s with cl := s.cl.set o.cpu.toNat (s.cl.getD o.cpu.toNat 0 + o.ticks) } := qwl h.sh ⟨by omega, by omega⟩
    dsimp only at he ⊢
    by_cases h4 : s.cu.getD o.cpu.toNat 0 = 0
    ·rw [if_pos h4]; exact ⟨hs1, h.cur⟩
    ·rw [if_neg h4]
     rcases h.cur o.cpu.toNat (by have := h.sh.cu; omega) with h5 | ⟨t, htm, hid, hr, hcp⟩
     ·exact absurd h5 h4
     ·obtain ⟨k, hk, rfl⟩ := z4 Tk.zero htm
      have hf := qro h.sh.sort hk
      have ht := getD_at Tk.zero hk
      obtain ⟨t, hte⟩ : ∃ t, s.ts.getD k Tk.zero = t := ⟨_, rfl⟩
      rw [hte] at hid hr hcp hf ht
      rw [← hid, hf, qao hf ht, Int.toNat_natCast]
      obtain ⟨hg, ho⟩ := qgr h.sh ht
      have hen := qiw hg ho
      have ha := En.qig hen.1 o.ticks.toNat
      have hp := qf0 hg ho ha.1
      have hs2 : Shp ({ s with cl := s.cl.set o.cpu.toNat (s.cl.getD o.cpu.toNat 0 + o.ticks) }.setT k (t.put (t.en.add o.ticks.toNat))) := hs1.task ht rfl hp.2 hp.1
      have hc2 : CurS ({ s with cl := s.cl.set o.cpu.toNat (s.cl.getD o.cpu.toNat 0 + o.ticks) }.setT k (t.put (t.en.add o.ticks.toNat))) := CurS.task (s := { s with cl := s.cl.set o.cpu.toNat (s.cl.getD o.cpu.toNat 0 + o.ticks) }) h.cur h.sh.sort ht rfl fun hh _ => ⟨hh, rfl⟩
      exact ⟨hs2.charge (by show ((o.cpu.toNat : Nat) : Int) < s.cpus; omega) _ _ _ (by show t.group.toNat < s.sp.length; have := hg.group; omega), hc2.but (qgq ..)⟩
theorem qud (hok : s.Ok) : ∀ (n g : Nat), g < s.sp.length → s.sp.length - g ≤ n → qcf s c g = 0 ∨ ∃ t ∈ s.ts, t.ready = true ∧ t.cpu = (c : Int) ∧ qcf s c g = t.id.toNat := by
 intro n
 induction n with
 | zero => intro g hg hn; omega
 | succ n ih =>
  intro g hg hn
  by_cases hm : memS s g c = []
  ·exact .inl (qdt hg hm)
  ·rcases qc6 hok hm with ⟨h0, t, ht, hh, hb⟩ | ⟨h1, k, hk, h2, h3, _⟩
   ·refine .inr ⟨t, ht, ?_⟩
    unfold Tk.here at hh
    rw [Bool.and_eq_true, Bool.and_eq_true, decide_eq_true_eq, decide_eq_true_eq] at hh
    refine ⟨hh.1, hh.2.2, ?_⟩
    rw [qdu hg hm h0, hb]
   ·rw [(qdv hok hg hm om).1, hk]
    exact ih k h3 om
theorem qrw (h : GoodS s) (he : (pickS s o).2.2 = 0) : GoodS (pickS s o).1 := by
 unfold pickS at he ⊢
 split at he
 ·cases he
 ·rename_i h1
  rw [if_neg h1]
  have hc := qh3 h1
  have hgl := (qo h.sh.gs).1
  have hf := qud (c := o.cpu.toNat) h.sh.ok s.sp.length 0 (by rw [h.sh.sp]; omega) om
  rw [← qq9] at hf
  have hb : I64 ((ze s o.cpu.toNat : Nat) : Int) := by
   unfold I64
   rcases hf with h2 | ⟨t, ht, _, _, h2⟩
   ·omega
   ·have := (h.sh.tasks t ht).id; omega
  refine ⟨qru h.sh hb, fun d hd => ?_⟩
  have hd' : d < s.cu.length := by have h3 : d < (s.cu.set o.cpu.toNat (ze s o.cpu.toNat : Int)).length := hd; rwa [List.length_set] at h3
  show (s.cu.set o.cpu.toNat (ze s o.cpu.toNat : Int)).getD d 0 = 0 ∨ _
  by_cases e : o.cpu.toNat = d
  ·have e2 : (s.cu.set o.cpu.toNat (ze s o.cpu.toNat : Int)).getD d 0 = (ze s o.cpu.toNat : Int) := by rw [← e]; exact qm _ _ (by rw [e]; exact hd')
   show (s.cu.set o.cpu.toNat (ze s o.cpu.toNat : Int)).getD d 0 = 0 ∨ ∃ t ∈ s.ts, t.id = (s.cu.set o.cpu.toNat (ze s o.cpu.toNat : Int)).getD d 0 ∧ _
   rw [e2]
   rcases hf with h2 | ⟨t, ht, h3, h4, h2⟩
   ·exact .inl om
   ·exact .inr ⟨t, ht, by have := (h.sh.tasks t ht).id; omega, h3, by rw [h4, e]⟩
  ·show (s.cu.set o.cpu.toNat (ze s o.cpu.toNat : Int)).getD d 0 = 0 ∨ ∃ t ∈ s.ts, t.id = (s.cu.set o.cpu.toNat (ze s o.cpu.toNat : Int)).getD d 0 ∧ _
   rw [getD_set_ne _ _ e]
   exact h.cur d hd'
end
section
variable {s : Sta} {g c i d : Nat} {t t' : Tk} {o : Op30}
theorem qh4 {l l' : List Gr} (h : ∀ g, (l.getD g Gr.zero).parent = (l'.getD g Gr.zero).parent) : ∀ f g, depF l f g = depF l' f g
 | 0, _ => rfl
 | f + 1, g => by rw [depF, depF, h g, qh4 h f]
theorem que {l : List Gr} {w : Int} (h : gsOk l = true) (h0 : 0 < g) (hg : g < l.length) (hw : wOk w = true) : gsOk (l.set g { l.getD g Gr.zero with weight := w }) = true := by
 obtain ⟨h1, h2, h3, h4⟩ := qo h
 have hp : ∀ k, ((l.set g { l.getD g Gr.zero with weight := w }).getD k Gr.zero).parent = (l.getD k Gr.zero).parent := fun k => by
  by_cases e : g = k
  ·subst e; rw [qm _ _ hg]
  ·rw [getD_set_ne _ _ e]
 unfold gsOk
 rw [List.length_set, getD_set_ne _ _ om, decide_eq_true ⟨h1, h2, h3⟩, Bool.true_and]
 refine qas fun k hk => ?_
 have := h4 k hk
 unfold gOk depG at this ⊢
 rw [hp, qh4 hp]
 by_cases e : g = k
 ·subst e
  rw [qm _ _ hg]
  rw [Bool.or_eq_true, beq_iff_eq, decide_eq_true_eq] at this ⊢
  rcases this with h5 | h5
  ·exact .inl h5
  ·exact .inr ⟨h5.1, h5.2.1, hw, h5.2.2.2⟩
 ·rw [getD_set_ne _ _ e]; exact this
theorem qkp (h : GoodS s) (he : (qad s o).2.2 = 0) : GoodS (qad s o).1 := by
 unfold qad at he ⊢
 split at he
 ·cases he
 ·split at he
  ·cases he
  ·rename_i h1 h2
   rw [if_neg h1, if_neg h2]
   obtain ⟨g, hg⟩ : ∃ g : Nat, o.group = (g : Int) := ⟨o.group.toNat, by omega⟩
   rw [hg, Int.toNat_natCast]
   have hw : wOk o.weight = true := by simpa using h2
   have hw2 : 1 ≤ o.weight ∧ o.weight ≤ 65536 := by simpa [wOk] using h2
   have hgl : g < s.sp.length := by omega
   have hgg : g < s.gs.length := by rw [← h.sh.sp]; exact hgl
   have hgr := h.sh.ok.gs _ (qf Gr.zero hgg)
   have hlen : (s.sp.set g ((s.sp.getD g []).map fun x => { x with r := 0 })).length = s.sp.length := List.length_set ..
   have hsp : ∀ k e : Nat, ((s.sp.set g ((s.sp.getD g []).map fun x => { x with r := 0 })).getD k []).getD e Sp.zero = if k = g then r0 (s.spot k e) else s.spot k e := fun k e => by
    by_cases hk : g = k
    ·subst hk
     rw [qm _ _ hgl, if_pos rfl]
     show _ = r0 ((s.sp.getD g []).getD e Sp.zero)
     rw [List.getD_eq_getElem?_getD, List.getElem?_map, List.getD_eq_getElem?_getD (l := s.sp.getD g [])]
     cases (s.sp.getD g [])[e]? <;> rfl
    ·rw [getD_set_ne _ _ hk, if_neg (fun h => hk h.symm)]; rfl
   refine ⟨⟨⟨h.sh.ok.cpus, h.sh.ok.credit, fun x hx => ?_, h.sh.ok.cl, h.sh.ok.cu, h.sh.ok.ts, fun l hl y hy => ?_⟩, h.sh.cpus, h.sh.credit, que h.sh.gs om hgg hw, h.sh.cl, h.sh.cu, ?_, h.sh.cls, fun k hk => ?_, fun k e hk he => ?_, h.sh.sort, fun u hu => ?_⟩, h.cur⟩
   ·rcases List.mem_or_eq_of_mem_set hx with h3 | rfl
    ·exact h.sh.ok.gs x h3
    ·exact ⟨hgr.parent, by show I64 o.weight; unfold I64; omega⟩
   ·rcases List.mem_or_eq_of_mem_set hl with h3 | rfl
    ·exact h.sh.ok.sp l h3 y hy
    ·obtain ⟨z, hz, rfl⟩ := List.mem_map.1 hy
     have := h.sh.ok.sp _ (qf [] hgl) z hz
     exact ⟨this.v, by show 0 < _; omega, this.floor⟩
   ·rw [hlen, List.length_set]; exact h.sh.sp
   ·have hk' : k < s.sp.length := by rw [← hlen]; exact hk
    have := h.sh.rows k hk'
    show (((s.sp.set g ((s.sp.getD g []).map fun x => { x with r := 0 })).getD k []).length : Int) = s.cpus
    by_cases e : g = k
    ·subst e; rw [qm _ _ hgl, List.length_map]; exact this
    ·rw [getD_set_ne _ _ e]; exact this
   ·have hk' : k < s.sp.length := by rw [← hlen]; exact hk
    have h3 := h.sh.spots k e hk' he
    unfold spOk at h3 ⊢
    have e1 := hsp k e
    unfold Sta.spot at h3 ⊢ e1
    dsimp only at h3 ⊢ e1
    rw [e1]
    by_cases e2 : g = k
    ·subst e2
     rw [if_pos rfl, qm _ _ hgg]
     rw [Bool.and_eq_true] at h3 ⊢
     have h4 := h3.1
     unfold entOk at h4 ⊢
     rw [decide_eq_true_eq] at h4 ⊢
     refine ⟨⟨hw2.1, hw2.2, by show ((0 : Nat) : Int) < o.weight; omega, .inr rfl⟩, ?_⟩
     rw [show (g != 0) = true from bne_iff_ne.2 om]
     rfl
    ·rw [if_neg (fun h => e2 h.symm), getD_set_ne _ _ e2]; exact h3
   ·show TkGood u s.cpus (s.sp.set g _).length
    rw [hlen]
    exact h.sh.tasks u hu
theorem qkq (h : GoodS s) (ht : s.ts[i]? = some t) {to : Nat} (hto : (to : Int) < s.cpus) (hb : t.mask / 2 ^ to % 2 = 1) (hn : ∀ d, d < s.cu.length → s.cu.getD d 0 = t.id → t.cpu = (d : Int) → False) : GoodS (moveS s i (to : Int)) := by
 unfold moveS
 rw [zc Tk.zero ht]
 dsimp only
 rw [Int.toNat_natCast]
 obtain ⟨hg, ho⟩ := qgr h.sh ht
 have hen := qiw hg ho
 have hm := En.qjs hen.1 (s.spot t.group.toNat t.cpu.toNat).floor (s.spot t.group.toNat to).floor (qb5 h.sh.ok _ _).floor
 have hp := qf0 hg ho hm.1
 have hI : I64 (to : Int) := by have := h.sh.cpus; unfold I64; omega
 have hs1 : Shp (s.setT i { t.put (t.en.moved (s.spot t.group.toNat t.cpu.toNat).floor (s.spot t.group.toNat to).floor) with cpu := (to : Int) }) :=
  h.sh.task ht rfl ⟨hp.2.id, hp.2.group, hp.2.weight, hI, hp.2.mask, hp.2.v, hp.2.r⟩ ⟨hp.1.id, hp.1.group, ⟨by show (0 : Int) ≤ (to : Int); omega, hto⟩, hp.1.weight, hp.1.mask, by show t.mask / 2 ^ ((to : Int)).toNat % 2 = 1; rw [Int.toNat_natCast]; exact hb, hp.1.ent⟩
 have hc1 : CurS (s.setT i { t.put (t.en.moved (s.spot t.group.toNat t.cpu.toNat).floor (s.spot t.group.toNat to).floor) with cpu := (to : Int) }) :=
  h.cur.task h.sh.sort ht rfl fun _ ⟨d, h1, h2, h3⟩ => (hn d h1 h2 h3).elim
 have hgl : t.group.toNat < s.sp.length := by have := hg.group; omega
 split
 ·exact ⟨hs1.wake hto _ (qe7 h.sh hgl), hc1.but (qep ..)⟩
 ·exact ⟨hs1, hc1⟩
theorem qrx {m : Nat} {x : Int} (h : bitOn m x = true) : m / 2 ^ x.toNat % 2 = 1 := of_decide_eq_true h
theorem qkr (h : GoodS s) (he : (qaj s o).2.2 = 0) : GoodS (qaj s o).1 := by
 unfold qaj at he ⊢
 split at he
 ·cases he
 ·split at he
  ·cases he
  ·split at he
   ·cases he
   ·split at he
    ·cases he
    ·split at he
     ·cases he
     ·split at he
      ·cases he
      ·rename_i h1 h2 h3 h4 h5 h6
       rw [if_neg h1, if_neg h2, if_neg h3, if_neg h4, if_neg h5, if_neg h6]
       obtain ⟨k, t, hk, ht, hid, htk⟩ := qix h3
       have hto := qh3 h1
       rw [htk] at h6
       rw [hk, Int.toNat_natCast]
       have hb := qrx (by simpa using h6 : bitOn t.mask o.to = true)
       obtain ⟨to, hte⟩ : ∃ to : Nat, o.to = (to : Int) := ⟨o.to.toNat, by omega⟩
       rw [hte] at hto hb ⊢
       rw [Int.toNat_natCast] at hb
       refine qkq h ht hto.2 hb fun d hd hcu _ => h4 ?_
       rw [← hid, ← hcu]
       exact qf 0 hd
theorem qiz : ∀ {n b : Nat}, bestF s o n = some b → mayB s o (s.ts.getD b Tk.zero) = true
 | 0, b, h => by cases h
 | n + 1, b, h => by
  rw [bestF] at h
  split at h
  ·rename_i hm
   split at h
   ·injection h with h; subst h; exact hm
   ·rename_i b' hb
    split at h
    ·injection h with h; subst h; exact hm
    ·injection h with h; subst h; exact qiz hb
  ·exact qiz h
theorem qks (h : GoodS s) (he : (qaa s o).2.2 = 0) : GoodS (qaa s o).1 := by
 unfold qaa at he ⊢
 split at he
 ·cases he
 ·rename_i h1
  rw [if_neg h1]
  cases hb : bestF s o s.ts.length with
  | none => rw [hb] at he; cases he
  | some b =>
   dsimp only
   have hl := qfz hb
   have hm := qiz hb
   have ht := getD_at Tk.zero hl
   have hto := qh3 h1
   unfold mayB at hm
   simp only [Bool.and_eq_true, decide_eq_true_eq] at hm
   obtain ⟨_, h3, h4, h5, _⟩ := hm
   obtain ⟨to, hte⟩ : ∃ to : Nat, o.cpu = (to : Int) := ⟨o.cpu.toNat, by omega⟩
   rw [hte] at hto h4 ⊢
   have h6 := qrx h4
   rw [Int.toNat_natCast] at h6
   refine qkq h ht hto.2 h6 fun d hd hcu hc => h5 ?_
   rw [hc, Int.toNat_natCast]
   exact hcu
theorem qgs {l : List Tk} : SortT l ↔ l.Pairwise fun a b => a.id < b.id := by
 rw [List.pairwise_iff_getElem]
 constructor
 ·intro h i j hi hj hij
  have := h i j hij hj
  rw [List.getD_eq_getElem?_getD, List.getElem?_eq_getElem hi, List.getD_eq_getElem?_getD, List.getElem?_eq_getElem hj] at this
  exact this
 ·intro h i j hij hj
  have := h i j om hj hij
  rw [List.getD_eq_getElem?_getD, List.getElem?_eq_getElem om, List.getD_eq_getElem?_getD, List.getElem?_eq_getElem hj]
  exact this
theorem Shp.ts (h : Shp s) {l : List Tk} (hs : SortT l) (hg : ∀ u ∈ l, TkGood u s.cpus s.sp.length ∧ u.Ok) : Shp { s with ts := l } :=
 ⟨⟨h.ok.cpus, h.ok.credit, h.ok.gs, h.ok.cl, h.ok.cu, fun u hu => (hg u hu).2, h.ok.sp⟩, h.cpus, h.credit, h.gs, h.cl, h.cu, h.sp, h.cls, h.rows, h.spots, hs, fun u hu => (hg u hu).1⟩
theorem qkt {l : List Tk} {id : Int} (h : ¬ 0 ≤ fidx l id) : ∀ t ∈ l, t.id ≠ id := by
 rcases qe3 l id with ⟨_, h2⟩ | ⟨i, h2, _⟩
 ·intro t ht hid
  obtain ⟨k, hk, rfl⟩ := z4 Tk.zero ht
  unfold findS at h2
  have := List.findIdx?_eq_none_iff.1 h2 _ (qf Tk.zero hk)
  rw [hid, beq_self_eq_true] at this
  cases this
 ·omega
theorem qdj {α : Type} {p : α → Bool} : ∀ {l : List α} {u : α}, u ∈ l.takeWhile p → p u = true
 | [], u, h => by cases h
 | a :: r, u, h => by
  rw [List.takeWhile_cons] at h
  split at h
  ·rename_i ha
   rcases List.mem_cons.1 h with rfl | h
   ·exact ha
   ·exact qdj h
  ·cases h
theorem qct {α : Type} {p : α → Bool} : ∀ {l : List α} {a : α} {r : List α}, l.dropWhile p = a :: r → p a = false
 | [], _, _, h => by cases h
 | b :: q, a, r, h => by
  rw [List.dropWhile_cons] at h
  split at h
  ·exact qct h
  ·rename_i hb
   injection h with h1 h2
   subst h1
   simpa using hb
theorem quf {l : List Tk} {id : Int} (hs : SortT l) (hn : ∀ t ∈ l, t.id ≠ id) (ht : t.id = id) : SortT ((l.takeWhile fun t => decide (t.id ≤ id)) ++ t :: (l.dropWhile fun t => decide (t.id ≤ id))) := by
 rw [qgs] at hs ⊢
 have hlow : ∀ u ∈ l.takeWhile (fun t => decide (t.id ≤ id)), u.id < id := fun u hu => by
  have h1 := qdj hu
  rw [decide_eq_true_eq] at h1
  have := hn u ((List.takeWhile_sublist _).subset hu)
  omega
 have hd := hs.sublist (List.dropWhile_sublist fun t => decide (t.id ≤ id))
 have hhi : ∀ u ∈ l.dropWhile (fun t => decide (t.id ≤ id)), id < u.id := fun u hu => by
  cases hdr : l.dropWhile (fun t => decide (t.id ≤ id)) with
  | nil => rw [hdr] at hu; cases hu
  | cons a r =>
   have h1 : ¬ decide (a.id ≤ id) = true := by
    have := qct hdr
    rw [this]; decide
   rw [decide_eq_true_eq] at h1
   rw [hdr] at hu hd
   rcases List.mem_cons.1 hu with rfl | hu
   ·omega
   ·have := (List.pairwise_cons.1 hd).1 u hu; omega
 rw [List.pairwise_append]
 refine ⟨hs.sublist (List.takeWhile_sublist _), List.pairwise_cons.2 ⟨fun u hu => ?_, hd⟩, fun a ha b hb => ?_⟩
 ·have := hhi u hu; omega
 ·have h1 := hlow a ha
  rcases List.mem_cons.1 hb with rfl | hb
  ·omega
  ·have := hhi b hb; omega
theorem qry {l : List Tk} {p : Tk → Bool} {u : Tk} : u ∈ l.takeWhile p ++ t :: l.dropWhile p ↔ u = t ∨ u ∈ l := by
 conv => rhs; rw [← List.takeWhile_append_dropWhile (p := p) (l := l)]
 simp only [List.mem_append, List.mem_cons]
 constructor
 ·rintro (h | rfl | h)
  ·exact .inr (.inl h)
  ·exact .inl rfl
  ·exact .inr (.inr h)
 ·rintro (rfl | h | h)
  ·exact .inr (.inl rfl)
  ·exact .inl h
  ·exact .inr (.inr h)
theorem qov (ho : o.Ok) (h : GoodS s) (he : (qcd s o).2.2 = 0) : GoodS (qcd s o).1 := by
 unfold qcd at he ⊢
 split at he
 ·cases he
 ·split at he
  ·cases he
  ·split at he
   ·cases he
   ·split at he
    ·cases he
    ·split at he
     ·cases he
     ·split at he
      ·cases he
      ·rename_i h1 h2 h3 h4 h5 h6
       rw [if_neg h1, if_neg h2, if_neg h3, if_neg h4, if_neg h5, if_neg h6]
       have hc := qh3 h1
       have hgl : o.group.toNat < s.sp.length := by omega
       have hid : 1 ≤ o.task ∧ o.task ≤ 65535 := by simpa [idOk] using h2
       have hg3 : 0 ≤ o.group ∧ o.group < s.sp.length := Classical.not_not.1 h3
       have hw : 1 ≤ o.weight ∧ o.weight ≤ 65536 := by have := fun h => h4 (.inl h); simpa [wOk] using this
       have hm : qdh o.mask s.cpus = false := by have := fun h => h4 (.inr (.inr h)); simpa using this
       have hb : o.mask / 2 ^ o.cpu.toNat % 2 = 1 := qrx (by simpa using h6)
       have hf := (qb5 h.sh.ok o.group.toNat o.cpu.toNat).floor
       have htg : TkGood (⟨o.task, o.group, o.weight, o.cpu, o.mask, true, (s.spot o.group.toNat o.cpu.toNat).floor, 0⟩ : Tk) s.cpus s.sp.length := ⟨hid, hg3, hc, hw, hm, hb, by unfold entOk; rw [decide_eq_true_eq]; exact ⟨hw.1, hw.2, by show ((0 : Nat) : Int) < o.weight; omega, .inr rfl⟩⟩
       have hto : (⟨o.task, o.group, o.weight, o.cpu, o.mask, true, (s.spot o.group.toNat o.cpu.toNat).floor, 0⟩ : Tk).Ok := ⟨ho.task, ho.group, ho.weight, ho.cpu, ho.mask, hf, by show 0 < _; omega⟩
       have hs1 := h.sh.ts (quf h.sh.sort (qkt h5) (t := ⟨o.task, o.group, o.weight, o.cpu, o.mask, true, (s.spot o.group.toNat o.cpu.toNat).floor, 0⟩) rfl) (fun u hu => by
        rcases qry.1 hu with rfl | hu
        ·exact ⟨htg, hto⟩
        ·exact ⟨h.sh.tasks u hu, h.sh.ok.ts u hu⟩)
       have hc1 : CurS { s with ts := (s.ts.takeWhile fun t => decide (t.id ≤ o.task)) ++ (⟨o.task, o.group, o.weight, o.cpu, o.mask, true, (s.spot o.group.toNat o.cpu.toNat).floor, 0⟩ :: (s.ts.dropWhile fun t => decide (t.id ≤ o.task))) } := fun d hd => by
        rcases h.cur d hd with h7 | ⟨u, hu, h7⟩
        ·exact .inl h7
        ·exact .inr ⟨u, qry.2 (.inr hu), h7⟩
       exact ⟨hs1.wake (by show ((o.cpu.toNat : Nat) : Int) < s.cpus; omega) _ (qe7 h.sh hgl), hc1.but (qep ..)⟩
theorem qh5 (h : GoodS s) (he : (qar s o).2.2 = 0) : GoodS (qar s o).1 := by
 unfold qar at he ⊢
 split at he
 ·cases he
 ·split at he
  ·cases he
  ·rename_i h1 h2
   rw [if_neg h1, if_neg h2]
   have hc := qh3 h1
   dsimp only
   rcases h.cur o.cpu.toNat (by have := h.sh.cu; omega) with h5 | ⟨t, htm, hid, hr, hcp⟩
   ·exact absurd h5 h2
   ·obtain ⟨k, hk, rfl⟩ := z4 Tk.zero htm
    have hf := qro h.sh.sort hk
    have ht := getD_at Tk.zero hk
    obtain ⟨t, hte⟩ : ∃ t, s.ts.getD k Tk.zero = t := ⟨_, rfl⟩
    rw [hte] at hid hr hcp hf ht
    rw [← hid, hf, Int.toNat_natCast, hte]
    obtain ⟨hg, hto⟩ := qgr h.sh ht
    have hr2 := qh2 hg hto false
    have hs1 : Shp { s with cu := s.cu.set o.cpu.toNat 0 } := qru h.sh (by unfold I64; omega)
    have hs2 : Shp { s with cu := s.cu.set o.cpu.toNat 0, ts := s.ts.set k { t with ready := false } } := hs1.task (s := { s with cu := s.cu.set o.cpu.toNat 0 }) ht rfl hr2.2 hr2.1
    have hcur : ∀ d, d < (s.cu.set o.cpu.toNat 0).length → (s.cu.set o.cpu.toNat 0).getD d 0 = 0 ∨ ∃ j u, s.ts[j]? = some u ∧ j ≠ k ∧ u.id = (s.cu.set o.cpu.toNat 0).getD d 0 ∧ u.ready = true ∧ u.cpu = (d : Int) := fun d hd => by
     rw [List.length_set] at hd
     by_cases e : o.cpu.toNat = d
     ·subst e; rw [qm _ _ hd]; exact .inl rfl
     ·rw [getD_set_ne _ _ e]
      rcases h.cur d hd with h6 | ⟨u, hu, h6, h7, h8⟩
      ·exact .inl h6
      ·obtain ⟨j, hj, rfl⟩ := z4 Tk.zero hu
       refine .inr ⟨j, _, getD_at Tk.zero hj, fun e2 => ?_, h6, h7, h8⟩
       subst e2
       rw [hte, hcp] at h8
       exact e om
    split
    ·refine ⟨hs2.ts (s := { s with cu := s.cu.set o.cpu.toNat 0, ts := s.ts.set k { t with ready := false } }) (l := (s.ts.set k { t with ready := false }).eraseIdx k) (qgs.2 ((qgs.1 hs2.sort).sublist (List.eraseIdx_sublist ..))) (fun u hu => ?_), fun d hd => ?_⟩
     ·have hu2 := (List.eraseIdx_sublist ..).subset hu
      exact ⟨hs2.tasks u hu2, hs2.ok.ts u hu2⟩
     ·rcases hcur d hd with h6 | ⟨j, u, hj, hjk, h6⟩
      ·exact .inl h6
      ·refine .inr ⟨u, ?_, h6⟩
       have h7 : (s.ts.set k { t with ready := false })[j]? = some u := by rw [List.getElem?_set_ne (fun e => hjk e.symm)]; exact hj
       exact List.mem_eraseIdx_iff_getElem?.2 ⟨j, hjk, h7⟩
    ·refine ⟨hs2, fun d hd => ?_⟩
     rcases hcur d hd with h6 | ⟨j, u, hj, hjk, h6⟩
     ·exact .inl h6
     ·refine .inr ⟨u, ?_, h6⟩
      have h7 : (s.ts.set k { t with ready := false })[j]? = some u := by rw [List.getElem?_set_ne (fun e => hjk e.symm)]; exact hj
      exact List.mem_of_getElem? h7
theorem qgt (ho : o.Ok) (h : GoodS s) (he : (stepS s o).2.2 = 0) : GoodS (stepS s o).1 := by
 unfold stepS at he ⊢
 split at he
 ·exact qov ho h he
 ·exact qou h he
 ·exact qh5 h he
 ·exact qh5 h he
 ·exact qrv h he
 ·exact qrw h he
 ·exact qiy h he
 ·exact qkp h he
 ·exact qkr h he
 ·exact qks h he
 ·cases he
end
def qnp (w : World) (R : List Nat) (r : Ending) (w' : World) : Prop :=
 (∃ A c, r = .returned (.slice A R.length c) ∧ w'.ownsRow w.heap.size 3 1 (.slice A R.length c) R.length (R.map I64v) ∧ R.length ≤ c) ∧ Below w.heap.size w w'
theorem qvv {w w' : World} {q R : List Nat} {A : Option Addr} {c : Nat} (hq : q = R) (ho : w'.ownsRow w.heap.size 3 1 (.slice A q.length c) q.length (q.map I64v)) (hc : q.length ≤ c) (hb : Below w.heap.size w w') : qnp w R (.returned (.slice A q.length c)) w' := by
 subst hq
 exact ⟨⟨A, c, rfl, ho, hc⟩, hb⟩
theorem qwm {x : Stm} {g c : Nat} (hok : x.sta.Ok) (hsh : ShAt x) (hn : memS x.sta g c ≠ []) : (bestM topM (memS x.sta g c)).id ≤ 1000000 := by
 rcases qc6 hok hn with ⟨_, t, ht, _, h2⟩ | ⟨_, h, h3, _, h5, _⟩
 ·obtain ⟨i, hi, rfl⟩ := List.getElem_of_mem ht
  have h4 := tk_id (hsh.tk i hi)
  rw [List.getD_eq_getElem?_getD, List.getElem?_eq_getElem (l := x.ts) hi] at h4
  have h5 : 1 ≤ (x.sta.ts[i]).id ∧ (x.sta.ts[i]).id ≤ 65535 := h4
  rw [h2]
  show (x.sta.ts[i]).id.toNat ≤ 1000000
  omega
 ·rw [h3]
  rw [zg, hsh.rs] at h5
  obtain ⟨_, _, _, hgs⟩ := zj hsh.cfg
  have := (qo hgs).2.1
  omega
theorem qc8 {x : Stm} (hsh : ShAt x) : ∀ t ∈ x.ts, 1 ≤ t.weight ∧ t.weight ≤ 65536 := by
 intro t ht
 obtain ⟨i, hi, rfl⟩ := List.getElem_of_mem ht
 have h1 := (qip (hsh.tk i hi)).2
 rw [List.getD_eq_getElem?_getD, List.getElem?_eq_getElem hi] at h1
 unfold tkOk1 wOk at h1
 simp only [Bool.and_eq_true, decide_eq_true_eq, Option.getD_some] at h1
 exact h1.2.1
theorem qrz (x : Stm) (gm g c : Nat) (w : World) (hok : x.sta.Ok) (hf : StFew x) (hsh : ShAt x) (hx : StRd w x) (hm : w.heap[gm]? = some (.cells #[vI x.cpus, vQ x.credit, .slice x.gA x.gs.length x.gc, .slice x.lA x.cl.length x.lc, .slice x.uA x.cu.length x.uc, .slice x.tA x.ts.length x.tc, .slice x.sA x.rs.length x.sc, .bool true] 56 (0, 0))) (hc : (c : Int) < x.cpus) (hg : g < x.rs.length) :
    Calls Tryz.prog 82 #[vP gm 0, vI g, vI c] w (qnp w (zh x.sta g c)) := by
 have hfs_ := hf.s; have hft_ := hf.t; have hfg_ := hf.g; have hrl := hsh.rs
 obtain ⟨hc1, hc2, _, hgs⟩ := zj hsh.cfg
 refine (JN3 Tryz.func82 35) ?_
 refine (JP∘Jp 1∘Jq) fun a I L => ?_
 replace L := L.nil 3 1
 refine Jb I L ((JG∘JP∘Jp 1∘Jj∘JQ∘JB) fun a I L => ?_)
 refine qg (fun mS aS wS => ∃ (k : Nat) (q : List Nat) (X : Option Addr) (xc : Nat), (k ≤ g) ∧ (q ++ zh x.sta k c = zh x.sta g c) ∧ (q.length ≤ g - k) ∧ (q.length ≤ xc) ∧ mS = 0 + k ∧ Fr aS 35 [] [(7, .slice X q.length xc), (6, vN), (0, vP gm 0), (1, vI k), (2, vI c)] ∧ Mem w wS [.row (.slice X q.length xc) q.length (q.map I64v) 3 1]) (m := 0 + g) ⟨g, [], none, 0, Nat.le_refl _, rfl, Nat.zero_le _, Nat.le_refl _, rfl, I.sub kr, L.pk [0]⟩ ?_
 clear I L; rintro mS a w_ ⟨k, q, X, xc, hk, hq, hql, hXc, rfl, I, L⟩
 refine Jb I L ((JQ∘JP∘Jp 2∘Jd1∘Jj) (Ju (fun hb11 => ?_) fun hb11 => ?_))
 ·
  intro a I L
  have hd11 := of_decide_eq_true hb11
  have hk0 : 0 < k := by omega
  have hpk := qac hgs (g := k) om k hk0 (Nat.le_refl _)
  unfold ParB at hpk
  obtain ⟨y, hy⟩ : ∃ y : Nat, (x.gs.getD k Gr.zero).parent = (y : Int) := ⟨(x.gs.getD k Gr.zero).parent.toNat, by omega⟩
  refine Jb I L ((JT∘JS'∘JQ∘JB∘JQ∘JP∘Jp 3∘JL (h:=by exact fun L => qek x hok hf hsh gm c om _ k (Nat.le_refl _) om _ (hx.old L) (L.oldBlk hm))) ?_)
  rintro L _ w26 ⟨rfl, hbw⟩
  refine ⟨_, rfl, _, L.call hbw, ?_⟩
  refine (Jp 1∘Jx∘Jx∘JA #[vQ 0, vQ 0, vQ 0]) fun w8 g8 => (JV qbt O0' (h1:=by exact qgh (bestM topM (memS x.sta k c)))) fun w4_8 => (Jp 1∘Jd6∘Jr∘Jp 1∘Jj) (Ju (fun hb29 => ?_) fun hb29 => ?_)
  ·
   intro a I L
   have hqm : q = zh x.sta g c := by rw [← hq, qds (by simpa using hb29), List.append_nil]
   exact Jb I L ((JT∘JX∘JG∘JP∘Jp 2∘Jd1∘Jj∘JZ∘Jz1) fun L => qvv hqm (L.own (i := 1) rfl) hXc L.below)
  intro a I L
  have hme : memS x.sta k c = [] := by simpa using hb29
  have hst := qdr (s := x.sta) (c := c) (g := k) (qac hgs om) hk0 hme
  replace hst : zh x.sta k c = k :: zh x.sta (x.gs.getD k Gr.zero).parent.toNat c := hst
  rw [hy, Int.toNat_natCast] at hst
  refine Jb I L ((JF∘JS'∘JR∘Jp 2∘JU zo #[vI k]) fun w32 g32 => (JD ([k].map I64v) 2 (fun _ _ => O2') zo (hr:=by exact fun L => L.rdBlk (i := 0) (n := 1) (size := 1) rfl rfl) (h1:=by simp [Value.oneCell', I64v])) fun w33 A33 c33 hc33 => (Jp 1∘Jd4∘Jq) fun a I L => ?_)
  have hnA33 : q.length + 1 = (q ++ [k]).length := lapp rfl
  replace L := L.reRow (i := 2) (ys := (q ++ [k]).map I64v) rfl hnA33 (List.map_append.symm)
  rw [hnA33] at hc33
  replace I := I.sp 7 (.slice A33 ((q ++ [k]).length) c33) rfl (by rw [hnA33])
  refine Jb I L ((JG∘JR∘Jp 1∘Jn∘Jf 0∘Jf 0∘Jf 2∘Jy (v := .slice x.gA x.gs.length x.gc) (h:=by exact Yl.qh rfl rfl kr (fun _ h => h.qae hm rfl))∘Jp 1) fun a I L => ?_)
  obtain ⟨gq1, oq1, hq1, _⟩ := Rd.qn hx.g (Nat.lt_of_le_of_lt (Nat.zero_le _) (show k < x.gs.length from by omega)) de
  have hrq1 := hx.g; rw [hq1] at hrq1
  replace I := I.sp 17 (.slice (some ⟨gq1, oq1, none⟩) x.gs.length x.gc) rfl (by rw [hq1]; try rfl)
  refine Jb I L ((Jy (h:=by exact Yl.ix gq1 oq1 k 2 rfl rfl rfl)∘Jf 0∘Jy (v := vI ((x.gs.getD k Gr.zero).parent)) (h:=by exact Yl.qh rfl rfl kr (fun _ h => (by have := (h.old hrq1).partAt q0 (k := k) (j := 0) (x := (x.gs.getD k Gr.zero)) ((getD_at Gr.zero om)) rfl; simpa using this)))∘Jo (vI y) (by rw [hy])∘Jp 1∘Jd6∘Jq) fun a I L => ?_)
  exact ⟨_, om, y, (q ++ [k]), A33, c33, by omega, by rw [← hq, hst, List.append_assoc]; rfl, by rw [List.length_append]; show q.length + 1 ≤ g - y; omega, hc33, rfl, I.sub kr, L.pk [2]⟩
 intro a I L
 have hd11 := of_decide_eq_false hb11
 have hqm : q = zh x.sta g c := by rw [← hq, show k = 0 by omega, qlx, List.append_nil]
 exact Jb I L ((JF∘JX∘JG∘JP∘Jp 2∘Jd1∘Jj∘JZ∘Jz1) fun L => qvv hqm (L.own (i := 0) rfl) hXc L.below)
theorem qku (x : Stm) (gm c : Nat) (w : World) (hok : x.sta.Ok) (hf : StFew x) (hsh : ShAt x) (hx : StRd w x) (hm : w.heap[gm]? = some (.cells #[vI x.cpus, vQ x.credit, .slice x.gA x.gs.length x.gc, .slice x.lA x.cl.length x.lc, .slice x.uA x.cu.length x.uc, .slice x.tA x.ts.length x.tc, .slice x.sA x.rs.length x.sc, .bool true] 56 (0, 0))) (hc : (c : Int) < x.cpus) :
    Calls Tryz.prog 42 #[vP gm 0, vI c] w (Is w (vI (ze x.sta c : Int))) := by
 have hfs_ := hf.s; have hft_ := hf.t; have hfg_ := hf.g; have hrl := hsh.rs
 obtain ⟨hc1, hc2, _, hgs⟩ := zj hsh.cfg
 have hrs0 : 0 < x.rs.length := by have h1 := (qo hgs).1; omega
 refine (JN2 Tryz.func42 28) ?_
 refine (JP∘Jp 1∘Jr∘Jp 1∘Jj∘JB) fun a I L => ?_
 refine qg (fun mS aS wS => ∃ (g : Nat), (g < x.rs.length) ∧ (qcf x.sta c g = ze x.sta c) ∧ mS = x.rs.length - g ∧ Fr aS 28 [] [(5, vI g), (4, vI 0), (0, vP gm 0), (1, vI c)] ∧ Mem w wS []) (m := x.rs.length - 0) ⟨0, by omega, rfl, rfl, I.sub kr, L.pk []⟩ ?_
 clear I L; rintro mS a w_ ⟨g, hg, hq, rfl, I, L⟩
 refine Jb I L ((JB∘JP∘Jp 3∘JL (h:=by exact fun L => qek x hok hf hsh gm c om _ g (Nat.le_refl _) om _ (hx.old L) (L.oldBlk hm))) ?_)
 rintro L _ w12 ⟨rfl, hbw⟩
 refine ⟨_, rfl, _, L.call hbw, ?_⟩
 refine (Jp 1∘Jx∘Jx∘JA #[vQ 0, vQ 0, vQ 0]) fun w6 g6 => (JV qbt O0' (h1:=by exact qgh (bestM topM (memS x.sta g c)))) fun w2_8 => (Jp 1∘Jj∘JQ∘JB∘JP∘Jp 3∘Jd2∘Jj) (Ju (fun hb15 => ?_) fun hb15 => ?_)
 ·
  intro a I L
  have hm0 : memS x.sta g c = [] := by simpa using hb15
  exact Jb I L ((JT∘JP∘Jp 1∘Jj∘JZ∘Jz1) fun L => by exact ⟨by rw [← hq, qdt (by rw [zg]; omega) hm0]; rfl, L.below⟩)
 intro a I L
 have hm0 : memS x.sta g c ≠ [] := by simpa using hb15
 have hsl : x.sta.sp.length = x.rs.length := zg
 refine Jb I L ((JF∘JP∘Jy (v := vP g6 1) (h:=by exact Yl.qdc (ad := ⟨g6, 0, none⟩) (m := 3) (y := 1) (sz := 1) rfl rfl rfl kr de)∘Jc O0∘Jp 2∘Jd3∘Jj) (Ju (fun hb18 => ?_) fun hb18 => ?_))
 ·
  intro a I L
  have hd18 := eq_of_beq hb18
  have hk0 : (bestM topM (memS x.sta g c)).k = 0 := by omega
  have hid := qwm hok hsh hm0
  have hft := qdu (s := x.sta) (c := c) (g := g) om hm0 hk0
  exact Jb I L ((JT∘JP∘Jy (v := vP g6 2) (h:=by exact Yl.qdc (ad := ⟨g6, 0, none⟩) (m := 3) (y := 2) (sz := 1) rfl rfl rfl kr de)∘Jc O0∘Jv 1 [(24, vI (IntKind.i64.wrap ((bestM topM (memS x.sta g c)).id : Int)))]∘Jo (vI ((bestM topM (memS x.sta g c)).id)) (by exact qih rfl om)∘Jp 1∘Jd3∘Jj∘JZ∘Jz1) fun L => by exact ⟨by rw [← hq, hft], L.below⟩)
 intro a I L
 have hd18 := ne_of_beq_false hb18
 have hk0 : (bestM topM (memS x.sta g c)).k ≠ 0 := by omega
 obtain ⟨hdn, hdg, hdl⟩ := qdv (s := x.sta) (c := c) (g := g) hok om hm0 hk0
 refine Jb I L ((JF∘JS'∘JR∘Jy (v := vP g6 2) (h:=by exact Yl.qdc (ad := ⟨g6, 0, none⟩) (m := 3) (y := 2) (sz := 1) rfl rfl rfl kr de)∘Jc O0∘Jv 1 [(27, vI (IntKind.i64.wrap ((bestM topM (memS x.sta g c)).id : Int)))]∘Jo (vI ((bestM topM (memS x.sta g c)).id)) (by exact qih rfl om)∘Jp 1∘Jd3∘Jq) fun a I L => ?_)
 exact ⟨_, om, (bestM topM (memS x.sta g c)).id, by omega, by rw [← hdn]; exact hq, rfl, I.sub kr, L.pk []⟩
theorem qh6 (x : Stm) (gm c : Nat) (w : World) (hok : x.sta.Ok) (hf : StFew x) (hsh : ShAt x) (hx : StRd w x) (hm : w.heap[gm]? = some (.cells #[vI x.cpus, vQ x.credit, .slice x.gA x.gs.length x.gc, .slice x.lA x.cl.length x.lc, .slice x.uA x.cu.length x.uc, .slice x.tA x.ts.length x.tc, .slice x.sA x.rs.length x.sc, .bool true] 56 (0, 0))) :
    Calls Tryz.prog 43 #[vP gm 0, vI c] w (Is w (vI (loadS x.sta c))) := by
 have hfs_ := hf.s; have hft_ := hf.t; have hfg_ := hf.g; have hrl := hsh.rs
 obtain ⟨hc1, hc2, _, hgs⟩ := zj hsh.cfg
 have hwt := qc8 hsh
 refine (JN2 Tryz.func43 32) ?_
 refine (JP∘Jp 1∘Jr∘Jp 1∘Jj∘JQ∘JP∘Jp 1∘Jn∘Jf 0∘Jf 5∘Jy (v := .slice x.tA x.ts.length x.tc) (h:=by exact Yl.qh rfl rfl kr (fun _ h => h.qae hm rfl))∘Jl∘Jp 1∘Jj∘JB) fun a I L => ?_
 refine qg (fun mS aS wS => ∃ (i : Nat), (i ≤ x.ts.length) ∧ mS = x.ts.length - i ∧ Fr aS 32 [] [(14, vI i), (13, vI x.ts.length), (12, .slice x.tA x.ts.length x.tc), (5, vI (loadN (x.ts.take i) c)), (4, vI 0), (1, vI c)] ∧ Mem w wS []) (m := x.ts.length - 0) ⟨0, Nat.zero_le _, rfl, I.sub kr, L.pk []⟩ ?_
 clear I L; rintro mS a w_ ⟨i, hi, rfl, I, L⟩
 refine Jb I L ((JP∘Jp 1∘Jj∘JQ) (Ju (fun hb15 => ?_) fun hb15 => ?_))
 ·
  intro a I L
  have hd15 := of_decide_eq_true hb15
  have hi15 : i < x.ts.length := by omega
  obtain ⟨t, ht⟩ : ∃ z, (x.ts.getD i Tk.zero) = z := ⟨_, rfl⟩
  have hls := qhv (c := c) hi15
  rw [ht] at hls
  have hb1 := qc7 (c := c) hwt i; have hb2 := qc7 (c := c) hwt (i + 1)
  refine Jb I L ((JT∘JS'∘JQ∘JB∘JP) fun a I L => ?_)
  obtain ⟨gq1, oq1, hq1, _⟩ := Rd.qn hx.t (Nat.lt_of_le_of_lt (Nat.zero_le _) (show i < x.ts.length from by omega)) de
  have hrq1 := hx.t; rw [hq1] at hrq1
  replace I := I.sp 12 (.slice (some ⟨gq1, oq1, none⟩) x.ts.length x.tc) rfl (by rw [hq1]; try rfl)
  refine Jb I L ((Jy (h:=by exact Yl.ix gq1 oq1 i 8 rfl rfl rfl)∘Jy (v := .agg ((x.ts.getD i Tk.zero).cells)) (h:=by exact Yl.loadS rfl rfl si_tk rfl (fun _ h => (h.old hrq1).q8 qd ((getD_at Tk.zero om))))∘Jo (.agg t.cells) (by rw [ht])∘JA #[vI 0, vI 0, vI 0, vI 0, vQ 0, .bool false, vQ 0, vW 0]) fun w7 g7 => (JV si_tk O0' (h1:=by exact qa4 t)) fun w4_3 => (Jd2∘Jj) fun a I L => ?_)
  refine qz (fun aS wS => Fr aS 32 [] [(25, .bool (t.ready && decide (t.cpu = (c : Int)))), (7, vP g7 0), (12, .slice (some ⟨gq1, oq1, none⟩) x.ts.length x.tc), (15, .bool true), (14, vI i), (13, vI x.ts.length), (5, vI (loadN (x.ts.take i) c)), (4, vI 0), (1, vI c)] ∧ Mem w wS [.blk g7 t.cells 81]) ?_ ?_
  ·
   refine qal ?_
   refine Jb I L ((Jg 5 O0∘Jp 1) (Ju (fun hb20 => ?_) fun hb20 => ?_))
   ·
    refine (Jg 3 O0∘Jp 3∘Jd5∘Jq) fun a I L => ?_
    have I := I.sp 25 (.bool (t.ready && decide (t.cpu = (c : Int)))) rfl (congrArg Value.bool (by rw [hb20, Bool.true_and, Bool.eq_iff_iff, beq_iff_eq, decide_eq_true_eq]))
    exact ⟨I.sub kr, L.pk [0]⟩
   refine (Jp 5∘Jd6∘Jq) fun a I L => ?_
   have I := I.sp 25 (.bool (t.ready && decide (t.cpu = (c : Int)))) rfl (congrArg Value.bool (by rw [hb20]; try rfl))
   exact ⟨I.sub kr, L.pk [0]⟩
  clear I L; rintro a w5 ⟨I, L⟩
  refine Jb I L (Ju (fun hb25 => ?_) fun hb25 => ?_)
  ·
   intro a I L
   rw [if_pos hb25] at hls
   refine Jb I L ((JT∘JR∘Jp 1∘Jg 2 O0∘Jp 1∘Jo (vI (loadN (x.ts.take (i + 1)) c)) (by rw [hls]; exact qcb ⟨by omega, by omega⟩)∘Jp 1∘Jd3∘Jj∘JR∘JaK 1∘Jp 1∘Jd1∘Jq) fun a I L => ?_)
   replace I := I.sp 12 (.slice x.tA x.ts.length x.tc) rfl (by rw [hq1])
   exact ⟨_, om, i + 1, by omega, rfl, I.sub kr, L.pk []⟩
  intro a I L
  rw [if_neg (by rw [hb25]; decide), Int.add_zero] at hls
  replace I := I.sp 5 (vI (loadN (x.ts.take (i + 1)) c)) rfl (by rw [hls])
  refine Jb I L ((JF∘JS'∘JR∘JaK 1∘Jp 1∘Jd1∘Jq) fun a I L => ?_)
  replace I := I.sp 12 (.slice x.tA x.ts.length x.tc) rfl (by rw [hq1])
  exact ⟨_, om, i + 1, by omega, rfl, I.sub kr, L.pk []⟩
 intro a I L
 have hd15 := of_decide_eq_false hb15
 have hall : loadN (x.ts.take i) c = loadS x.sta c := by rw [List.take_of_length_le om]; rfl
 exact Jb I L ((JF∘JX∘JG∘JP∘Jp 2∘Jd1∘Jj∘JZ∘Jz1) fun L => by exact ⟨by rw [hall], L.below⟩)
theorem qug {W w : World} {F T : List Fact} {x : Stm} {ng nl nu nt ns gm g c : Nat} (n : Nat) (L : Mem W w F) (he : F.drop n = mdA gm x ng nl nu nt ns ++ T) (hx : MdOk x ng nl nu nt ns) (hc : (c : Int) < x.cpus) (hg : g < ns) : Calls Tryz.prog 82 #[vP gm 0, vI g, vI c] w (qnp w (zh x.sta g c)) :=
 qrz x gm g c w hx.ok hx.few hx.sh (L.mdRd n he hx.ln) (L.mdBlk n he hx.ln) hc (by rw [hx.ln.s]; exact hg)
theorem quh {W w : World} {F T : List Fact} {x : Stm} {ng nl nu nt ns gm c : Nat} (n : Nat) (L : Mem W w F) (he : F.drop n = mdA gm x ng nl nu nt ns ++ T) (hx : MdOk x ng nl nu nt ns) (hc : (c : Int) < x.cpus) : Calls Tryz.prog 42 #[vP gm 0, vI c] w (Is w (vI (ze x.sta c : Int))) :=
 qku x gm c w hx.ok hx.few hx.sh (L.mdRd n he hx.ln) (L.mdBlk n he hx.ln) hc
theorem qr0 {W w : World} {F T : List Fact} {x : Stm} {ng nl nu nt ns gm c : Nat} (n : Nat) (L : Mem W w F) (he : F.drop n = mdA gm x ng nl nu nt ns ++ T) (hx : MdOk x ng nl nu nt ns) : Calls Tryz.prog 43 #[vP gm 0, vI c] w (Is w (vI (loadS x.sta c))) :=
 qh6 x gm c w hx.ok hx.few hx.sh (L.mdRd n he hx.ln) (L.mdBlk n he hx.ln)
def qr1 (W : World) (gm : Nat) (x : Stm) (ng nl nu nt ns : Nat) (T : List Fact) (s : Sta) (r : Ending) (w' : World) : Prop := ∃ rs2, r = .returned (.tuple #[]) ∧ rs2.length = ns ∧ SpsOk x.gs x.cpus rs2 ∧ ({ x with rs := rs2 } : Stm).sta = s ∧ Mem W w' (mdA gm { x with rs := rs2 } ng nl nu nt ns ++ T)
theorem qvw {W w' : World} {gm : Nat} {x : Stm} {ng nl nu nt ns : Nat} {T : List Fact} {s : Sta} {rs2 : List Rw} (hl : rs2.length = ns) (hs : SpsOk x.gs x.cpus rs2) (he : ({ x with rs := rs2 } : Stm).sta = s) (hm : Mem W w' (mdA gm { x with rs := rs2 } ng nl nu nt ns ++ T)) : qr1 W gm x ng nl nu nt ns T s (.returned (.tuple #[])) w' := ⟨rs2, rfl, hl, hs, he, hm⟩
theorem qc9 (x e : En) (hx : x.Ok) (fl cr : Nat) (hf : fl < 18446744073709551616) (hc : cr < 18446744073709551616) (he : x.woken fl cr = e) (w : World) :
  Calls Tryz.prog 89 #[.agg x.cells, vQ fl, vQ cr] w (Is w (.tuple #[.agg e.cells, vI 0])) := he ▸ qrd x hx fl cr hf hc w
theorem qow (W w : World) (x : Stm) (gm c : Nat) (ng nl nu nt ns : Nat) (hx : Lns x ng nl nu nt ns) (T : List Fact) (E : Option Addr) (ec : Nat) (l : List Nat) (hT : .row (.slice E l.length ec) l.length (l.map I64v) 3 1 ∈ T) (hlm : ∀ g ∈ l, 0 < g ∧ g < ns) (hln : l.length ≤ 1000000)
    (hgs : gsOk x.gs = true) (hrg : x.rs.length = x.gs.length) (hsp : SpsOk x.gs x.cpus x.rs) (hcr : x.credit < 18446744073709551616) (hcp : x.cpus ≤ 64) (hc : (c : Int) < x.cpus) (L : Mem W w (mdA gm x ng nl nu nt ns ++ T)) :
    Calls Tryz.prog 88 #[vP gm 0, .slice E l.length ec, vI c] w (qr1 W gm x ng nl nu nt ns T (wakeS x.sta l c)) := by
 obtain ⟨cp, cr, gA, gc, gs, lA, lc, cl, uA, uc, cu, tA, tc, ts, sA, sc, rs⟩ := x
 replace L : Mem W w (fM gm cp cr gA ng gc lA nl lc uA nu uc tA nt tc sA ns sc :: fG gA ng gc gs :: fI lA nl lc cl :: fI uA nu uc cu :: fT tA nt tc ts :: fS sA ns sc rs :: (fR rs ++ (T))) := L
 obtain ⟨hlg, hll, hlu, hlt, hls⟩ := hx; replace hlg : gs.length = ng := hlg; replace hls : rs.length = ns := hls
 have hrE : Rd w w.heap.size 1 E l.length (l.map I64v) := L.rdT 6 rfl hT
 replace hgs : gsOk gs = true := hgs; replace hrg : rs.length = gs.length := hrg; replace hcr : cr < 18446744073709551616 := hcr; replace hcp : cp ≤ 64 := hcp; replace hc : (c : Int) < cp := hc; replace hsp : SpsOk gs cp rs := hsp
 have hgl := qo hgs
 have hgl1 := hgl.1; have hgl2 := hgl.2.1
 obtain ⟨ggA, rfl⟩ := qi (L.own (i := 1) rfl) om
 obtain ⟨gsA, rfl⟩ := qi (L.own (i := 5) rfl) om
 refine (Jin3 L Tryz.func88 82) ?_
 refine (JP∘Jp 1∘Jl∘Jp 1∘Jj∘JB) fun a I L => ?_
 refine qg (fun mS aS wS => ∃ (i : Nat) (rs2 : List Rw), (i ≤ l.length) ∧ (rs2.length = ns) ∧ (SpsOk gs cp rs2) ∧ ((⟨cp, cr, some ⟨ggA, 0, none⟩, gc, gs, lA, lc, cl, uA, uc, cu, tA, tc, ts, some ⟨gsA, 0, none⟩, sc, rs2⟩ : Stm).sta = wakeS (⟨cp, cr, some ⟨ggA, 0, none⟩, gc, gs, lA, lc, cl, uA, uc, cu, tA, tc, ts, some ⟨gsA, 0, none⟩, sc, rs⟩ : Stm).sta (l.take i) c) ∧ mS = l.length - i ∧ Fr aS 82 [] [(14, vI i), (13, vI l.length), (12, .slice E l.length ec), (0, vP gm 0), (2, vI c)] ∧ Mem W wS (fM gm cp cr (some ⟨ggA, 0, none⟩) ng gc lA nl lc uA nu uc tA nt tc (some ⟨gsA, 0, none⟩) ns sc :: fG (some ⟨ggA, 0, none⟩) ng gc gs :: fI lA nl lc cl :: fI uA nu uc cu :: fT tA nt tc ts :: fS (some ⟨gsA, 0, none⟩) ns sc rs2 :: (fR rs2 ++ (T)))) (m := l.length - 0) ⟨0, rs, Nat.zero_le _, hls, hsp, rfl, rfl, I.sub kr, L.pt 6 [0, 1, 2, 3, 4, 5]⟩ ?_
 clear I L; rintro mS a w_ ⟨i, rs2, hi, hl2, hsp2, hst2, rfl, I, L⟩
 refine Jb I L ((JP∘Jp 1∘Jj∘JQ) (Ju (fun hb15 => ?_) fun hb15 => ?_))
 ·
  intro a I L
  have hd15 := of_decide_eq_true hb15
  have hi15 : i < l.length := by omega
  obtain ⟨g, hge⟩ : ∃ z, (l.getD i 0) = z := ⟨_, rfl⟩
  have hg0 := hlm g (by rw [← hge]; exact qf 0 hi15)
  obtain ⟨⟨yA, yc, yl⟩, hy⟩ : ∃ y, rs2.getD g Rw.zero = y := ⟨_, rfl⟩
  have hys := hsp2 g om; rw [hy] at hys
  have hyl : (yl.length : Int) = cp := hys.1
  revert L; revert a; repeat (first | clear I | clear L)
  intro a I L
  obtain ⟨gy, rfl⟩ := L.rwSome 6 rfl om hy om
  obtain ⟨yz, hyz⟩ : ∃ z, yl[c]? = some z := ⟨_, List.getElem?_eq_getElem om⟩
  have hyo := hys.2 yz (List.mem_of_getElem? hyz)
  have hyv := hyo.1.v; have hyr := hyo.1.r; have hyf := hyo.1.floor
  have hpb := qac hgs (g := g) om g hg0.1 (Nat.le_refl _)
  unfold ParB at hpb
  obtain ⟨p, hpp⟩ : ∃ p : Nat, (gs.getD g Gr.zero).parent = (p : Int) := ⟨(gs.getD g Gr.zero).parent.toNat, by omega⟩
  have hpg : p < g := by omega
  obtain ⟨⟨pA, pc, pl⟩, hp⟩ : ∃ y, rs2.getD p Rw.zero = y := ⟨_, rfl⟩
  have hps := hsp2 p om; rw [hp] at hps
  have hpl : (pl.length : Int) = cp := hps.1
  revert L; revert a; repeat (first | clear I | clear L)
  intro a I L
  obtain ⟨gp, rfl⟩ := L.rwSome 6 rfl om hp om
  obtain ⟨pz, hpz⟩ : ∃ z, pl[c]? = some z := ⟨_, List.getElem?_eq_getElem om⟩
  have hpo := hps.2 pz (List.mem_of_getElem? hpz)
  have hpv := hpo.1.v; have hpr := hpo.1.r; have hpf := hpo.1.floor
  obtain ⟨wt, hwt, hwt1, hwt2⟩ := qbu hgs (g := g) om
  have hEo : (⟨yz.v, yz.r, wt⟩ : En).Ok := ⟨by have := hyo.2; rw [hwt] at this; exact this, hyo.1.v⟩
  obtain ⟨e, hew⟩ : ∃ e, (⟨yz.v, yz.r, wt⟩ : En).woken pz.floor cr = e := ⟨_, rfl⟩
  have heo : e.Ok ∧ e.w = wt := by rw [← hew]; exact En.qdd hEo _ _ hpf
  have hev := heo.1.2; have her : e.r < 4294967296 := by have := qbv heo.1.1; omega
  refine Jb I L ((JT∘JS'∘JQ∘JB∘JP) ?_)
  repeat (first | clear I | clear L)
  intro a I L
  obtain ⟨gE, oE, rfl, _⟩ := hrE.qn (Nat.lt_of_le_of_lt (Nat.zero_le _) (show i < l.length from by omega)) de
  refine Jb I L ((Jy (h:=by exact Yl.ix gE oE i 1 rfl rfl rfl)∘Jy (v := vI (l.getD i 0)) (h:=by exact Yl.qh rfl rfl kr (fun _ h => (h.rdT 6 rfl hT).qtk (k := i) (qdg (F := I64v) (k := i) (x := (l.getD i 0)) ((getD_at 0 om)))))∘Jo (vI g) (by rw [hge])∘Jp 1∘Jd2∘Jr∘Jp 1∘Jn∘Jf 0∘Jg 6 O0∘Jp 1∘Jy (h:=by exact Yl.ix0 gsA g 1 rfl rfl rfl)∘Jy (v := .slice ((rs2.getD g Rw.zero).A) ((rs2.getD g Rw.zero).l.length) ((rs2.getD g Rw.zero).c)) (h:=by exact Yl.r1 5 g Rw.zero om rfl rfl rfl)∘Jo (vS gy yl.length yc) (by rw [hy])∘Jp 1∘Jy (h:=by exact Yl.ix0 gy c 3 rfl rfl rfl)∘Jp 1∘Jd6∘Jr∘Jp 1∘Jn∘Jf 0∘Jf 0∘Jg 2 O0∘Jp 1∘Jy (h:=by exact Yl.ix0 ggA g 2 rfl rfl rfl)∘Jy (v := .agg ((gs.getD g Gr.zero).cells)) (h:=by exact Yl.loadS rfl rfl si_gr rfl (fun _ h => h.z5 q0 (i := 1) rfl ((getD_at Gr.zero om))))∘JA #[vI 0, vI 0]) fun w9 g9 => (JV si_gr O0' (h1:=by exact qxo (gs.getD g Gr.zero))) fun w4_10 => (Jd6∘Jj) fun a I L => ?_)
  refine qz (fun aS wS => ∃ (g10 : Nat), Fr aS 82 [] [(10, vP g10 0), (9, vP g9 0), (8, vP gy (c * 3)), (7, vI g), (15, .bool true), (14, vI i), (13, vI l.length), (12, .slice (some ⟨gE, oE, none⟩) l.length ec), (0, vP gm 0), (2, vI c)] ∧ Mem W wS (.blk g10 e.cells 117 :: .blk g9 ((gs.getD g Gr.zero).cells) 50 :: fM gm cp cr (some ⟨ggA, 0, none⟩) ng gc lA nl lc uA nu uc tA nt tc (some ⟨gsA, 0, none⟩) ns sc :: fG (some ⟨ggA, 0, none⟩) ng gc gs :: fI lA nl lc cl :: fI uA nu uc cu :: fT tA nt tc ts :: fS (some ⟨gsA, 0, none⟩) ns sc rs2 :: (fR rs2 ++ (T)))) ?_ ?_
  ·
   refine Jb I L ((Vs .n [35]) fun wd5 => (Vp [0, 4]∘Vf 8 1∘Vp [11]∘Vf 16 0∘Vp [20, 24]∘Vn 1∘Vf 2 0∘Vy 3 (v := vQ yz.v) (h:=by exact Yl.qh rfl rfl kr (fun _ h => h.qa1 7 (j := 0) rfl om hy (hyz) rfl))∘Vn 5∘Vf 6 1∘Vy 7 (v := vW yz.r) (h:=by exact Yl.qh rfl rfl kr (fun _ h => h.qa1 7 (j := 1) rfl om hy (hyz) rfl))∘Vc 9 O0∘Vo (vI wt) (by rw [hwt])∘Vn 12∘Vf 13 0∘Vf 14 6∘Vc 15 O1∘Vc 17 O0∘Vo (vI p) (by rw [hpp])∘Vy 18 (h:=by exact Yl.ix0 gsA p 1 rfl rfl rfl)∘Vy 19 (v := .slice ((rs2.getD p Rw.zero).A) ((rs2.getD p Rw.zero).l.length) ((rs2.getD p Rw.zero).c)) (h:=by exact Yl.r1 6 p Rw.zero om rfl rfl rfl)∘Vo (vS gp pl.length pc) (by rw [hp])∘Vy 21 (h:=by exact Yl.ix0 gp c 3 rfl rfl rfl)∘Vf 22 2∘Vy 23 (v := vQ pz.floor) (h:=by exact Yl.qh rfl rfl kr (fun _ h => h.qa1 7 (j := 2) rfl om hp (hpz) rfl))∘Vn 25∘Vf 26 0∘Vf 27 0∘Vf 28 1∘Vc 29 O1) fun a I L HS => ?_)
   refine qj [10, 34] kr rfl ?_
   refine all_cons ?_ ?_
   ·refine qe I (i := 10) rfl rfl ?_
    refine e_is I L [vQ yz.v, vW yz.r, vI wt] (.agg #[vQ yz.v, vW yz.r, vW wt]) rfl rfl (zd yz.v yz.r (wt : Int) om _) fun w48 hbw L a I => ?_
    refine keepS (L.pt 7 [0, 1, 2, 3, 4, 5, 6]) (fun HS => ?_)
    refine qj [30, 34] kr rfl ?_
    refine all_cons ?_ ?_
    ·refine qe I (i := 30) rfl rfl ?_
     refine e_is I L [.agg #[vQ yz.v, vW yz.r, vW wt], vQ pz.floor, vQ cr] (.tuple #[.agg e.cells, vI 0]) rfl rfl (qc9 (⟨yz.v, yz.r, wt⟩ : En) e hEo pz.floor cr hpf hcr hew _) fun w68 hbw L a I => ?_
     refine keepS (L.pt 7 [0, 1, 2, 3, 4, 5, 6]) (fun HS => ?_)
     refine Vb I L HS ((Vp [31]∘Vx 32∘Vx 33∘VA 34 .n #[vQ 0, vW 0, vW 0]) fun w10 g10 => fun a I L HS => ?_)
     refine s_on I 35 rfl (e_sa I L 0 rfl rfl rfl rfl rfl qs rfl rfl (q9 e) ?_)
     clear L; intro w5_35 L
     refine noS kr ?_
     refine ap I (pastS kr) [36] (bt 37 []) [] fun a I => ?_
     refine qb kr ?_
     exact ⟨g10, I.sub kr, L.pt 8 [0, 1, 2, 3, 4, 5, 6, 7]⟩
    refine all_cons ?_ all_nil
    refine qe I (i := 34) rfl rfl ?_
    refine s_ea I L #[vQ 0, vW 0, vW 0] ?_
    clear I L; intro a w10 g10 I L
    refine keepS (L.pt 8 [1, 2, 3, 4, 5, 6, 7]) (fun HS => ?_)
    refine Vb I L HS ((VI 30 (.f .n) (h:=by exact fun L => qc9 (⟨yz.v, yz.r, wt⟩ : En) e hEo pz.floor cr hpf hcr hew _)) fun w68 hbw => (Vp [31]∘Vx 32∘Vx 33) fun a I L HS => ?_)
    refine s_on I 35 rfl (e_sa I L 0 rfl rfl rfl rfl rfl qs rfl rfl (q9 e) ?_)
    clear L; intro w5_35 L
    refine noS kr ?_
    refine ap I (pastS kr) [36] (bt 37 []) [] fun a I => ?_
    refine qb kr ?_
    exact ⟨g10, I.sub kr, L.pt 8 [0, 1, 2, 3, 4, 5, 6, 7]⟩
   refine all_cons ?_ all_nil
   refine qe I (i := 34) rfl rfl ?_
   refine s_ea I L #[vQ 0, vW 0, vW 0] ?_
   clear I L; intro a w10 g10 I L
   refine keepS (L.pt 8 [1, 2, 3, 4, 5, 6, 7]) (fun HS => ?_)
   refine Vb I L HS ((VI 10 (.f .n) (h:=by exact fun L => zd yz.v yz.r (wt : Int) om _)) fun w48 hbw => (VI 30 (.f .n) (h:=by exact fun L => qc9 (⟨yz.v, yz.r, wt⟩ : En) e hEo pz.floor cr hpf hcr hew _)) fun w68 hbw => (Vp [31]∘Vx 32∘Vx 33) fun a I L HS => ?_)
   refine s_on I 35 rfl (e_sa I L 0 rfl rfl rfl rfl rfl qs rfl rfl (q9 e) ?_)
   clear L; intro w5_35 L
   refine noS kr ?_
   refine ap I (pastS kr) [36] (bt 37 []) [] fun a I => ?_
   refine qb kr ?_
   exact ⟨g10, I.sub kr, L.pt 8 [0, 1, 2, 3, 4, 5, 6, 7]⟩
  clear I L; rintro a w5 ⟨g10, I, L⟩
  refine qfd L [.blk g10 e.cells 117, .blk g9 ((gs.getD g Gr.zero).cells) 50, fM gm cp cr (some ⟨ggA, 0, none⟩) ng gc lA nl lc uA nu uc tA nt tc (some ⟨gsA, 0, none⟩) ns sc, fG (some ⟨ggA, 0, none⟩) ng gc gs, fI lA nl lc cl, fI uA nu uc cu, fT tA nt tc ts] [0, 1, 2, 3, 4, 5, 6] [11] fun L HS => ?_
  refine ap I (fun _ => HS) [0, 1, 2, 4] (bf 12 [0, 1, 2, 4]) [(75, vP g10 1), (73, vP g10 0), (72, vP gy (c * 3)), (71, vP gy (c * 3))] fun a I => ?_
  refine s_ac I HS 3 0 (v := vQ e.v) fun a I => ?_
  refine s_ac I HS 5 0 (v := vW e.r) fun a I => ?_
  refine s_am I HS 6 fun a I => ?_
  refine ap I (fun _ => HS) [7] (bt 12 [8, 9, 10, 11]) [(78, vP gy (c * 3))] fun a I => ?_
  refine s_on I 8 rfl ?_
  refine zb I L 7 (c := c) 0 ({ yz with v := e.v }) rfl rfl rfl rfl kr rfl rfl om (hy) (hyz) rfl de rfl ?_
  clear L; intro w6_8 L
  replace L : Mem W w6_8 (.blk g10 e.cells 117 :: .blk g9 ((gs.getD g Gr.zero).cells) 50 :: fM gm cp cr (some ⟨ggA, 0, none⟩) ng gc lA nl lc uA nu uc tA nt tc (some ⟨gsA, 0, none⟩) ns sc :: fG (some ⟨ggA, 0, none⟩) ng gc gs :: fI lA nl lc cl :: fI uA nu uc cu :: fT tA nt tc ts :: fS (some ⟨gsA, 0, none⟩) ns sc (rsPut rs2 g c ({ yz with v := e.v })) :: (fR (rsPut rs2 g c ({ yz with v := e.v })) ++ (T))) := L
  refine keepS (L.pk [0, 1, 2, 3, 4, 5, 6]) (fun HS => ?_)
  refine s_an I (fun _ => HS) 9 fun a I => ?_
  refine ap I (fun _ => HS) [10] (bt 12 [11]) [(80, vP gy (c * 3 + 1))] fun a I => ?_
  refine s_on I 11 rfl ?_
  refine zb I L 7 (c := c) 1 ({ yz with v := e.v, r := e.r }) rfl rfl rfl rfl kr rfl rfl (by first | omega | (rw [qt]; omega)) (qem om hy) (qbg hyz) rfl de rfl ?_
  clear L; intro w6_11 L
  replace L : Mem W w6_11 (.blk g10 e.cells 117 :: .blk g9 ((gs.getD g Gr.zero).cells) 50 :: fM gm cp cr (some ⟨ggA, 0, none⟩) ng gc lA nl lc uA nu uc tA nt tc (some ⟨gsA, 0, none⟩) ns sc :: fG (some ⟨ggA, 0, none⟩) ng gc gs :: fI lA nl lc cl :: fI uA nu uc cu :: fT tA nt tc ts :: fS (some ⟨gsA, 0, none⟩) ns sc (rsPut (rsPut rs2 g c ({ yz with v := e.v })) g c ({ yz with v := e.v, r := e.r })) :: (fR (rsPut (rsPut rs2 g c ({ yz with v := e.v })) g c ({ yz with v := e.v, r := e.r })) ++ (T))) := L
  rw [qbf (by first | omega | (rw [qt]; omega))] at L
  refine noS kr ?_
  refine qb kr ?_
  refine Jb I L ((JG∘JR∘JaK 1∘Jp 1∘Jd6∘Jq) fun a I L => ?_)
  exact ⟨_, om, i + 1, (rsPut rs2 g c { yz with v := e.v, r := e.r }), by omega, by rw [qt]; exact hl2, hsp2.put { yz with v := e.v, r := e.r } ⟨hev, her, hyo.1.floor⟩ (by rw [hwt]; have := heo.1.1; rw [heo.2] at this; exact this), by rw [qok hi15, ← hst2, hge]; exact qkf (x := (⟨cp, cr, some ⟨ggA, 0, none⟩, gc, gs, lA, lc, cl, uA, uc, cu, tA, tc, ts, some ⟨gsA, 0, none⟩, sc, rs2⟩ : Stm)) (by show g < rs2.length; omega) hy hyz hpp (by show p < rs2.length; omega) hp hpz hwt hew, rfl, I.sub kr, L.pt 8 [2, 3, 4, 5, 6, 7]⟩
 intro a I L
 have hd15 := of_decide_eq_false hb15
 refine Jb I L ((JF∘JX) fun a I L => ?_)
 exact norm0 rfl I (qvw (x := (⟨cp, cr, some ⟨ggA, 0, none⟩, gc, gs, lA, lc, cl, uA, uc, cu, tA, tc, ts, some ⟨gsA, 0, none⟩, sc, rs⟩ : Stm)) hl2 hsp2 (by rw [show ({ (⟨cp, cr, some ⟨ggA, 0, none⟩, gc, gs, lA, lc, cl, uA, uc, cu, tA, tc, ts, some ⟨gsA, 0, none⟩, sc, rs⟩ : Stm) with rs := rs2 } : Stm) = (⟨cp, cr, some ⟨ggA, 0, none⟩, gc, gs, lA, lc, cl, uA, uc, cu, tA, tc, ts, some ⟨gsA, 0, none⟩, sc, rs2⟩ : Stm) from rfl, hst2, List.take_of_length_le om]) L)
theorem qui {W w : World} {F T : List Fact} {x : Stm} {ng nl nu nt ns gm g c : Nat} {mm : List Mb} (n : Nat) (L : Mem W w F) (he : F.drop n = mdA gm x ng nl nu nt ns ++ T) (hx : MdOk x ng nl nu nt ns) (hc : (c : Int) < x.cpus) (hg : g < ns) (hm : memS x.sta g c = mm) : Calls Tryz.prog 51 #[vP gm 0, vI g, vI c] w (Is w (.tuple #[.agg (bestM topM mm).cells, .bool (!mm.isEmpty)])) := hm ▸ qt1 n L he hx hc hg
theorem qnq {x : Stm} (hok : x.sta.Ok) {g c : Nat} (hn : memS x.sta g c ≠ []) : (bestM topM (memS x.sta g c)).v < 18446744073709551616 := by
 rcases qc5 (qly hok hn) with ⟨t, ht, _, h2⟩ | ⟨h, _, _, _, _, h5⟩
 ·rw [h2]; exact (hok.ts t ht).v
 ·rw [h5]; exact (qb5 hok h c).v
theorem qox (W w : World) (x : Stm) (gm : Nat) (ng nl nu nt ns : Nat) (hx : MdOk x ng nl nu nt ns) (T : List Fact) (L : Mem W w (mdA gm x ng nl nu nt ns ++ T)) :
    Calls Tryz.prog 40 #[vP gm 0] w (qr1 W gm x ng nl nu nt ns T (riseS x.sta)) := by
 obtain ⟨cp, cr, gA, gc, gs, lA, lc, cl, uA, uc, cu, tA, tc, ts, sA, sc, rs⟩ := x
 replace L : Mem W w (fM gm cp cr gA ng gc lA nl lc uA nu uc tA nt tc sA ns sc :: fG gA ng gc gs :: fI lA nl lc cl :: fI uA nu uc cu :: fT tA nt tc ts :: fS sA ns sc rs :: (fR rs ++ (T))) := L
 obtain ⟨hlg, hll, hlu, hlt, hls⟩ := hx.ln
 replace hlg : gs.length = ng := hlg; replace hll : cl.length = nl := hll; replace hlu : cu.length = nu := hlu; replace hlt : ts.length = nt := hlt; replace hls : rs.length = ns := hls
 have hrg := hx.sh.rs; replace hrg : rs.length = gs.length := hrg
 obtain ⟨hcp1, hcp2, _, hgs⟩ := zj hx.sh.cfg
 replace hcp1 : 1 ≤ cp := hcp1; replace hcp2 : cp ≤ 64 := hcp2; replace hgs : gsOk gs = true := hgs
 have hgl1 := (qo hgs).1; have hgl2 := (qo hgs).2.1
 obtain ⟨gsA, rfl⟩ := qi (L.own (i := 5) rfl) om
 refine (Jin1 L Tryz.func40 45) ?_
 refine (JP∘Jp 1∘Jn∘Jf 0∘Jg 6 O0∘Jl∘Jp 1∘Jj∘JB) fun a I L => ?_
 refine qg (fun mS aS wS => ∃ (g : Nat) (rs2 : List Rw), (g ≤ ns) ∧ (rs2.length = ns) ∧ (MdOk (⟨cp, cr, gA, gc, gs, lA, lc, cl, uA, uc, cu, tA, tc, ts, some ⟨gsA, 0, none⟩, sc, rs2⟩ : Stm) ng nl nu nt ns) ∧ (Risen (⟨cp, cr, gA, gc, gs, lA, lc, cl, uA, uc, cu, tA, tc, ts, some ⟨gsA, 0, none⟩, sc, rs⟩ : Stm) rs2 g 0) ∧ mS = ns - g ∧ Fr aS 45 [] [(13, vI g), (12, vI ns), (11, vS gsA ns sc), (0, vP gm 0)] ∧ Mem W wS (fM gm cp cr gA ng gc lA nl lc uA nu uc tA nt tc (some ⟨gsA, 0, none⟩) ns sc :: fG gA ng gc gs :: fI lA nl lc cl :: fI uA nu uc cu :: fT tA nt tc ts :: fS (some ⟨gsA, 0, none⟩) ns sc rs2 :: (fR rs2 ++ (T)))) (m := ns - 0) ⟨0, rs, Nat.zero_le _, hls, hx, qhw, rfl, I.sub kr, L.pt 6 [0, 1, 2, 3, 4, 5]⟩ ?_
 clear I L; rintro mS a w_ ⟨g, rs2, hg, hl2, hx2, hR, rfl, I, L⟩
 refine Jb I L ((JP∘Jp 1∘Jj∘JQ) (Ju (fun hb14 => ?_) fun hb14 => ?_))
 ·
  intro a I L
  have hd14 := of_decide_eq_true hb14
  have hg14 : g < ns := by omega
  obtain ⟨⟨yA, yc, yl⟩, hy⟩ : ∃ y, rs2.getD g Rw.zero = y := ⟨_, rfl⟩
  have hys := hx2.spots g (by show g < rs2.length; omega)
  replace hys : ((rs2.getD g Rw.zero).l.length : Int) = cp ∧ _ := hys
  rw [hy] at hys
  have hyl : (yl.length : Int) = cp := hys.1
  revert L; revert a; repeat (first | clear I | clear L)
  intro a I L
  obtain ⟨gy, rfl⟩ := L.rwSome 6 rfl om hy om
  have hyo := hR.2.1 g
  rw [hy] at hyo
  replace hyo : yl.length = (rs.getD g Rw.zero).l.length := hyo
  refine Jb I L ((JT∘JS'∘JQ∘JB∘JP∘Jp 1∘Jy (h:=by exact Yl.ix0 gsA g 1 rfl rfl rfl)∘Jy (v := .slice ((rs2.getD g Rw.zero).A) ((rs2.getD g Rw.zero).l.length) ((rs2.getD g Rw.zero).c)) (h:=by exact Yl.r1 5 g Rw.zero om rfl rfl rfl)∘Jo (vS gy yl.length yc) (by rw [hy])∘Jp 2∘Jr∘Jp 1∘Jl∘Jp 1∘Jj∘JB) fun a I L => ?_)
  refine qg (fun mS aS wS => ∃ (c : Nat) (rs3 : List Rw) (yl3 : List Sp), (rs3.length = ns) ∧ (MdOk (⟨cp, cr, gA, gc, gs, lA, lc, cl, uA, uc, cu, tA, tc, ts, some ⟨gsA, 0, none⟩, sc, rs3⟩ : Stm) ng nl nu nt ns) ∧ (Risen (⟨cp, cr, gA, gc, gs, lA, lc, cl, uA, uc, cu, tA, tc, ts, some ⟨gsA, 0, none⟩, sc, rs⟩ : Stm) rs3 g c) ∧ (rs3.getD g Rw.zero = ⟨some ⟨gy, 0, none⟩, yc, yl3⟩) ∧ (yl3.length = yl.length) ∧ mS = yl.length - c ∧ Fr aS 45 [] [(20, vI c), (19, vI yl.length), (3, vS gy yl.length yc), (2, vI g), (14, .bool true), (13, vI g), (12, vI ns), (11, vS gsA ns sc), (0, vP gm 0)] ∧ Mem W wS (fM gm cp cr gA ng gc lA nl lc uA nu uc tA nt tc (some ⟨gsA, 0, none⟩) ns sc :: fG gA ng gc gs :: fI lA nl lc cl :: fI uA nu uc cu :: fT tA nt tc ts :: fS (some ⟨gsA, 0, none⟩) ns sc rs3 :: (fR rs3 ++ (T)))) (m := yl.length - 0) ⟨0, rs2, yl, hl2, hx2, hR, hy, rfl, rfl, I.sub kr, L.pt 6 [0, 1, 2, 3, 4, 5]⟩ ?_
  clear I L; rintro mS a w_ ⟨c, rs3, yl3, hl3, hx3, hR3, hy3, hyl3, rfl, I, L⟩
  refine Jb I L ((JP∘Jp 1∘Jj∘JQ) (Ju (fun hb21 => ?_) fun hb21 => ?_))
  ·
   intro a I L
   have hd21 := of_decide_eq_true hb21
   have hc21 : c < yl.length := by omega
   obtain ⟨zz, hzz⟩ : ∃ z, yl3[c]? = some z := ⟨_, List.getElem?_eq_getElem om⟩
   obtain ⟨mm, hmm⟩ : ∃ z, memS (⟨cp, cr, gA, gc, gs, lA, lc, cl, uA, uc, cu, tA, tc, ts, some ⟨gsA, 0, none⟩, sc, rs⟩ : Stm).sta g c = z := ⟨_, rfl⟩
   have hsp3 := hx3.spots g (by show g < rs3.length; omega)
   replace hsp3 : ((rs3.getD g Rw.zero).l.length : Int) = cp ∧ ∀ z ∈ (rs3.getD g Rw.zero).l, z.Ok ∧ _ := hsp3
   rw [hy3] at hsp3
   have hzo := (hsp3.2 zz (List.mem_of_getElem? hzz)).1
   have hzf := hzo.floor
   have hso := (qed (x := (⟨cp, cr, gA, gc, gs, lA, lc, cl, uA, uc, cu, tA, tc, ts, some ⟨gsA, 0, none⟩, sc, rs3⟩ : Stm)) (by show g < rs3.length; omega) (hx3.sh.row g (by show g < rs3.length; omega))).2 c (by show c < (rs3.getD g Rw.zero).l.length; rw [hy3]; show c < yl3.length; omega)
   replace hso : spOk _ g ((rs3.getD g Rw.zero).l.getD c Sp.zero) = true := hso
   rw [hy3, show (⟨some ⟨gy, 0, none⟩, yc, yl3⟩ : Rw).l.getD c Sp.zero = zz from zc Sp.zero hzz] at hso
   refine Jb I L ((JT∘JS'∘JQ∘JB∘JP∘Jp 2∘Jd1∘Jr∘Jp 3∘JI (h:=by exact fun L => qui 0 L rfl hx3 (by show (c : Int) < cp; omega) om ((qkg hR3 g c).trans hmm))) fun w27 hbw => (Jp 1∘Jx∘Jx∘JA #[vQ 0, vQ 0, vQ 0]) fun w5 g5 => (JV qbt O0' (h1:=by exact qgh (bestM topM mm))) fun w6_8 => (Jp 1∘Jr∘Jp 1∘Jj) (Ju (fun hb30 => ?_) fun hb30 => ?_))
   ·
    intro a I L
    have hne : mm ≠ [] := by simpa using hb30
    have hbv := qnq (x := (⟨cp, cr, gA, gc, gs, lA, lc, cl, uA, uc, cu, tA, tc, ts, some ⟨gsA, 0, none⟩, sc, rs⟩ : Stm)) hx.ok (g := g) (c := c) (by rw [hmm]; exact hne)
    rw [hmm] at hbv
    have hr1 : rise1 (⟨cp, cr, gA, gc, gs, lA, lc, cl, uA, uc, cu, tA, tc, ts, some ⟨gsA, 0, none⟩, sc, rs⟩ : Stm).sta g c zz = { zz with floor := max zz.floor (bestM topM mm).v } := by unfold rise1; rw [hmm, if_neg (by simpa using hne)]
    refine Jb I L ((JT∘Vs .n [12]) fun wd8 => (Vp [0, 1, 2, 3]∘Vy 4 (h:=by exact Yl.ix0 gy c 3 rfl rfl rfl)∘Vf 5 2∘Vy 6 (v := vQ zz.floor) (h:=by exact Yl.qh rfl rfl kr (fun _ h => h.qa1 7 (j := 2) rfl om hy3 (hzz) rfl))∘Vy 7 (v := .agg ((bestM topM mm).cells)) (h:=by exact Yl.loadS rfl rfl qbt rfl (fun _ h => qa (h.blk (i := 0) rfl)))∘VI 8 .n (h:=by exact fun L => qvq (bestM topM mm) _)) fun w39 hbw => (Vy 9 (v := vQ (if ((bestM topM mm).v : Int) > (zz.floor : Int) then ((bestM topM mm).v : Int) else (zz.floor : Int))) (h:=by exact Yl.max rfl rfl rfl)∘Vo (vQ (max zz.floor (bestM topM mm).v : Nat)) (by rw [Nat.max_def]; split <;> split <;> first | rfl | (congr 1; omega))∘Vu 10 (h:=by exact fun _ => Yl.ix0 gy c 3 rfl rfl rfl)∘Vf 11 2) fun a I L HS => ?_)
    refine s_on I 12 rfl ?_
    refine zb I L 6 (c := c) 2 ({ zz with floor := max zz.floor (bestM topM mm).v }) rfl rfl rfl rfl kr rfl rfl om (hy3) (hzz) rfl de rfl ?_
    clear L; intro w8_12 L
    replace L : Mem W w8_12 (.blk g5 ((bestM topM mm).cells) 94 :: fM gm cp cr gA ng gc lA nl lc uA nu uc tA nt tc (some ⟨gsA, 0, none⟩) ns sc :: fG gA ng gc gs :: fI lA nl lc cl :: fI uA nu uc cu :: fT tA nt tc ts :: fS (some ⟨gsA, 0, none⟩) ns sc (rsPut rs3 g c ({ zz with floor := max zz.floor (bestM topM mm).v })) :: (fR (rsPut rs3 g c ({ zz with floor := max zz.floor (bestM topM mm).v })) ++ (T))) := L
    refine noS kr ?_
    refine qb kr ?_
    refine Jb I L ((JG∘JR∘JaK 1∘Jp 1∘Jd6∘Jq) fun a I L => ?_)
    exact ⟨_, om, c + 1, (rsPut rs3 g c { zz with floor := max zz.floor (bestM topM mm).v }), (yl3.set c { zz with floor := max zz.floor (bestM topM mm).v }), by rw [qt]; exact hl3, hx3.put (by show g < rs3.length; omega) { zz with floor := max zz.floor (bestM topM mm).v } ⟨hzo.v, hzo.r, by show max _ _ < _; rw [Nat.max_def]; split <;> omega⟩ hso, qhx hR3 (by show g < rs.length; omega) (by show c < (rs.getD g Rw.zero).l.length; omega) (by rw [hy3]; exact hzz) hr1, qem om hy3, by rw [List.length_set]; exact hyl3, rfl, I.sub kr, L.pt 7 [1, 2, 3, 4, 5, 6]⟩
   intro a I L
   have hem : memS (⟨cp, cr, gA, gc, gs, lA, lc, cl, uA, uc, cu, tA, tc, ts, some ⟨gsA, 0, none⟩, sc, rs⟩ : Stm).sta g c = [] := by rw [hmm]; simpa using hb30
   refine Jb I L ((JF∘JS'∘JR∘JaK 1∘Jp 1∘Jd1∘Jq) fun a I L => ?_)
   exact ⟨_, om, c + 1, rs3, yl3, hl3, hx3, qom hR3 hem, hy3, hyl3, rfl, I.sub kr, L.pt 7 [1, 2, 3, 4, 5, 6]⟩
  intro a I L
  have hd21 := of_decide_eq_false hb21
  refine Jb I L ((JF∘JX∘JG∘JR∘JaK 1∘Jp 1∘Jd1∘Jq) fun a I L => ?_)
  exact ⟨_, om, g + 1, rs3, by omega, hl3, hx3, qkh hR3 (by show (rs.getD g Rw.zero).l.length ≤ c; omega), rfl, I.sub kr, L.pt 6 [0, 1, 2, 3, 4, 5]⟩
 intro a I L
 have hd14 := of_decide_eq_false hb14
 refine Jb I L ((JF∘JX) fun a I L => ?_)
 exact norm0 rfl I (qvw (x := (⟨cp, cr, gA, gc, gs, lA, lc, cl, uA, uc, cu, tA, tc, ts, some ⟨gsA, 0, none⟩, sc, rs⟩ : Stm)) hl2 hx2.spots (qki hR (by show rs.length ≤ g; omega)) L)
theorem qi0 {W w : World} {F T : List Fact} {x : Stm} {ng nl nu nt ns gm g c : Nat} {l : List Nat} (n : Nat) (L : Mem W w F) (he : F.drop n = mdA gm x ng nl nu nt ns ++ T) (hx : MdOk x ng nl nu nt ns) (hc : (c : Int) < x.cpus) (hg : g < ns) (hl : zh x.sta g c = l) : Calls Tryz.prog 82 #[vP gm 0, vI g, vI c] w (qnp w l) := hl ▸ qug n L he hx hc hg
theorem qi1 {x : Stm} {ng nl nu nt ns g c : Nat} {l : List Nat} (hx : MdOk x ng nl nu nt ns) (hg : g < ns) (hl : zh x.sta g c = l) : ∀ h ∈ l, 0 < h ∧ h < ns := by
 subst hl
 intro h hh
 obtain ⟨_, _, _, hgs⟩ := zj hx.sh.cfg
 have h1 := hx.sh.rs
 have h2 := hx.ln.s
 have h3 := qhu (s := x.sta) (c := c) (g := g) (qac hgs om) h hh
 exact ⟨h3.1, by omega⟩
theorem qh7 {s : Sta} {c : Nat} : ∀ (f g : Nat), (qbe s c f g).length ≤ f
 | 0, g => Nat.le_refl _
 | f + 1, g => by
  rw [qbe]
  split
  ·exact Nat.zero_le _
  ·split
   ·rw [List.length_cons]; have := qh7 (s := s) (c := c) f (s.par g).toNat; omega
   ·exact Nat.zero_le _
theorem qgu {x : Stm} {ng nl nu nt ns g c : Nat} {l : List Nat} (hx : MdOk x ng nl nu nt ns) (hg : g < ns) (hl : zh x.sta g c = l) : l.length ≤ 1000000 := by
 subst hl
 have h1 : (zh x.sta g c).length ≤ g := qh7 (s := x.sta) (c := c) g g
 have h2 := hx.few.s
 have h3 := hx.ln.s
 omega
theorem qi2 {W w : World} {F T : List Fact} {x : Stm} {ng nl nu nt ns gm c : Nat} {E : Option Addr} {ec : Nat} {l : List Nat} (n : Nat) (L : Mem W w F) (he : F.drop n = mdA gm x ng nl nu nt ns ++ T) {j : Nat} (hE : F[j]? = some (.row (.slice E l.length ec) l.length (l.map I64v) 3 1)) (hj : j < n) (hx : Lns x ng nl nu nt ns) (hlm : ∀ g ∈ l, 0 < g ∧ g < ns) (hln : l.length ≤ 1000000)
  (hgs : gsOk x.gs = true) (hrg : x.rs.length = x.gs.length) (hsp : SpsOk x.gs x.cpus x.rs) (hcr : x.credit < 18446744073709551616) (hcp : x.cpus ≤ 64) (hc : (c : Int) < x.cpus) :
  Calls Tryz.prog 88 #[vP gm 0, .slice E l.length ec, vI c] w (fun r w' => ∃ rs2, r = .returned (.tuple #[]) ∧ rs2.length = ns ∧ SpsOk x.gs x.cpus rs2 ∧ ({ x with rs := rs2 } : Stm).sta = wakeS x.sta l c ∧ Mem W w' (F.take n ++ (mdA gm { x with rs := rs2 } ng nl nu nt ns ++ T))) :=
 (qow W w x gm c ng nl nu nt ns hx (F.take n ++ T) E ec l (List.mem_append_left _ (List.mem_of_getElem? (by rw [List.getElem?_take_of_lt hj]; exact hE))) hlm hln hgs hrg hsp hcr hcp hc (L.front n he)).mono fun r w' ⟨rs2, h1, h2, h3, h4, h5⟩ => ⟨rs2, h1, h2, h3, h4, h5.back⟩
theorem qhi (W w : World) (x : Stm) (gm : Nat) (ng nl nu nt ns : Nat) (hx : MdOk x ng nl nu nt ns) (o : Op30) (ho : o.Ok) (T : List Fact) (L : Mem W w (mdA gm x ng nl nu nt ns ++ T)) :
    Calls Tryz.prog 36 #[vP gm 0, .agg o.cells] w (OpIs W gm T (zx x.sta o)) := by
 obtain ⟨cp, cr, gA, gc, gs, lA, lc, cl, uA, uc, cu, tA, tc, ts, sA, sc, rs⟩ := x
 replace L : Mem W w (fM gm cp cr gA ng gc lA nl lc uA nu uc tA nt tc sA ns sc :: fG gA ng gc gs :: fI lA nl lc cl :: fI uA nu uc cu :: fT tA nt tc ts :: fS sA ns sc rs :: (fR rs ++ (T))) := L
 obtain ⟨hlg, hll, hlu, hlt, hls⟩ := hx.ln
 replace hlg : gs.length = ng := hlg; replace hll : cl.length = nl := hll; replace hlu : cu.length = nu := hlu; replace hlt : ts.length = nt := hlt; replace hls : rs.length = ns := hls
 have hlns := hx.ln
 have hsp : SpsOk gs cp rs := hx.spots
 have hrg : rs.length = gs.length := hx.sh.rs
 have hcr : cr < 18446744073709551616 := hx.ok.credit
 obtain ⟨hcp1, hcp2, _, hgs⟩ := zj hx.sh.cfg
 replace hcp1 : 1 ≤ cp := hcp1; replace hcp2 : cp ≤ 64 := hcp2; replace hgs : gsOk gs = true := hgs
 have hgl1 := (qo hgs).1; have hgl2 := (qo hgs).2.1
 have hcll : (cl.length : Int) = cp := hx.sh.cl; have hcul : (cu.length : Int) = cp := hx.sh.cu
 have hfts : ts.length ≤ 1000000 := hx.few.t
 have hoc := ho.cpu; have hot := ho.task; have hog := ho.group; have how := ho.weight; have hoto := ho.to; have hotk := ho.ticks; have hom := ho.mask; have hok8 := ho.kind; unfold I64 at hoc hot hog how hoto hotk
 refine (Jin2 L Tryz.func36 55) ?_
 refine (JP∘JE) fun w3 g3 => (Jp 2∘Jr∘Jp 1∘Jj∘JQ∘JB∘JP∘Jg 2 O0∘JI (h:=by exact fun L => qfy o.task _)) fun w13 hbw => (Jp 2∘Jd3∘Jj) (Ji' (fun hd10 => ?_) fun hd10 => ?_)
 ·
  exact (JT∘JP∘Jp 2∘Jj∘JZ∘Jz2) fun L => by exact qx (y := (⟨cp, cr, gA, gc, gs, lA, lc, cl, uA, uc, cu, tA, tc, ts, sA, sc, rs⟩ : Stm)) 1 L rfl hlns (if_pos (decide_eq_false hd10))
 refine (JF∘JP∘Jg 4 O0∘JL (h:=by exact fun L => qbm o.weight _)) ?_
 rintro L _ w18 ⟨rfl, hbw⟩
 refine ⟨_, rfl, _, L.call hbw, ?_⟩
 refine (Jp 2∘Jd3∘Jj) (Ji' (fun hd15 => ?_) fun hd15 => ?_)
 ·
  exact (JT∘JP∘Jp 2∘Jj∘JZ∘Jz2) fun L => by exact qx (y := (⟨cp, cr, gA, gc, gs, lA, lc, cl, uA, uc, cu, tA, tc, ts, sA, sc, rs⟩ : Stm)) 1 L rfl hlns ((if_neg (nf (decide_eq_true hd10))).trans (if_pos (decide_eq_false hd15)))
 refine (JF∘JS'∘JQ∘JP∘Jp 1∘Jg 2 O0∘JI (h:=by exact fun L => qel 1 L rfl hx o.task)) fun w23 hbw => (Jp 1∘Jd3∘Jr∘Jp 2∘Jd1∘Jj) (Ju (fun hb25 => ?_) fun hb25 => ?_)
 ·
  intro a I L
  have hd25 := of_decide_eq_true hb25
  exact Jb I L ((JT∘JP∘Jp 2∘Jj∘JZ∘Jz2) fun L => by exact qx (y := (⟨cp, cr, gA, gc, gs, lA, lc, cl, uA, uc, cu, tA, tc, ts, sA, sc, rs⟩ : Stm)) 1 L rfl hlns ((if_neg (nf (decide_eq_true hd10))).trans ((if_neg (nf (decide_eq_true hd15))).trans (if_pos (hd25)))))
 intro a I L
 have hd25 := of_decide_eq_false hb25
 obtain ⟨k, t, hk, ht, hkl, hkid⟩ := qco hd25
 replace hk : fidx ts o.task = (k : Int) := hk; replace ht : ts[k]? = some t := ht; replace hkl : k < ts.length := hkl
 obtain ⟨htg, hto⟩ := hx.task ht
 have hti := htg.id; have htgr := htg.group; have htc := htg.cpu; have htw := htg.weight; have htv := hto.v; have htr := hto.r; have htm := hto.mask
 replace htc : 0 ≤ t.cpu ∧ t.cpu < cp := htc
 obtain ⟨gt, hgt⟩ : ∃ n : Nat, t.group = (n : Int) := ⟨t.group.toNat, by omega⟩
 obtain ⟨ct, hct⟩ : ∃ n : Nat, t.cpu = (n : Int) := ⟨t.cpu.toNat, by omega⟩
 obtain ⟨wt, hwt⟩ : ∃ n : Nat, t.weight = (n : Int) := ⟨t.weight.toNat, by omega⟩
 have hEo : (⟨t.v, t.r, wt⟩ : En).Ok := En.qdf htg.ent hwt htv
 obtain ⟨z, hoz⟩ : ∃ n : Nat, o.weight = (n : Int) := ⟨o.weight.toNat, by omega⟩
 have hz : 1 ≤ z ∧ z ≤ 65536 := by omega
 revert L; revert a; repeat (first | clear I | clear L)
 intro a I L
 obtain ⟨gtA, rfl⟩ := qi (L.own (i := 5) rfl) (Nat.lt_of_le_of_lt (Nat.zero_le _) (show k < nt from (by omega : k < nt)))
 refine Jb I L ((JF∘JS'∘JP∘Jp 1∘Jn∘Jf 0∘Jg 5 O1∘Jp 1∘Jo (vI k) (by rw [hk])∘Jy (h:=by exact Yl.ix0 gtA k 8 rfl rfl rfl)∘Jp 1∘Jd6∘Jj) fun a I L => ?_)
 refine qz (fun aS wS => ∃ (g8 : Nat), Fr aS 55 [] [(8, vP g8 0), (7, vP gtA (k * 8)), (25, .bool false), (6, vI (fidx ts o.task)), (15, .bool false), (10, .bool false), (5, vI 0), (4, vI 0), (3, vP g3 0), (0, vP gm 0)] ∧ Mem W wS (.blk g8 ((⟨t.v, 0, z⟩ : En).cells) 117 :: .blk g3 o.cells 52 :: fM gm cp cr gA ng gc lA nl lc uA nu uc (some ⟨gtA, 0, none⟩) nt tc sA ns sc :: fG gA ng gc gs :: fI lA nl lc cl :: fI uA nu uc cu :: fT (some ⟨gtA, 0, none⟩) nt tc ts :: fS sA ns sc rs :: (fR rs ++ (T)))) ?_ ?_
 ·
  refine Jb I L ((Vs .n [20]) fun wd10 => (Vp [0, 4, 8]∘Vf 13 4∘Vn 1∘Vf 2 6∘Vy 3 (v := vQ t.v) (h:=by exact Yl.qh rfl rfl kr (fun _ h => h.qv qd (i := 5) rfl (k := k) (off := 6) (x := t) (ht) rfl))∘Vn 5∘Vf 6 7∘Vy 7 (v := vW t.r) (h:=by exact Yl.qh rfl rfl kr (fun _ h => h.qv qd (i := 5) rfl (k := k) (off := 7) (x := t) (ht) rfl))∘Vn 9∘Vf 10 2∘Vy 11 (v := vI t.weight) (h:=by exact Yl.qh rfl rfl kr (fun _ h => h.qv qd (i := 5) rfl (k := k) (off := 2) (x := t) (ht) rfl))∘Vo (vI wt) (by rw [hwt])∘Vc 14 O0∘Vo (vI z) (by rw [hoz])) fun a I L HS => ?_)
  refine qj [12, 19] kr rfl ?_
  refine all_cons ?_ ?_
  ·refine qe I (i := 12) rfl rfl ?_
   refine e_is I L [vQ t.v, vW t.r, vI wt] (.agg #[vQ t.v, vW t.r, vW wt]) rfl rfl (zd t.v t.r (wt : Int) om _) fun w46 hbw L a I => ?_
   refine keepS (L.pt 7 [0, 1, 2, 3, 4, 5, 6]) (fun HS => ?_)
   refine qj [15, 19] kr rfl ?_
   refine all_cons ?_ ?_
   ·refine qe I (i := 15) rfl rfl ?_
    refine e_is I L [.agg #[vQ t.v, vW t.r, vW wt], vI z] (.tuple #[.agg ((⟨t.v, 0, z⟩ : En).cells), vI 0]) rfl rfl (qbx (⟨t.v, t.r, wt⟩ : En) hEo z hz _) fun w49 hbw L a I => ?_
    refine keepS (L.pt 7 [0, 1, 2, 3, 4, 5, 6]) (fun HS => ?_)
    refine Vb I L HS ((Vp [16]∘Vx 17∘Vx 18∘VA 19 .n #[vQ 0, vW 0, vW 0]) fun w8 g8 => fun a I L HS => ?_)
    refine s_on I 20 rfl (e_sa I L 0 rfl rfl rfl rfl rfl qs rfl rfl (q9 (⟨t.v, 0, z⟩ : En)) ?_)
    clear L; intro w10_20 L
    refine noS kr ?_
    refine ap I (pastS kr) [21] (bt 22 []) [] fun a I => ?_
    refine qb kr ?_
    exact ⟨g8, I.sub kr, L.pt 8 [0, 1, 2, 3, 4, 5, 6, 7]⟩
   refine all_cons ?_ all_nil
   refine qe I (i := 19) rfl rfl ?_
   refine s_ea I L #[vQ 0, vW 0, vW 0] ?_
   clear I L; intro a w8 g8 I L
   refine keepS (L.pt 8 [1, 2, 3, 4, 5, 6, 7]) (fun HS => ?_)
   refine Vb I L HS ((VI 15 (.f .n) (h:=by exact fun L => qbx (⟨t.v, t.r, wt⟩ : En) hEo z hz _)) fun w49 hbw => (Vp [16]∘Vx 17∘Vx 18) fun a I L HS => ?_)
   refine s_on I 20 rfl (e_sa I L 0 rfl rfl rfl rfl rfl qs rfl rfl (q9 (⟨t.v, 0, z⟩ : En)) ?_)
   clear L; intro w10_20 L
   refine noS kr ?_
   refine ap I (pastS kr) [21] (bt 22 []) [] fun a I => ?_
   refine qb kr ?_
   exact ⟨g8, I.sub kr, L.pt 8 [0, 1, 2, 3, 4, 5, 6, 7]⟩
  refine all_cons ?_ all_nil
  refine qe I (i := 19) rfl rfl ?_
  refine s_ea I L #[vQ 0, vW 0, vW 0] ?_
  clear I L; intro a w8 g8 I L
  refine keepS (L.pt 8 [1, 2, 3, 4, 5, 6, 7]) (fun HS => ?_)
  refine Vb I L HS ((VI 12 (.f .n) (h:=by exact fun L => zd t.v t.r (wt : Int) om _)) fun w46 hbw => (VI 15 (.f .n) (h:=by exact fun L => qbx (⟨t.v, t.r, wt⟩ : En) hEo z hz _)) fun w49 hbw => (Vp [16]∘Vx 17∘Vx 18) fun a I L HS => ?_)
  refine s_on I 20 rfl (e_sa I L 0 rfl rfl rfl rfl rfl qs rfl rfl (q9 (⟨t.v, 0, z⟩ : En)) ?_)
  clear L; intro w10_20 L
  refine noS kr ?_
  refine ap I (pastS kr) [21] (bt 22 []) [] fun a I => ?_
  refine qb kr ?_
  exact ⟨g8, I.sub kr, L.pt 8 [0, 1, 2, 3, 4, 5, 6, 7]⟩
 clear I L; rintro a w10 ⟨g8, I, L⟩
 exact Jb I L ((JP∘Jp 1∘Jy (v := .agg ((⟨t.v, 0, z⟩ : En).cells)) (h:=by exact Yl.loadS rfl rfl qs rfl (fun _ h => qa (h.blk (i := 0) rfl)))∘JO (h:=by exact fun L => qng t (⟨t.v, 0, z⟩ : En) O6' L ht hlt (qrb htv hz))) fun w54 => (Jt3∘Jr∘Jp 2∘Jj∘JZ∘Jz2) fun L => by exact qx (y := (⟨cp, cr, gA, gc, gs, lA, lc, cl, uA, uc, cu, some ⟨gtA, 0, none⟩, tc, (ts.set k (t.put (⟨t.v, 0, z⟩ : En))), sA, sc, rs⟩ : Stm)) 2 L rfl (qen hlns (by rw [List.length_set]; exact hlt)) (qfm (x := (⟨cp, cr, gA, gc, gs, lA, lc, cl, uA, uc, cu, some ⟨gtA, 0, none⟩, tc, ts, sA, sc, rs⟩ : Stm)) (decide_eq_true hd10) (decide_eq_true hd15) hk ht hoz))
theorem ql4 (W w : World) (x : Stm) (gm : Nat) (ng nl nu nt ns : Nat) (hx : MdOk x ng nl nu nt ns) (o : Op30) (ho : o.Ok) (T : List Fact) (L : Mem W w (mdA gm x ng nl nu nt ns ++ T)) :
    Calls Tryz.prog 32 #[vP gm 0, .agg o.cells] w (OpIs W gm T (qce x.sta o)) := by
 obtain ⟨cp, cr, gA, gc, gs, lA, lc, cl, uA, uc, cu, tA, tc, ts, sA, sc, rs⟩ := x
 replace L : Mem W w (fM gm cp cr gA ng gc lA nl lc uA nu uc tA nt tc sA ns sc :: fG gA ng gc gs :: fI lA nl lc cl :: fI uA nu uc cu :: fT tA nt tc ts :: fS sA ns sc rs :: (fR rs ++ (T))) := L
 obtain ⟨hlg, hll, hlu, hlt, hls⟩ := hx.ln
 replace hlg : gs.length = ng := hlg; replace hll : cl.length = nl := hll; replace hlu : cu.length = nu := hlu; replace hlt : ts.length = nt := hlt; replace hls : rs.length = ns := hls
 have hlns := hx.ln
 have hsp : SpsOk gs cp rs := hx.spots
 have hrg : rs.length = gs.length := hx.sh.rs
 have hcr : cr < 18446744073709551616 := hx.ok.credit
 obtain ⟨hcp1, hcp2, _, hgs⟩ := zj hx.sh.cfg
 replace hcp1 : 1 ≤ cp := hcp1; replace hcp2 : cp ≤ 64 := hcp2; replace hgs : gsOk gs = true := hgs
 have hgl1 := (qo hgs).1; have hgl2 := (qo hgs).2.1
 have hcll : (cl.length : Int) = cp := hx.sh.cl; have hcul : (cu.length : Int) = cp := hx.sh.cu
 have hfts : ts.length ≤ 1000000 := hx.few.t
 have hoc := ho.cpu; have hot := ho.task; have hog := ho.group; have how := ho.weight; have hoto := ho.to; have hotk := ho.ticks; have hom := ho.mask; have hok8 := ho.kind; unfold I64 at hoc hot hog how hoto hotk
 obtain ⟨gsA, rfl⟩ := qi (L.own (i := 5) rfl) om
 refine (Jin2 L Tryz.func32 103) ?_
 refine (JP∘JE) fun w3 g3 => (Jp 2∘Jj∘JQ∘JP∘Jg 2 O0∘JI (h:=by exact fun L => qfy o.task _)) fun w13 hbw => (Jp 1∘Jd2∘Jj) (Ji' (fun hd14 => ?_) fun hd14 => ?_)
 ·
  exact (JT∘JP∘Jp 2∘Jj∘JZ∘Jz2) fun L => by exact qx (y := (⟨cp, cr, gA, gc, gs, lA, lc, cl, uA, uc, cu, tA, tc, ts, some ⟨gsA, 0, none⟩, sc, rs⟩ : Stm)) 1 L rfl hlns (if_pos (decide_eq_false hd14))
 refine (JF∘JS'∘JP∘Jp 1∘Jg 2 O0∘JI (h:=by exact fun L => qel 1 L rfl hx o.task)) fun w18 hbw => (Jp 1∘Jd3∘Jj∘JQ∘JB∘JP∘Jp 3∘Jd2∘Jj) (Ju (fun hb19 => ?_) fun hb19 => ?_)
 ·
  intro a I L
  have hd19 := of_decide_eq_true hb19
  exact Jb I L ((JT∘JP∘Jp 2∘Jj∘JZ∘Jz2) fun L => by exact qx (y := (⟨cp, cr, gA, gc, gs, lA, lc, cl, uA, uc, cu, tA, tc, ts, some ⟨gsA, 0, none⟩, sc, rs⟩ : Stm)) 1 L rfl hlns ((if_neg (nf (decide_eq_true hd14))).trans (if_pos (hd19))))
 intro a I L
 have hd19 := of_decide_eq_false hb19
 obtain ⟨k, t, hk, ht, hkl, hkid⟩ := qco hd19
 replace hk : fidx ts o.task = (k : Int) := hk; replace ht : ts[k]? = some t := ht; replace hkl : k < ts.length := hkl
 obtain ⟨htg, hto⟩ := hx.task ht
 have hti := htg.id; have htgr := htg.group; have htc := htg.cpu; have htw := htg.weight; have htv := hto.v; have htr := hto.r; have htm := hto.mask
 replace htc : 0 ≤ t.cpu ∧ t.cpu < cp := htc
 obtain ⟨gt, hgt⟩ : ∃ n : Nat, t.group = (n : Int) := ⟨t.group.toNat, by omega⟩
 obtain ⟨ct, hct⟩ : ∃ n : Nat, t.cpu = (n : Int) := ⟨t.cpu.toNat, by omega⟩
 obtain ⟨wt, hwt⟩ : ∃ n : Nat, t.weight = (n : Int) := ⟨t.weight.toNat, by omega⟩
 have hEo : (⟨t.v, t.r, wt⟩ : En).Ok := En.qdf htg.ent hwt htv
 revert L; revert a; repeat (first | clear I | clear L)
 intro a I L
 obtain ⟨gtA, rfl⟩ := qi (L.own (i := 5) rfl) (Nat.lt_of_le_of_lt (Nat.zero_le _) (show k < nt from (by omega : k < nt)))
 refine Jb I L ((JF∘JP∘Jp 1∘Jn∘Jf 0∘Jg 5 O1∘Jp 1∘Jo (vI k) (by rw [hk])∘Jy (h:=by exact Yl.ix0 gtA k 8 rfl rfl rfl)∘Jf 5∘Jy (v := .bool t.ready) (h:=by exact Yl.qh rfl rfl kr (fun _ h => h.qv qd (i := 5) rfl (k := k) (off := 5) (x := t) (ht) rfl))∘Jp 1∘Jd6∘Jj) (Ju (fun hb22 => ?_) fun hb22 => ?_))
 ·
  exact (JT∘JP∘Jp 2∘Jj∘JZ∘Jz2) fun L => by exact qx (y := (⟨cp, cr, gA, gc, gs, lA, lc, cl, uA, uc, cu, some ⟨gtA, 0, none⟩, tc, ts, some ⟨gsA, 0, none⟩, sc, rs⟩ : Stm)) 1 L rfl hlns ((if_neg (nf (decide_eq_true hd14))).trans ((if_neg (hd19)).trans (if_pos (by rw [qao (s := Stm.sta (⟨cp, cr, gA, gc, gs, lA, lc, cl, uA, uc, cu, some ⟨gtA, 0, none⟩, tc, ts, some ⟨gsA, 0, none⟩, sc, rs⟩ : Stm)) hk ht]; exact hb22))))
 intro a I L
 have hnr : t.ready = false := by simpa using hb22
 obtain ⟨em, hem⟩ : ∃ l, zh (⟨cp, cr, gA, gc, gs, lA, lc, cl, uA, uc, cu, some ⟨gtA, 0, none⟩, tc, ts, some ⟨gsA, 0, none⟩, sc, rs⟩ : Stm).sta gt ct = l := ⟨_, rfl⟩
 have hemm := fun h hh => qi1 (x := (⟨cp, cr, gA, gc, gs, lA, lc, cl, uA, uc, cu, some ⟨gtA, 0, none⟩, tc, ts, some ⟨gsA, 0, none⟩, sc, rs⟩ : Stm)) hx (by omega : gt < ns) hem h hh
 have hemn := qgu (x := (⟨cp, cr, gA, gc, gs, lA, lc, cl, uA, uc, cu, some ⟨gtA, 0, none⟩, tc, ts, some ⟨gsA, 0, none⟩, sc, rs⟩ : Stm)) hx (by omega : gt < ns) hem
 obtain ⟨⟨yA, yc, yl⟩, hy⟩ : ∃ y, rs.getD gt Rw.zero = y := ⟨_, rfl⟩
 have hys := hsp gt om; rw [hy] at hys
 have hyl : (yl.length : Int) = cp := hys.1
 revert L; revert a; repeat (first | clear I | clear L)
 intro a I L
 obtain ⟨gy, rfl⟩ := L.rwSome 7 rfl om hy om
 obtain ⟨yz, hyz⟩ : ∃ z, yl[ct]? = some z := ⟨_, List.getElem?_eq_getElem om⟩
 have hyo := hys.2 yz (List.mem_of_getElem? hyz)
 have hyv := hyo.1.v; have hyr := hyo.1.r; have hyf := hyo.1.floor
 obtain ⟨e, hew⟩ : ∃ e, (⟨t.v, t.r, wt⟩ : En).woken yz.floor cr = e := ⟨_, rfl⟩
 have heo : e.Ok ∧ e.w = wt := by rw [← hew]; exact En.qdd hEo _ _ hyf
 have hev := heo.1.2; have her := qbv heo.1.1
 refine Jb I L ((JF∘JS'∘JP∘Jp 1∘Jn∘Jf 0∘Jg 5 O1∘Jp 1∘Jo (vI k) (by rw [hk])∘Jy (h:=by exact Yl.ix0 gtA k 8 rfl rfl rfl)∘Jp 1∘Jd6∘Jj) fun a I L => ?_)
 refine wp_seq ?_
 refine Jb I L ((Vs .n []) fun wd9 => (Vp [0, 1, 5]∘Vn 2∘Vf 3 1∘Vy 4 (v := vI t.group) (h:=by exact Yl.qh rfl rfl kr (fun _ h => h.qv qd (i := 5) rfl (k := k) (off := 1) (x := t) (ht) rfl))∘Vo (vI gt) (by rw [hgt])∘Vn 6∘Vf 7 3∘Vy 8 (v := vI t.cpu) (h:=by exact Yl.qh rfl rfl kr (fun _ h => h.qv qd (i := 5) rfl (k := k) (off := 3) (x := t) (ht) rfl))∘Vo (vI ct) (by rw [hct])∘VK 9 .n (h:=by exact fun L => qi0 1 L rfl hx (by show ((ct : Nat) : Int) < cp; omega) om hem)) fun A48 c48 w48 hc48 => (Vp [10]∘Vd∘Jd6) fun a I L => ?_)
 refine qz (fun aS wS => ∃ (g9 : Nat), Fr aS 103 [] [(9, vP g9 0), (8, .slice A48 em.length c48), (7, vP gtA (k * 8)), (22, .bool false), (19, .bool false), (6, vI (fidx ts o.task)), (14, .bool false), (5, vI 0), (4, vI 0), (3, vP g3 0), (0, vP gm 0)] ∧ Mem W wS (.blk g9 e.cells 117 :: .row (.slice A48 em.length c48) em.length (em.map I64v) 3 1 :: .blk g3 o.cells 52 :: fM gm cp cr gA ng gc lA nl lc uA nu uc (some ⟨gtA, 0, none⟩) nt tc (some ⟨gsA, 0, none⟩) ns sc :: fG gA ng gc gs :: fI lA nl lc cl :: fI uA nu uc cu :: fT (some ⟨gtA, 0, none⟩) nt tc ts :: fS (some ⟨gsA, 0, none⟩) ns sc rs :: (fR rs ++ (T)))) ?_ ?_
 ·
  refine Jb I L ((Vs .n [42]) fun wd10 => (Vp [0, 4, 8, 13, 18, 24, 31]∘Vn 1∘Vf 2 6∘Vy 3 (v := vQ t.v) (h:=by exact Yl.qh rfl rfl kr (fun _ h => h.qv qd (i := 6) rfl (k := k) (off := 6) (x := t) (ht) rfl))∘Vn 5∘Vf 6 7∘Vy 7 (v := vW t.r) (h:=by exact Yl.qh rfl rfl kr (fun _ h => h.qv qd (i := 6) rfl (k := k) (off := 7) (x := t) (ht) rfl))∘Vn 9∘Vf 10 2∘Vy 11 (v := vI t.weight) (h:=by exact Yl.qh rfl rfl kr (fun _ h => h.qv qd (i := 6) rfl (k := k) (off := 2) (x := t) (ht) rfl))∘Vo (vI wt) (by rw [hwt])∘Vn 14∘Vf 15 0∘Vf 16 6∘Vc 17 O2∘Vn 19∘Vf 20 1∘Vy 21 (v := vI t.group) (h:=by exact Yl.qh rfl rfl kr (fun _ h => h.qv qd (i := 6) rfl (k := k) (off := 1) (x := t) (ht) rfl))∘Vo (vI gt) (by rw [hgt])∘Vy 22 (h:=by exact Yl.ix0 gsA gt 1 rfl rfl rfl)∘Vy 23 (v := .slice ((rs.getD gt Rw.zero).A) ((rs.getD gt Rw.zero).l.length) ((rs.getD gt Rw.zero).c)) (h:=by exact Yl.r1 7 gt Rw.zero om rfl rfl rfl)∘Vo (vS gy yl.length yc) (by rw [hy])∘Vn 25∘Vf 26 3∘Vy 27 (v := vI t.cpu) (h:=by exact Yl.qh rfl rfl kr (fun _ h => h.qv qd (i := 6) rfl (k := k) (off := 3) (x := t) (ht) rfl))∘Vo (vI ct) (by rw [hct])∘Vy 28 (h:=by exact Yl.ix0 gy ct 3 rfl rfl rfl)∘Vf 29 2∘Vy 30 (v := vQ yz.floor) (h:=by exact Yl.qh rfl rfl kr (fun _ h => h.qa1 8 (j := 2) rfl om hy (hyz) rfl))∘Vn 32∘Vf 33 0∘Vf 34 0∘Vf 35 1∘Vc 36 O2) fun a I L HS => ?_)
  refine qj [12, 41] kr rfl ?_
  refine all_cons ?_ ?_
  ·refine qe I (i := 12) rfl rfl ?_
   refine e_is I L [vQ t.v, vW t.r, vI wt] (.agg #[vQ t.v, vW t.r, vW wt]) rfl rfl (zd t.v t.r (wt : Int) om _) fun w62 hbw L a I => ?_
   refine keepS (L.pt 8 [0, 1, 2, 3, 4, 5, 6, 7]) (fun HS => ?_)
   refine qj [37, 41] kr rfl ?_
   refine all_cons ?_ ?_
   ·refine qe I (i := 37) rfl rfl ?_
    refine e_is I L [.agg #[vQ t.v, vW t.r, vW wt], vQ yz.floor, vQ cr] (.tuple #[.agg e.cells, vI 0]) rfl rfl (qc9 (⟨t.v, t.r, wt⟩ : En) e hEo yz.floor cr hyf hcr hew _) fun w87 hbw L a I => ?_
    refine keepS (L.pt 8 [0, 1, 2, 3, 4, 5, 6, 7]) (fun HS => ?_)
    refine Vb I L HS ((Vp [38]∘Vx 39∘Vx 40∘VA 41 .n #[vQ 0, vW 0, vW 0]) fun w9 g9 => fun a I L HS => ?_)
    refine s_on I 42 rfl (e_sa I L 0 rfl rfl rfl rfl rfl qs rfl rfl (q9 e) ?_)
    clear L; intro w10_42 L
    refine noS kr ?_
    refine ap I (pastS kr) [43] (bt 44 []) [] fun a I => ?_
    refine qb kr ?_
    replace I := I.to [(9, vP g9 0), (8, .slice A48 em.length c48), (7, vP gtA (k * 8)), (22, .bool false), (19, .bool false), (6, vI (fidx ts o.task)), (14, .bool false), (5, vI 0), (4, vI 0), (3, vP g3 0), (0, vP gm 0)]
    exact ⟨g9, I.sub kr, L.pt 9 [0, 1, 2, 3, 4, 5, 6, 7, 8]⟩
   refine all_cons ?_ all_nil
   refine qe I (i := 41) rfl rfl ?_
   refine s_ea I L #[vQ 0, vW 0, vW 0] ?_
   clear I L; intro a w9 g9 I L
   refine keepS (L.pt 9 [1, 2, 3, 4, 5, 6, 7, 8]) (fun HS => ?_)
   refine Vb I L HS ((VI 37 (.f .n) (h:=by exact fun L => qc9 (⟨t.v, t.r, wt⟩ : En) e hEo yz.floor cr hyf hcr hew _)) fun w87 hbw => (Vp [38]∘Vx 39∘Vx 40) fun a I L HS => ?_)
   refine s_on I 42 rfl (e_sa I L 0 rfl rfl rfl rfl rfl qs rfl rfl (q9 e) ?_)
   clear L; intro w10_42 L
   refine noS kr ?_
   refine ap I (pastS kr) [43] (bt 44 []) [] fun a I => ?_
   refine qb kr ?_
   replace I := I.to [(9, vP g9 0), (8, .slice A48 em.length c48), (7, vP gtA (k * 8)), (22, .bool false), (19, .bool false), (6, vI (fidx ts o.task)), (14, .bool false), (5, vI 0), (4, vI 0), (3, vP g3 0), (0, vP gm 0)]
   exact ⟨g9, I.sub kr, L.pt 9 [0, 1, 2, 3, 4, 5, 6, 7, 8]⟩
  refine all_cons ?_ all_nil
  refine qe I (i := 41) rfl rfl ?_
  refine s_ea I L #[vQ 0, vW 0, vW 0] ?_
  clear I L; intro a w9 g9 I L
  refine keepS (L.pt 9 [1, 2, 3, 4, 5, 6, 7, 8]) (fun HS => ?_)
  refine Vb I L HS ((VI 12 (.f .n) (h:=by exact fun L => zd t.v t.r (wt : Int) om _)) fun w62 hbw => (VI 37 (.f .n) (h:=by exact fun L => qc9 (⟨t.v, t.r, wt⟩ : En) e hEo yz.floor cr hyf hcr hew _)) fun w87 hbw => (Vp [38]∘Vx 39∘Vx 40) fun a I L HS => ?_)
  refine s_on I 42 rfl (e_sa I L 0 rfl rfl rfl rfl rfl qs rfl rfl (q9 e) ?_)
  clear L; intro w10_42 L
  refine noS kr ?_
  refine ap I (pastS kr) [43] (bt 44 []) [] fun a I => ?_
  refine qb kr ?_
  replace I := I.to [(9, vP g9 0), (8, .slice A48 em.length c48), (7, vP gtA (k * 8)), (22, .bool false), (19, .bool false), (6, vI (fidx ts o.task)), (14, .bool false), (5, vI 0), (4, vI 0), (3, vP g3 0), (0, vP gm 0)]
  exact ⟨g9, I.sub kr, L.pt 9 [0, 1, 2, 3, 4, 5, 6, 7, 8]⟩
 clear I L; rintro a w10 ⟨g9, I, L⟩
 refine Jb I L ((JP∘Jp 1∘Jy (v := .agg e.cells) (h:=by exact Yl.loadS rfl rfl qs rfl (fun _ h => qa (h.blk (i := 0) rfl)))∘JO (h:=by exact fun L => qng t e O7' L ht hlt heo.1)) fun w92 => (Jt3∘Jr∘Jp 1∘Jn∘Jf 5) fun a I L => ?_)
 refine fo I 3 rfl rfl ?_
 refine qk I L (i := 7) rfl rfl rfl rfl kr rfl rfl (by rw [qy tkL 8 qd, List.length_set]; omega) ?_
 clear L; intro w12_3 L
 replace L := L.asRow (i := 7) (ys := (ts.set k { t.put e with ready := true }).flatMap tkL) rfl ((qw tkL 8 qd (ts.set k (t.put e)) k (t.put e) { t.put e with ready := true } (qbg ht) 5 de _ rfl).trans (by rw [List.set_set]))
 refine Jb I L ((Jt3∘Jr∘Jp 3∘Jn∘Jf 3∘Jy (v := vI (({ t.put e with ready := true } : Tk).cpu)) (h:=by exact Yl.qh rfl rfl kr (fun _ h => h.qv qd (i := 7) rfl (k := k) (off := 3) (x := ({ t.put e with ready := true } : Tk)) ((qbg ht)) rfl))∘Jo (vI ct) (by rw [← hct]; try rfl)∘JL (h:=by exact fun L => qi2 3 L rfl (j := 1) rfl de (qen (ts' := ts.set k { t.put e with ready := true }) hlns (by rw [List.length_set]; exact hlt)) (hemm) (hemn) hgs hrg hsp hcr hcp2 (by show ((ct : Nat) : Int) < cp; omega))) ?_)
 rintro L _ w102 ⟨rs2, rfl, hl2, hsp2, hst2, HM2⟩
 refine ⟨_, rfl, _, (show Mem W w102 (.blk g9 e.cells 117 :: .row (.slice A48 em.length c48) em.length (em.map I64v) 3 1 :: .blk g3 o.cells 52 :: fM gm cp cr gA ng gc lA nl lc uA nu uc (some ⟨gtA, 0, none⟩) nt tc (some ⟨gsA, 0, none⟩) ns sc :: fG gA ng gc gs :: fI lA nl lc cl :: fI uA nu uc cu :: fT (some ⟨gtA, 0, none⟩) nt tc (ts.set k { t.put e with ready := true }) :: fS (some ⟨gsA, 0, none⟩) ns sc rs2 :: (fR rs2 ++ (T))) from HM2), ?_⟩
 exact (Jt6∘Jr∘Jp 2∘Jj∘JZ∘Jz2) fun L => by exact qx (y := (⟨cp, cr, gA, gc, gs, lA, lc, cl, uA, uc, cu, some ⟨gtA, 0, none⟩, tc, (ts.set k { t.put e with ready := true }), some ⟨gsA, 0, none⟩, sc, rs2⟩ : Stm)) 3 L rfl (qnh (qen hlns (by rw [List.length_set]; exact hlt)) hl2) ((qkj (x := (⟨cp, cr, gA, gc, gs, lA, lc, cl, uA, uc, cu, some ⟨gtA, 0, none⟩, tc, ts, some ⟨gsA, 0, none⟩, sc, rs⟩ : Stm)) (decide_eq_true hd14) hk ht hnr hgt hct hwt (qan (x := (⟨cp, cr, gA, gc, gs, lA, lc, cl, uA, uc, cu, some ⟨gtA, 0, none⟩, tc, ts, some ⟨gsA, 0, none⟩, sc, rs⟩ : Stm)) (by show gt < rs.length; omega) hy hyz) hew hem).trans (by rw [← hst2]))
theorem qoy (W w : World) (x : Stm) (gm : Nat) (ng nl nu nt ns : Nat) (hx : MdOk x ng nl nu nt ns) (o : Op30) (ho : o.Ok) (T : List Fact) (L : Mem W w (mdA gm x ng nl nu nt ns ++ T)) :
    Calls Tryz.prog 35 #[vP gm 0, .agg o.cells] w (OpIs W gm T (pickS x.sta o)) := by
 obtain ⟨cp, cr, gA, gc, gs, lA, lc, cl, uA, uc, cu, tA, tc, ts, sA, sc, rs⟩ := x
 replace L : Mem W w (fM gm cp cr gA ng gc lA nl lc uA nu uc tA nt tc sA ns sc :: fG gA ng gc gs :: fI lA nl lc cl :: fI uA nu uc cu :: fT tA nt tc ts :: fS sA ns sc rs :: (fR rs ++ (T))) := L
 obtain ⟨hlg, hll, hlu, hlt, hls⟩ := hx.ln
 replace hlg : gs.length = ng := hlg; replace hll : cl.length = nl := hll; replace hlu : cu.length = nu := hlu; replace hlt : ts.length = nt := hlt; replace hls : rs.length = ns := hls
 have hlns := hx.ln
 have hsp : SpsOk gs cp rs := hx.spots
 have hrg : rs.length = gs.length := hx.sh.rs
 have hcr : cr < 18446744073709551616 := hx.ok.credit
 obtain ⟨hcp1, hcp2, _, hgs⟩ := zj hx.sh.cfg
 replace hcp1 : 1 ≤ cp := hcp1; replace hcp2 : cp ≤ 64 := hcp2; replace hgs : gsOk gs = true := hgs
 have hgl1 := (qo hgs).1; have hgl2 := (qo hgs).2.1
 have hcll : (cl.length : Int) = cp := hx.sh.cl; have hcul : (cu.length : Int) = cp := hx.sh.cu
 have hfts : ts.length ≤ 1000000 := hx.few.t
 have hoc := ho.cpu; have hot := ho.task; have hog := ho.group; have how := ho.weight; have hoto := ho.to; have hotk := ho.ticks; have hom := ho.mask; have hok8 := ho.kind; unfold I64 at hoc hot hog how hoto hotk
 obtain ⟨guA, rfl⟩ := qi (L.own (i := 3) rfl) om
 refine (Jin2 L Tryz.func35 32) ?_
 refine (JP∘JE) fun w3 g3 => (Jp 2∘Jj∘JQ∘JP∘Jp 1∘Jg 1 O0∘JI (h:=by exact fun L => qhy 1 L rfl hx o.cpu)) fun w9 hbw => (Jp 1∘Jd3∘Jj) (Ju (fun hb10 => ?_) fun hb10 => ?_)
 ·
  intro a I L
  have hd10 := of_decide_eq_false ((Bool.not_eq_true' _).mp hb10)
  exact Jb I L ((JT∘JP∘Jp 2∘Jj∘JZ∘Jz2) fun L => by exact qx (y := (⟨cp, cr, gA, gc, gs, lA, lc, cl, some ⟨guA, 0, none⟩, uc, cu, tA, tc, ts, sA, sc, rs⟩ : Stm)) 1 L rfl hlns (if_pos (decide_eq_false hd10)))
 intro a I L
 have hd10 := of_decide_eq_true ((Bool.not_eq_false' _).mp hb10)
 replace hd10 : 0 ≤ o.cpu ∧ o.cpu < cp := hd10
 obtain ⟨c, hcc⟩ : ∃ n : Nat, o.cpu = (n : Int) := ⟨o.cpu.toNat, by omega⟩
 have hccp : ((c : Nat) : Int) < cp := by omega
 refine Jb I L ((JF∘JS') fun a I L => ?_)
 refine wp_seq ?_
 refine Jb I L ((Vs .n [12]) fun wd3 => (Vp [0]∘Vf 5 1∘Vp [7]∘Vf 8 1∘Vn 1∘Vf 2 0∘Vf 3 4∘Vc 4 O1∘Vc 6 O0∘Vo (vI c) (by rw [hcc])∘Vc 9 O0∘Vo (vI c) (by rw [hcc])∘VI 10 .n (h:=by exact fun L => quh 1 L rfl hx (by show ((c : Nat) : Int) < cp; omega))) fun w21 hbw => (Vy 11 (h:=by exact Yl.ix0 guA c 1 rfl rfl rfl)) fun a I L HS => ?_)
 refine s_on I 12 rfl ?_
 refine qk I L (i := 4) rfl rfl rfl rfl kr rfl rfl (by rw [List.length_map]; omega) ?_
 clear L; intro w3_12 L
 replace L := L.asRow (i := 4) (ys := (cu.set c (ze (⟨cp, cr, gA, gc, gs, lA, lc, cl, some ⟨guA, 0, none⟩, uc, cu, tA, tc, ts, sA, sc, rs⟩ : Stm).sta c : Int)).map I64i) rfl (zt I64i cu c (ze (⟨cp, cr, gA, gc, gs, lA, lc, cl, some ⟨guA, 0, none⟩, uc, cu, tA, tc, ts, sA, sc, rs⟩ : Stm).sta c : Int) om)
 refine noS kr ?_
 refine qb kr ?_
 refine wp_seq ?_
 exact Jb I L ((Vs .n []) fun wd4 => (Vp [0]∘Vf 5 1∘Vn 1∘Vf 2 0∘Vf 3 4∘Vc 4 O1∘Vc 6 O0∘Vo (vI c) (by rw [hcc])∘Vy 7 (h:=by exact Yl.ix0 guA c 1 rfl rfl rfl)∘Vy 8 (v := vI (ze (⟨cp, cr, gA, gc, gs, lA, lc, cl, some ⟨guA, 0, none⟩, uc, cu, tA, tc, ts, sA, sc, rs⟩ : Stm).sta c)) (h:=by exact Yl.qh rfl rfl kr (fun _ h => h.qhc (i := 4) rfl (k := c) (qdg (F := I64i) (k := c) (x := (ze (⟨cp, cr, gA, gc, gs, lA, lc, cl, some ⟨guA, 0, none⟩, uc, cu, tA, tc, ts, sA, sc, rs⟩ : Stm).sta c : Int)) ((List.getElem?_set_self om)))))∘Vp [9, 10]∘Vd∘JZ∘Jz2) fun L => by exact qx (y := (⟨cp, cr, gA, gc, gs, lA, lc, cl, some ⟨guA, 0, none⟩, uc, (cu.set c (ze (⟨cp, cr, gA, gc, gs, lA, lc, cl, some ⟨guA, 0, none⟩, uc, cu, tA, tc, ts, sA, sc, rs⟩ : Stm).sta c : Int)), tA, tc, ts, sA, sc, rs⟩ : Stm)) 1 L rfl ⟨hlns.g, hlns.l, by show (cu.set _ _).length = nu; rw [List.length_set]; exact hlu, hlns.t, hlns.s⟩ (qt5 (x := (⟨cp, cr, gA, gc, gs, lA, lc, cl, some ⟨guA, 0, none⟩, uc, cu, tA, tc, ts, sA, sc, rs⟩ : Stm)) hcc (decide_eq_true hd10)))
theorem qe8 (x e : En) (hx : x.Ok) (d : Nat) (hd : d ≤ 4294967295) (he : x.add d = e) (w : World) : Calls Tryz.prog 92 #[.agg x.cells, vI d] w (Is w (.tuple #[.agg e.cells, vI 0])) := he ▸ qt4 x hx d hd w
theorem qnr {W w : World} {F T : List Fact} {x : Stm} {ng nl nu nt ns gm : Nat} (n : Nat) (L : Mem W w F) (he : F.drop n = mdA gm x ng nl nu nt ns ++ T) (hx : MdOk x ng nl nu nt ns) (id : Int) (k : Nat) (hk : fidx x.ts id = (k : Int)) : Calls Tryz.prog 50 #[vP gm 0, vI id] w (Is w (vI k)) := hk ▸ qel n L he hx id
theorem quj {x : Stm} {ng nl nu nt ns c : Nat} (h : MdOk x ng nl nu nt ns) (v : Int) (hv : 0 ≤ v ∧ v ≤ 281474976710656) : MdOk ({ x with cl := x.cl.set c v } : Stm) ng nl nu nt ns := by
 refine ⟨⟨h.ok.cpus, h.ok.credit, h.ok.gs, fun z hz => ?_, h.ok.cu, h.ok.ts, h.ok.sp⟩, ⟨h.few.g, by show (x.cl.set c v).length ≤ _; rw [List.length_set]; exact h.few.l, h.few.u, h.few.t, h.few.s, h.few.r⟩, ⟨h.sh.cfg, by show ((x.cl.set c v).length : Int) = _; rw [List.length_set]; exact h.sh.cl, h.sh.cu, h.sh.rs, fun d hd => ?_, h.sh.row, h.sh.tk⟩, ⟨h.ln.g, by show (x.cl.set c v).length = _; rw [List.length_set]; exact h.ln.l, h.ln.u, h.ln.t, h.ln.s⟩⟩
 ·rcases List.mem_or_eq_of_mem_set hz with h1 | rfl
  ·exact h.ok.cl z h1
  ·unfold I64; omega
 ·have hd' : d < (x.cl.set c v).length := hd
  show clOk ((x.cl.set c v).getD d 0) = true
  rw [List.length_set] at hd'
  by_cases e : c = d
  ·subst e
   rw [qm _ _ hd']
   unfold clOk
   rw [decide_eq_true hv]
  ·rw [getD_set_ne _ _ e]
   exact h.sh.cls d hd'
theorem qeq {x : Stm} {c : Nat} (h : curOk x.sta c = true) (h0 : x.cu.getD c 0 ≠ 0) : ∃ (k : Nat) (t : Tk), fidx x.ts (x.cu.getD c 0) = (k : Int) ∧ x.ts[k]? = some t ∧ k < x.ts.length ∧ t.id = x.cu.getD c 0 := by
 refine qco fun hf => ?_
 rw [qe2 h0 (qlu hf)] at h
 cases h
theorem qoz (W w : World) (x : Stm) (gm : Nat) (ng nl nu nt ns : Nat) (hx : MdOk x ng nl nu nt ns) (o : Op30) (ho : o.Ok) (T : List Fact) (L : Mem W w (mdA gm x ng nl nu nt ns ++ T)) (hcur : ∀ c, c < x.cu.length → curOk x.sta c = true) :
    Calls Tryz.prog 34 #[vP gm 0, .agg o.cells] w (OpIs W gm T (tickS x.sta o)) := by
 obtain ⟨cp, cr, gA, gc, gs, lA, lc, cl, uA, uc, cu, tA, tc, ts, sA, sc, rs⟩ := x
 replace L : Mem W w (fM gm cp cr gA ng gc lA nl lc uA nu uc tA nt tc sA ns sc :: fG gA ng gc gs :: fI lA nl lc cl :: fI uA nu uc cu :: fT tA nt tc ts :: fS sA ns sc rs :: (fR rs ++ (T))) := L
 obtain ⟨hlg, hll, hlu, hlt, hls⟩ := hx.ln
 replace hlg : gs.length = ng := hlg; replace hll : cl.length = nl := hll; replace hlu : cu.length = nu := hlu; replace hlt : ts.length = nt := hlt; replace hls : rs.length = ns := hls
 have hlns := hx.ln
 have hsp : SpsOk gs cp rs := hx.spots
 have hrg : rs.length = gs.length := hx.sh.rs
 have hcr : cr < 18446744073709551616 := hx.ok.credit
 obtain ⟨hcp1, hcp2, _, hgs⟩ := zj hx.sh.cfg
 replace hcp1 : 1 ≤ cp := hcp1; replace hcp2 : cp ≤ 64 := hcp2; replace hgs : gsOk gs = true := hgs
 have hgl1 := (qo hgs).1; have hgl2 := (qo hgs).2.1
 have hcll : (cl.length : Int) = cp := hx.sh.cl; have hcul : (cu.length : Int) = cp := hx.sh.cu
 have hfts : ts.length ≤ 1000000 := hx.few.t
 have hoc := ho.cpu; have hot := ho.task; have hog := ho.group; have how := ho.weight; have hoto := ho.to; have hotk := ho.ticks; have hom := ho.mask; have hok8 := ho.kind; unfold I64 at hoc hot hog how hoto hotk
 have hcuo := hx.ok.cu; have hclo := hx.ok.cl
 have hcls := hx.sh.cls
 obtain ⟨ggA, rfl⟩ := qi (L.own (i := 1) rfl) om
 obtain ⟨glA, rfl⟩ := qi (L.own (i := 2) rfl) om
 obtain ⟨guA, rfl⟩ := qi (L.own (i := 3) rfl) om
 obtain ⟨gsA, rfl⟩ := qi (L.own (i := 5) rfl) om
 refine (Jin2 L Tryz.func34 158) ?_
 refine (JP∘JE) fun w3 g3 => (Jp 2∘Jr∘Jp 1∘Jn∘Jf 0∘Jp 1∘Jd3∘Jj∘JQ∘JB∘JP∘Jp 1∘Jg 1 O0∘JI (h:=by exact fun L => qhy 1 L rfl hx o.cpu)) fun w22 hbw => (Jp 2∘Jd4∘Jj) (Ju (fun hb18 => ?_) fun hb18 => ?_)
 ·
  intro a I L
  have hd18 := of_decide_eq_false ((Bool.not_eq_true' _).mp hb18)
  exact Jb I L ((JT∘JP∘Jp 2∘Jj∘JZ∘Jz2) fun L => by exact qx (y := (⟨cp, cr, some ⟨ggA, 0, none⟩, gc, gs, some ⟨glA, 0, none⟩, lc, cl, some ⟨guA, 0, none⟩, uc, cu, tA, tc, ts, some ⟨gsA, 0, none⟩, sc, rs⟩ : Stm)) 1 L rfl hlns (if_pos (decide_eq_false hd18)))
 intro a I L
 have hd18 := of_decide_eq_true ((Bool.not_eq_false' _).mp hb18)
 replace hd18 : 0 ≤ o.cpu ∧ o.cpu < cp := hd18
 obtain ⟨c, hcc⟩ : ∃ n : Nat, o.cpu = (n : Int) := ⟨o.cpu.toNat, by omega⟩
 have hccp : ((c : Nat) : Int) < cp := by omega
 have hclb := hcls c (by show c < cl.length; omega); replace hclb : 0 ≤ (cl.getD c 0) ∧ (cl.getD c 0) ≤ 281474976710656 := by unfold clOk at hclb; simpa using hclb
 obtain ⟨v, hv⟩ : ∃ z, (cl.getD c 0) = z := ⟨_, rfl⟩
 rw [hv] at hclb
 refine Jb I L ((JF∘JP∘Jg 6 O0∘Jp 2) (Ji (fun hd28 => ?_) fun hd28 => ?_))
 ·
  exact (Jp 5∘Jd6∘Jj∘JT∘JP∘Jp 2∘Jj∘JZ∘Jz2) fun L => by exact qx (y := (⟨cp, cr, some ⟨ggA, 0, none⟩, gc, gs, some ⟨glA, 0, none⟩, lc, cl, some ⟨guA, 0, none⟩, uc, cu, tA, tc, ts, some ⟨gsA, 0, none⟩, sc, rs⟩ : Stm)) 1 L rfl hlns ((if_neg (nf (decide_eq_true hd18))).trans (if_pos om))
 refine (Jg 6 O0∘Jp 3∘Jd6∘Jj) (Ju (fun hb24 => ?_) fun hb24 => ?_)
 ·
  intro a I L
  have hd24 := of_decide_eq_true hb24
  exact Jb I L ((JT∘JP∘Jp 2∘Jj∘JZ∘Jz2) fun L => by exact qx (y := (⟨cp, cr, some ⟨ggA, 0, none⟩, gc, gs, some ⟨glA, 0, none⟩, lc, cl, some ⟨guA, 0, none⟩, uc, cu, tA, tc, ts, some ⟨gsA, 0, none⟩, sc, rs⟩ : Stm)) 1 L rfl hlns ((if_neg (nf (decide_eq_true hd18))).trans (if_pos om)))
 intro a I L
 have hd24 := of_decide_eq_false hb24
 have htk : 1 ≤ o.ticks ∧ o.ticks ≤ 4294967295 := by omega
 obtain ⟨d, hod⟩ : ∃ n : Nat, o.ticks = (n : Int) := ⟨o.ticks.toNat, by omega⟩
 have hd0 : d ≤ 4294967295 := by omega
 refine Jb I L ((JF) fun a I L => ?_)
 refine wp_seq ?_
 refine Jb I L ((Vs .n []) fun wd6 => (Vp [0]∘Vf 4 1∘Vf 8 6∘Vn 1∘Vf 2 3∘Vc 3 O1∘Vc 5 O0∘Vo (vI c) (by rw [hcc])∘Vy 6 (h:=by exact Yl.ix0 glA c 1 rfl rfl rfl)∘Vy 7 (v := vI (cl.getD c 0)) (h:=by exact Yl.r1 3 c 0 om rfl rfl rfl)∘Vo (vI v) (by rw [hv])∘Vc 9 O0∘Vo (vI d) (by rw [hod])∘Vp [10]∘Vo (vI (v + d)) (by exact qcb ⟨by omega, by omega⟩)∘Vp [11, 12]∘Vd∘Jd6) (Ju (fun hb33 => ?_) fun hb33 => ?_))
 ·
  intro a I L
  have hd33 := of_decide_eq_true hb33
  exact Jb I L ((JT∘JP∘Jp 2∘Jj∘JZ∘Jz2) fun L => by exact qx (y := (⟨cp, cr, some ⟨ggA, 0, none⟩, gc, gs, some ⟨glA, 0, none⟩, lc, cl, some ⟨guA, 0, none⟩, uc, cu, tA, tc, ts, some ⟨gsA, 0, none⟩, sc, rs⟩ : Stm)) 1 L rfl hlns ((if_neg (nf (decide_eq_true hd18))).trans ((if_neg om).trans (if_pos (by show 281474976710656 < cl.getD o.cpu.toNat 0 + o.ticks; rw [hcc, Int.toNat_natCast, hv]; omega)))))
 intro a I L
 have hd33 := of_decide_eq_false hb33
 obtain ⟨id, hid⟩ : ∃ z, cu.getD c 0 = z := ⟨_, rfl⟩
 have hxk := quj (x := (⟨cp, cr, some ⟨ggA, 0, none⟩, gc, gs, some ⟨glA, 0, none⟩, lc, cl, some ⟨guA, 0, none⟩, uc, cu, tA, tc, ts, some ⟨gsA, 0, none⟩, sc, rs⟩ : Stm)) (c := c) hx (v + d) ⟨by omega, by omega⟩
 have hidI : I64 id := by rw [← hid]; exact hcuo _ (qf 0 (by show c < cu.length; omega))
 unfold I64 at hidI
 refine Jb I L ((JF∘JS') fun a I L => ?_)
 refine wp_seq ?_
 refine Jb I L ((Vs .n [12]) fun wd8 => (Vp [0]∘Vf 4 1∘Vf 8 6∘Vn 1∘Vf 2 3∘Vc 3 O1∘Vc 5 O0∘Vo (vI c) (by rw [hcc])∘Vy 6 (h:=by exact Yl.ix0 glA c 1 rfl rfl rfl)∘Vy 7 (v := vI (cl.getD c 0)) (h:=by exact Yl.r1 3 c 0 om rfl rfl rfl)∘Vo (vI v) (by rw [hv])∘Vc 9 O0∘Vo (vI d) (by rw [hod])∘Vp [10]∘Vo (vI (v + d)) (by exact qcb ⟨by omega, by omega⟩)∘Vy 11 (h:=by exact Yl.ix0 glA c 1 rfl rfl rfl)) fun a I L HS => ?_)
 refine s_on I 12 rfl ?_
 refine qk I L (i := 3) rfl rfl rfl rfl kr rfl rfl (by rw [List.length_map]; omega) ?_
 clear L; intro w8_12 L
 replace L := L.asRow (i := 3) (ys := (cl.set c (v + d)).map I64i) rfl (zt I64i cl c (v + d) om)
 refine noS kr ?_
 refine qb kr ?_
 refine wp_seq ?_
 refine Jb I L ((Vs .n []) fun wd9 => (Vp [0]∘Vf 4 1∘Vn 1∘Vf 2 4∘Vc 3 O1∘Vc 5 O0∘Vo (vI c) (by rw [hcc])∘Vy 6 (h:=by exact Yl.ix0 guA c 1 rfl rfl rfl)∘Vy 7 (v := vI (cu.getD c 0)) (h:=by exact Yl.r1 4 c 0 om rfl rfl rfl)∘Vo (vI id) (by rw [hid])∘Vp [8]∘Vd∘Jd6∘JQ∘JP∘Jp 2∘Jd1∘Jj) (Ju (fun hb67 => ?_) fun hb67 => ?_))
 ·
  intro a I L
  have hd67 := eq_of_beq hb67
  exact Jb I L ((JT∘JP∘Jp 2∘Jj∘JZ∘Jz2) fun L => by exact qx (y := (⟨cp, cr, some ⟨ggA, 0, none⟩, gc, gs, some ⟨glA, 0, none⟩, lc, (cl.set c (v + d)), some ⟨guA, 0, none⟩, uc, cu, tA, tc, ts, some ⟨gsA, 0, none⟩, sc, rs⟩ : Stm)) 1 L rfl ⟨hlns.g, by show (cl.set _ _).length = nl; rw [List.length_set]; exact hll, hlns.u, hlns.t, hlns.s⟩ ((qkl (x := (⟨cp, cr, some ⟨ggA, 0, none⟩, gc, gs, some ⟨glA, 0, none⟩, lc, cl, some ⟨guA, 0, none⟩, uc, cu, tA, tc, ts, some ⟨gsA, 0, none⟩, sc, rs⟩ : Stm)) (decide_eq_true hd18) htk hcc hv om (hid.trans om)).trans (by rw [hod])))
 intro a I L
 have hd67 := ne_of_beq_false hb67
 have hid0 : id ≠ 0 := by omega
 have hcuk := qeq (x := (⟨cp, cr, some ⟨ggA, 0, none⟩, gc, gs, some ⟨glA, 0, none⟩, lc, cl, some ⟨guA, 0, none⟩, uc, cu, tA, tc, ts, some ⟨gsA, 0, none⟩, sc, rs⟩ : Stm)) (hcur c (by show c < cu.length; omega)) (by show cu.getD c 0 ≠ 0; rw [hid]; exact hid0)
 rw [show (⟨cp, cr, some ⟨ggA, 0, none⟩, gc, gs, some ⟨glA, 0, none⟩, lc, cl, some ⟨guA, 0, none⟩, uc, cu, tA, tc, ts, some ⟨gsA, 0, none⟩, sc, rs⟩ : Stm).cu.getD c 0 = id from hid] at hcuk
 obtain ⟨k, t, hk, ht, hkl, hkid⟩ := hcuk
 replace hk : fidx ts id = (k : Int) := hk; replace ht : ts[k]? = some t := ht; replace hkl : k < ts.length := hkl
 obtain ⟨htg, hto⟩ := hx.task ht
 have hti := htg.id; have htgr := htg.group; have htc := htg.cpu; have htw := htg.weight; have htv := hto.v; have htr := hto.r; have htm := hto.mask
 replace htc : 0 ≤ t.cpu ∧ t.cpu < cp := htc
 obtain ⟨gt, hgt⟩ : ∃ n : Nat, t.group = (n : Int) := ⟨t.group.toNat, by omega⟩
 obtain ⟨ct, hct⟩ : ∃ n : Nat, t.cpu = (n : Int) := ⟨t.cpu.toNat, by omega⟩
 obtain ⟨wt, hwt⟩ : ∃ n : Nat, t.weight = (n : Int) := ⟨t.weight.toNat, by omega⟩
 have hEo : (⟨t.v, t.r, wt⟩ : En).Ok := En.qdf htg.ent hwt htv
 obtain ⟨e, hew⟩ : ∃ e, (⟨t.v, t.r, wt⟩ : En).add d = e := ⟨_, rfl⟩
 have heo : e.Ok ∧ e.w = wt := by rw [← hew]; exact En.qig hEo d
 revert L; revert a; repeat (first | clear I | clear L)
 intro a I L
 obtain ⟨gtA, rfl⟩ := qi (L.own (i := 5) rfl) (Nat.lt_of_le_of_lt (Nat.zero_le _) (show k < nt from (by omega : k < nt)))
 refine Jb I L ((JF∘JS') fun a I L => ?_)
 refine wp_seq ?_
 refine Jb I L ((Vs .n []) fun wd12 => (Vp [0, 4, 5]∘Vn 1∘Vf 2 5∘Vc 3 O1∘VI 6 .n (h:=by exact fun L => qnr 1 L rfl hxk id k hk)) fun w74 hbw => (Vy 7 (h:=by exact Yl.ix0 gtA k 8 rfl rfl rfl)∘Vp [8]∘Vd∘Jd6) fun a I L => ?_)
 refine qz (fun aS wS => ∃ (g9 : Nat), Fr aS 158 [] [(9, vP g9 0), (8, vP gtA (k * 8)), (67, .bool false), (7, vI id), (33, .bool false), (24, .bool false), (18, .bool false), (6, vP gm 0), (5, vI 0), (4, vI 0), (3, vP g3 0), (0, vP gm 0)] ∧ Mem W wS (.blk g9 e.cells 117 :: .blk g3 o.cells 52 :: fM gm cp cr (some ⟨ggA, 0, none⟩) ng gc (some ⟨glA, 0, none⟩) nl lc (some ⟨guA, 0, none⟩) nu uc (some ⟨gtA, 0, none⟩) nt tc (some ⟨gsA, 0, none⟩) ns sc :: fG (some ⟨ggA, 0, none⟩) ng gc gs :: fI (some ⟨glA, 0, none⟩) nl lc (cl.set c (v + d)) :: fI (some ⟨guA, 0, none⟩) nu uc cu :: fT (some ⟨gtA, 0, none⟩) nt tc ts :: fS (some ⟨gsA, 0, none⟩) ns sc rs :: (fR rs ++ (T)))) ?_ ?_
 ·
  refine Jb I L ((Vs .n [20]) fun wd13 => (Vp [0, 4, 8]∘Vf 13 6∘Vn 1∘Vf 2 6∘Vy 3 (v := vQ t.v) (h:=by exact Yl.qh rfl rfl kr (fun _ h => h.qv qd (i := 5) rfl (k := k) (off := 6) (x := t) (ht) rfl))∘Vn 5∘Vf 6 7∘Vy 7 (v := vW t.r) (h:=by exact Yl.qh rfl rfl kr (fun _ h => h.qv qd (i := 5) rfl (k := k) (off := 7) (x := t) (ht) rfl))∘Vn 9∘Vf 10 2∘Vy 11 (v := vI t.weight) (h:=by exact Yl.qh rfl rfl kr (fun _ h => h.qv qd (i := 5) rfl (k := k) (off := 2) (x := t) (ht) rfl))∘Vo (vI wt) (by rw [hwt])∘Vc 14 O0∘Vo (vI d) (by rw [hod])) fun a I L HS => ?_)
  refine qj [12, 19] kr rfl ?_
  refine all_cons ?_ ?_
  ·refine qe I (i := 12) rfl rfl ?_
   refine e_is I L [vQ t.v, vW t.r, vI wt] (.agg #[vQ t.v, vW t.r, vW wt]) rfl rfl (zd t.v t.r (wt : Int) om _) fun w89 hbw L a I => ?_
   refine keepS (L.pt 7 [0, 1, 2, 3, 4, 5, 6]) (fun HS => ?_)
   refine qj [15, 19] kr rfl ?_
   refine all_cons ?_ ?_
   ·refine qe I (i := 15) rfl rfl ?_
    refine e_is I L [.agg #[vQ t.v, vW t.r, vW wt], vI d] (.tuple #[.agg e.cells, vI 0]) rfl rfl (qe8 (⟨t.v, t.r, wt⟩ : En) e hEo d hd0 hew _) fun w92 hbw L a I => ?_
    refine keepS (L.pt 7 [0, 1, 2, 3, 4, 5, 6]) (fun HS => ?_)
    refine Vb I L HS ((Vp [16]∘Vx 17∘Vx 18∘VA 19 .n #[vQ 0, vW 0, vW 0]) fun w9 g9 => fun a I L HS => ?_)
    refine s_on I 20 rfl (e_sa I L 0 rfl rfl rfl rfl rfl qs rfl rfl (q9 e) ?_)
    clear L; intro w13_20 L
    refine noS kr ?_
    refine ap I (pastS kr) [21] (bt 22 []) [] fun a I => ?_
    refine qb kr ?_
    replace I := I.to [(9, vP g9 0), (8, vP gtA (k * 8)), (67, .bool false), (7, vI id), (33, .bool false), (24, .bool false), (18, .bool false), (6, vP gm 0), (5, vI 0), (4, vI 0), (3, vP g3 0), (0, vP gm 0)]
    exact ⟨g9, I.sub kr, L.pt 8 [0, 1, 2, 3, 4, 5, 6, 7]⟩
   refine all_cons ?_ all_nil
   refine qe I (i := 19) rfl rfl ?_
   refine s_ea I L #[vQ 0, vW 0, vW 0] ?_
   clear I L; intro a w9 g9 I L
   refine keepS (L.pt 8 [1, 2, 3, 4, 5, 6, 7]) (fun HS => ?_)
   refine Vb I L HS ((VI 15 (.f .n) (h:=by exact fun L => qe8 (⟨t.v, t.r, wt⟩ : En) e hEo d hd0 hew _)) fun w92 hbw => (Vp [16]∘Vx 17∘Vx 18) fun a I L HS => ?_)
   refine s_on I 20 rfl (e_sa I L 0 rfl rfl rfl rfl rfl qs rfl rfl (q9 e) ?_)
   clear L; intro w13_20 L
   refine noS kr ?_
   refine ap I (pastS kr) [21] (bt 22 []) [] fun a I => ?_
   refine qb kr ?_
   replace I := I.to [(9, vP g9 0), (8, vP gtA (k * 8)), (67, .bool false), (7, vI id), (33, .bool false), (24, .bool false), (18, .bool false), (6, vP gm 0), (5, vI 0), (4, vI 0), (3, vP g3 0), (0, vP gm 0)]
   exact ⟨g9, I.sub kr, L.pt 8 [0, 1, 2, 3, 4, 5, 6, 7]⟩
  refine all_cons ?_ all_nil
  refine qe I (i := 19) rfl rfl ?_
  refine s_ea I L #[vQ 0, vW 0, vW 0] ?_
  clear I L; intro a w9 g9 I L
  refine keepS (L.pt 8 [1, 2, 3, 4, 5, 6, 7]) (fun HS => ?_)
  refine Vb I L HS ((VI 12 (.f .n) (h:=by exact fun L => zd t.v t.r (wt : Int) om _)) fun w89 hbw => (VI 15 (.f .n) (h:=by exact fun L => qe8 (⟨t.v, t.r, wt⟩ : En) e hEo d hd0 hew _)) fun w92 hbw => (Vp [16]∘Vx 17∘Vx 18) fun a I L HS => ?_)
  refine s_on I 20 rfl (e_sa I L 0 rfl rfl rfl rfl rfl qs rfl rfl (q9 e) ?_)
  clear L; intro w13_20 L
  refine noS kr ?_
  refine ap I (pastS kr) [21] (bt 22 []) [] fun a I => ?_
  refine qb kr ?_
  replace I := I.to [(9, vP g9 0), (8, vP gtA (k * 8)), (67, .bool false), (7, vI id), (33, .bool false), (24, .bool false), (18, .bool false), (6, vP gm 0), (5, vI 0), (4, vI 0), (3, vP g3 0), (0, vP gm 0)]
  exact ⟨g9, I.sub kr, L.pt 8 [0, 1, 2, 3, 4, 5, 6, 7]⟩
 clear I L; rintro a w13 ⟨g9, I, L⟩
 refine Jb I L ((JP∘Jp 1∘Jy (v := .agg e.cells) (h:=by exact Yl.loadS rfl rfl qs rfl (fun _ h => qa (h.blk (i := 0) rfl)))∘JO (h:=by exact fun L => qng t e O6' L ht hlt heo.1)) fun w97 => (Jt3∘Jj∘JQ∘JP∘Jp 1∘Jn∘Jf 1∘Jy (v := vI ((t.put e).group)) (h:=by exact Yl.qh rfl rfl kr (fun _ h => h.qv qd (i := 6) rfl (k := k) (off := 1) (x := (t.put e)) ((qbg ht)) rfl))∘Jo (vI gt) (by rw [← hgt]; try rfl)∘Jp 1∘Jd4∘Jj∘JB) fun a I L => ?_)
 refine qg (fun mS aS wS => ∃ (g : Nat) (rs2 : List Rw), (g < ns) ∧ (rs2.length = ns) ∧ (SpsOk gs cp rs2) ∧ (qb6 c d g (⟨cp, cr, some ⟨ggA, 0, none⟩, gc, gs, some ⟨glA, 0, none⟩, lc, cl.set c (v + d), some ⟨guA, 0, none⟩, uc, cu, some ⟨gtA, 0, none⟩, tc, ts.set k (t.put e), some ⟨gsA, 0, none⟩, sc, rs2⟩ : Stm).sta = qb6 c d gt (⟨cp, cr, some ⟨ggA, 0, none⟩, gc, gs, some ⟨glA, 0, none⟩, lc, cl.set c (v + d), some ⟨guA, 0, none⟩, uc, cu, some ⟨gtA, 0, none⟩, tc, ts.set k (t.put e), some ⟨gsA, 0, none⟩, sc, rs⟩ : Stm).sta) ∧ mS = 0 + g ∧ Fr aS 158 [] [(11, vI g), (9, vP g9 0), (8, vP gtA (k * 8)), (67, .bool false), (7, vI id), (33, .bool false), (24, .bool false), (18, .bool false), (6, vP gm 0), (5, vI 0), (4, vI 0), (3, vP g3 0), (0, vP gm 0)] ∧ Mem W wS (.blk g9 e.cells 117 :: .blk g3 o.cells 52 :: fM gm cp cr (some ⟨ggA, 0, none⟩) ng gc (some ⟨glA, 0, none⟩) nl lc (some ⟨guA, 0, none⟩) nu uc (some ⟨gtA, 0, none⟩) nt tc (some ⟨gsA, 0, none⟩) ns sc :: fG (some ⟨ggA, 0, none⟩) ng gc gs :: fI (some ⟨glA, 0, none⟩) nl lc (cl.set c (v + d)) :: fI (some ⟨guA, 0, none⟩) nu uc cu :: fT (some ⟨gtA, 0, none⟩) nt tc (ts.set k (t.put e)) :: fS (some ⟨gsA, 0, none⟩) ns sc rs2 :: (fR rs2 ++ (T)))) (m := 0 + gt) ⟨gt, rs, by omega, hls, hsp, rfl, rfl, I.sub kr, L.pt 8 [0, 1, 2, 3, 4, 5, 6, 7]⟩ ?_
 clear I L; rintro mS a w_ ⟨g, rs2, hg, hl2, hsp2, hst2, rfl, I, L⟩
 refine Jb I L ((JQ∘JP∘Jp 2∘Jd1∘Jj) (Ju (fun hb103 => ?_) fun hb103 => ?_))
 ·
  intro a I L
  have hd103 := of_decide_eq_true hb103
  have hg0 : 0 < g := by omega
  obtain ⟨⟨yA, yc, yl⟩, hy⟩ : ∃ y, rs2.getD g Rw.zero = y := ⟨_, rfl⟩
  have hys := hsp2 g om; rw [hy] at hys
  have hyl : (yl.length : Int) = cp := hys.1
  revert L; revert a; repeat (first | clear I | clear L)
  intro a I L
  obtain ⟨gy, rfl⟩ := L.rwSome 8 rfl om hy om
  obtain ⟨yz, hyz⟩ : ∃ z, yl[c]? = some z := ⟨_, List.getElem?_eq_getElem om⟩
  have hyo := hys.2 yz (List.mem_of_getElem? hyz)
  have hyv := hyo.1.v; have hyr := hyo.1.r; have hyf := hyo.1.floor
  have hpb := qac hgs (g := g) om g hg0 (Nat.le_refl _)
  unfold ParB at hpb
  obtain ⟨p, hpp⟩ : ∃ p : Nat, (gs.getD g Gr.zero).parent = (p : Int) := ⟨(gs.getD g Gr.zero).parent.toNat, by omega⟩
  have hpg : p < g := by omega
  obtain ⟨zw, hzw, hzw1, hzw2⟩ := qbu hgs (g := g) om
  have hFo : (⟨yz.v, yz.r, zw⟩ : En).Ok := En.qdf hyo.2 hzw hyo.1.v
  obtain ⟨f, hfw⟩ : ∃ e, (⟨yz.v, yz.r, zw⟩ : En).add d = e := ⟨_, rfl⟩
  have hfo : f.Ok ∧ f.w = zw := by rw [← hfw]; exact En.qig hFo d
  have hfv := hfo.1.2; have hfr : f.r < 4294967296 := by have := qbv hfo.1.1; omega
  refine Jb I L ((JT∘JS'∘JQ∘JB) fun a I L => ?_)
  refine wp_seq ?_
  refine Jb I L ((Vs .n []) fun wd18 => (Vp [0, 4]∘Vf 7 1∘Vn 1∘Vf 2 6∘Vc 3 O2∘Vy 5 (h:=by exact Yl.ix0 gsA g 1 rfl rfl rfl)∘Vy 6 (v := .slice ((rs2.getD g Rw.zero).A) ((rs2.getD g Rw.zero).l.length) ((rs2.getD g Rw.zero).c)) (h:=by exact Yl.r1 7 g Rw.zero om rfl rfl rfl)∘Vo (vS gy yl.length yc) (by rw [hy])∘Vc 8 O1∘Vo (vI c) (by rw [hcc])∘Vy 9 (h:=by exact Yl.ix0 gy c 3 rfl rfl rfl)∘Vp [10]∘Vd∘Jd6) fun a I L => ?_)
  refine qz (fun aS wS => ∃ (g13 : Nat), Fr aS 158 [] [(13, vP g13 0), (12, vP gy (c * 3)), (103, .bool true), (11, vI g), (9, vP g9 0), (8, vP gtA (k * 8)), (67, .bool false), (7, vI id), (33, .bool false), (24, .bool false), (18, .bool false), (6, vP gm 0), (5, vI 0), (4, vI 0), (3, vP g3 0), (0, vP gm 0)] ∧ Mem W wS (.blk g13 f.cells 117 :: .blk g9 e.cells 117 :: .blk g3 o.cells 52 :: fM gm cp cr (some ⟨ggA, 0, none⟩) ng gc (some ⟨glA, 0, none⟩) nl lc (some ⟨guA, 0, none⟩) nu uc (some ⟨gtA, 0, none⟩) nt tc (some ⟨gsA, 0, none⟩) ns sc :: fG (some ⟨ggA, 0, none⟩) ng gc gs :: fI (some ⟨glA, 0, none⟩) nl lc (cl.set c (v + d)) :: fI (some ⟨guA, 0, none⟩) nu uc cu :: fT (some ⟨gtA, 0, none⟩) nt tc (ts.set k (t.put e)) :: fS (some ⟨gsA, 0, none⟩) ns sc rs2 :: (fR rs2 ++ (T)))) ?_ ?_
  ·
   refine Jb I L ((Vs .n [25]) fun wd19 => (Vp [0, 4, 8, 13]∘Vf 18 6∘Vn 1∘Vf 2 0∘Vy 3 (v := vQ yz.v) (h:=by exact Yl.qh rfl rfl kr (fun _ h => h.qa1 8 (j := 0) rfl om hy (hyz) rfl))∘Vn 5∘Vf 6 1∘Vy 7 (v := vW yz.r) (h:=by exact Yl.qh rfl rfl kr (fun _ h => h.qa1 8 (j := 1) rfl om hy (hyz) rfl))∘Vn 9∘Vf 10 0∘Vf 11 2∘Vc 12 O2∘Vy 14 (h:=by exact Yl.ix0 ggA g 2 rfl rfl rfl)∘Vf 15 1∘Vy 16 (v := vI ((gs.getD g Gr.zero).weight)) (h:=by exact Yl.qh rfl rfl kr (fun _ h => h.qv q0 (i := 3) rfl (k := g) (off := 1) (x := (gs.getD g Gr.zero)) ((getD_at Gr.zero om)) rfl))∘Vo (vI zw) (by rw [hzw])∘Vc 19 O1∘Vo (vI d) (by rw [hod])) fun a I L HS => ?_)
   refine qj [17, 24] kr rfl ?_
   refine all_cons ?_ ?_
   ·refine qe I (i := 17) rfl rfl ?_
    refine e_is I L [vQ yz.v, vW yz.r, vI zw] (.agg #[vQ yz.v, vW yz.r, vW zw]) rfl rfl (zd yz.v yz.r (zw : Int) om _) fun w141 hbw L a I => ?_
    refine keepS (L.pt 8 [0, 1, 2, 3, 4, 5, 6, 7]) (fun HS => ?_)
    refine qj [20, 24] kr rfl ?_
    refine all_cons ?_ ?_
    ·refine qe I (i := 20) rfl rfl ?_
     refine e_is I L [.agg #[vQ yz.v, vW yz.r, vW zw], vI d] (.tuple #[.agg f.cells, vI 0]) rfl rfl (qe8 (⟨yz.v, yz.r, zw⟩ : En) f hFo d hd0 hfw _) fun w144 hbw L a I => ?_
     refine keepS (L.pt 8 [0, 1, 2, 3, 4, 5, 6, 7]) (fun HS => ?_)
     refine Vb I L HS ((Vp [21]∘Vx 22∘Vx 23∘VA 24 .n #[vQ 0, vW 0, vW 0]) fun w13 g13 => fun a I L HS => ?_)
     refine s_on I 25 rfl (e_sa I L 0 rfl rfl rfl rfl rfl qs rfl rfl (q9 f) ?_)
     clear L; intro w19_25 L
     refine noS kr ?_
     refine ap I (pastS kr) [26] (bt 27 []) [] fun a I => ?_
     refine qb kr ?_
     exact ⟨g13, I.sub kr, L.pt 9 [0, 1, 2, 3, 4, 5, 6, 7, 8]⟩
    refine all_cons ?_ all_nil
    refine qe I (i := 24) rfl rfl ?_
    refine s_ea I L #[vQ 0, vW 0, vW 0] ?_
    clear I L; intro a w13 g13 I L
    refine keepS (L.pt 9 [1, 2, 3, 4, 5, 6, 7, 8]) (fun HS => ?_)
    refine Vb I L HS ((VI 20 (.f .n) (h:=by exact fun L => qe8 (⟨yz.v, yz.r, zw⟩ : En) f hFo d hd0 hfw _)) fun w144 hbw => (Vp [21]∘Vx 22∘Vx 23) fun a I L HS => ?_)
    refine s_on I 25 rfl (e_sa I L 0 rfl rfl rfl rfl rfl qs rfl rfl (q9 f) ?_)
    clear L; intro w19_25 L
    refine noS kr ?_
    refine ap I (pastS kr) [26] (bt 27 []) [] fun a I => ?_
    refine qb kr ?_
    exact ⟨g13, I.sub kr, L.pt 9 [0, 1, 2, 3, 4, 5, 6, 7, 8]⟩
   refine all_cons ?_ all_nil
   refine qe I (i := 24) rfl rfl ?_
   refine s_ea I L #[vQ 0, vW 0, vW 0] ?_
   clear I L; intro a w13 g13 I L
   refine keepS (L.pt 9 [1, 2, 3, 4, 5, 6, 7, 8]) (fun HS => ?_)
   refine Vb I L HS ((VI 17 (.f .n) (h:=by exact fun L => zd yz.v yz.r (zw : Int) om _)) fun w141 hbw => (VI 20 (.f .n) (h:=by exact fun L => qe8 (⟨yz.v, yz.r, zw⟩ : En) f hFo d hd0 hfw _)) fun w144 hbw => (Vp [21]∘Vx 22∘Vx 23) fun a I L HS => ?_)
   refine s_on I 25 rfl (e_sa I L 0 rfl rfl rfl rfl rfl qs rfl rfl (q9 f) ?_)
   clear L; intro w19_25 L
   refine noS kr ?_
   refine ap I (pastS kr) [26] (bt 27 []) [] fun a I => ?_
   refine qb kr ?_
   exact ⟨g13, I.sub kr, L.pt 9 [0, 1, 2, 3, 4, 5, 6, 7, 8]⟩
  clear I L; rintro a w19 ⟨g13, I, L⟩
  refine qfd L [.blk g13 f.cells 117, .blk g9 e.cells 117, .blk g3 o.cells 52, fM gm cp cr (some ⟨ggA, 0, none⟩) ng gc (some ⟨glA, 0, none⟩) nl lc (some ⟨guA, 0, none⟩) nu uc (some ⟨gtA, 0, none⟩) nt tc (some ⟨gsA, 0, none⟩) ns sc, fG (some ⟨ggA, 0, none⟩) ng gc gs, fI (some ⟨glA, 0, none⟩) nl lc (cl.set c (v + d)), fI (some ⟨guA, 0, none⟩) nu uc cu, fT (some ⟨gtA, 0, none⟩) nt tc (ts.set k (t.put e))] [0, 1, 2, 3, 4, 5, 6, 7] [11] fun L HS => ?_
  refine ap I (fun _ => HS) [0, 1, 2, 4] (bf 12 [0, 1, 2, 4]) [(151, vP g13 1), (149, vP g13 0), (148, vP gy (c * 3)), (147, vP gy (c * 3))] fun a I => ?_
  refine s_ac I HS 3 0 (v := vQ f.v) fun a I => ?_
  refine s_ac I HS 5 0 (v := vW f.r) fun a I => ?_
  refine s_am I HS 6 fun a I => ?_
  refine ap I (fun _ => HS) [7] (bt 12 [8, 9, 10, 11]) [(154, vP gy (c * 3))] fun a I => ?_
  refine s_on I 8 rfl ?_
  refine zb I L 8 (c := c) 0 ({ yz with v := f.v }) rfl rfl rfl rfl kr rfl rfl om (hy) (hyz) rfl de rfl ?_
  clear L; intro w20_8 L
  replace L : Mem W w20_8 (.blk g13 f.cells 117 :: .blk g9 e.cells 117 :: .blk g3 o.cells 52 :: fM gm cp cr (some ⟨ggA, 0, none⟩) ng gc (some ⟨glA, 0, none⟩) nl lc (some ⟨guA, 0, none⟩) nu uc (some ⟨gtA, 0, none⟩) nt tc (some ⟨gsA, 0, none⟩) ns sc :: fG (some ⟨ggA, 0, none⟩) ng gc gs :: fI (some ⟨glA, 0, none⟩) nl lc (cl.set c (v + d)) :: fI (some ⟨guA, 0, none⟩) nu uc cu :: fT (some ⟨gtA, 0, none⟩) nt tc (ts.set k (t.put e)) :: fS (some ⟨gsA, 0, none⟩) ns sc (rsPut rs2 g c ({ yz with v := f.v })) :: (fR (rsPut rs2 g c ({ yz with v := f.v })) ++ (T))) := L
  refine keepS (L.pk [0, 1, 2, 3, 4, 5, 6, 7]) (fun HS => ?_)
  refine s_an I (fun _ => HS) 9 fun a I => ?_
  refine ap I (fun _ => HS) [10] (bt 12 [11]) [(156, vP gy (c * 3 + 1))] fun a I => ?_
  refine s_on I 11 rfl ?_
  refine zb I L 8 (c := c) 1 ({ yz with v := f.v, r := f.r }) rfl rfl rfl rfl kr rfl rfl (by first | omega | (rw [qt]; omega)) (qem om hy) (qbg hyz) rfl de rfl ?_
  clear L; intro w20_11 L
  replace L : Mem W w20_11 (.blk g13 f.cells 117 :: .blk g9 e.cells 117 :: .blk g3 o.cells 52 :: fM gm cp cr (some ⟨ggA, 0, none⟩) ng gc (some ⟨glA, 0, none⟩) nl lc (some ⟨guA, 0, none⟩) nu uc (some ⟨gtA, 0, none⟩) nt tc (some ⟨gsA, 0, none⟩) ns sc :: fG (some ⟨ggA, 0, none⟩) ng gc gs :: fI (some ⟨glA, 0, none⟩) nl lc (cl.set c (v + d)) :: fI (some ⟨guA, 0, none⟩) nu uc cu :: fT (some ⟨gtA, 0, none⟩) nt tc (ts.set k (t.put e)) :: fS (some ⟨gsA, 0, none⟩) ns sc (rsPut (rsPut rs2 g c ({ yz with v := f.v })) g c ({ yz with v := f.v, r := f.r })) :: (fR (rsPut (rsPut rs2 g c ({ yz with v := f.v })) g c ({ yz with v := f.v, r := f.r })) ++ (T))) := L
  rw [qbf (by first | omega | (rw [qt]; omega))] at L
  refine noS kr ?_
  refine qb kr ?_
  refine Jb I L ((JG∘JR∘Jp 1∘Jn∘Jf 0∘Jg 2 O3∘Jp 1∘Jy (h:=by exact Yl.ix0 ggA g 2 rfl rfl rfl)∘Jf 0∘Jy (v := vI ((gs.getD g Gr.zero).parent)) (h:=by exact Yl.qh rfl rfl kr (fun _ h => (by have := h.qv q0 (i := 4) rfl (k := g) (off := 0) (x := (gs.getD g Gr.zero)) ((getD_at Gr.zero om)) rfl; simpa using this)))∘Jo (vI p) (by rw [hpp])∘Jp 1∘Jd6∘Jq) fun a I L => ?_)
  exact ⟨_, om, p, (rsPut rs2 g c { yz with v := f.v, r := f.r }), by omega, by rw [qt]; exact hl2, hsp2.put { yz with v := f.v, r := f.r } ⟨hfv, hfr, hyo.1.floor⟩ (by rw [hzw]; have := hfo.1.1; rw [hfo.2] at this; exact this), by rw [← hst2, qcp (c := c) (d := d) (g := g) (p := p) (qac hgs om) hg0 hpp, qdx (x := (⟨cp, cr, some ⟨ggA, 0, none⟩, gc, gs, some ⟨glA, 0, none⟩, lc, (cl.set c (v + d)), some ⟨guA, 0, none⟩, uc, cu, some ⟨gtA, 0, none⟩, tc, (ts.set k (t.put e)), some ⟨gsA, 0, none⟩, sc, rs2⟩ : Stm)) (by show g < rs2.length; omega) hy hyz hzw hfw], rfl, I.sub kr, L.pt 9 [1, 2, 3, 4, 5, 6, 7, 8]⟩
 intro a I L
 have hd103 := of_decide_eq_false hb103
 exact Jb I L ((JF∘JX∘JG∘JP∘Jp 3∘Jj∘JZ∘Jz2) fun L => by exact qx (y := (⟨cp, cr, some ⟨ggA, 0, none⟩, gc, gs, some ⟨glA, 0, none⟩, lc, (cl.set c (v + d)), some ⟨guA, 0, none⟩, uc, cu, some ⟨gtA, 0, none⟩, tc, (ts.set k (t.put e)), some ⟨gsA, 0, none⟩, sc, rs2⟩ : Stm)) 2 L rfl ⟨hlns.g, by show (cl.set _ _).length = nl; rw [List.length_set]; exact hll, hlns.u, by show (ts.set _ _).length = nt; rw [List.length_set]; exact hlt, hl2⟩ ((qni (x := (⟨cp, cr, some ⟨ggA, 0, none⟩, gc, gs, some ⟨glA, 0, none⟩, lc, cl, some ⟨guA, 0, none⟩, uc, cu, some ⟨gtA, 0, none⟩, tc, ts, some ⟨gsA, 0, none⟩, sc, rs⟩ : Stm)) (decide_eq_true hd18) htk hcc hod hv om hid hid0 hk ht hgt hwt hew).trans (by rw [← show qb6 c d g (⟨cp, cr, some ⟨ggA, 0, none⟩, gc, gs, some ⟨glA, 0, none⟩, lc, cl.set c (v + d), some ⟨guA, 0, none⟩, uc, cu, some ⟨gtA, 0, none⟩, tc, ts.set k (t.put e), some ⟨gsA, 0, none⟩, sc, rs2⟩ : Stm).sta = _ from hst2, show g = 0 by omega]; rfl)))
theorem qi3 (x e : En) (hx : x.Ok) (fr to : Nat) (hf : fr < 18446744073709551616) (ht : to < 18446744073709551616) (he : x.moved fr to = e) (w : World) : Calls Tryz.prog 126 #[.agg x.cells, vQ fr, vQ to] w (Is w (.tuple #[.agg e.cells, vI 0])) := he ▸ qre x hx fr to hf ht w
def IdxIs (w : World) (l : List Int) (v : Int) (r : Ending) (w' : World) : Prop := (∃ i : Int, r = .returned (vI i) ∧ decide (i ≥ 0) = decide (v ∈ l)) ∧ Below w.heap.size w w'
theorem qo0 {w w' : World} {l : List Int} {v : Int} {k : Nat} (hk : k < l.length) (h : l.getD k 0 = v) (hb : Below w.heap.size w w') : IdxIs w l v (.returned (vI k)) w' := ⟨⟨k, rfl, decide_eq_decide.2 ⟨fun _ => h ▸ qf 0 hk, fun _ => by omega⟩⟩, hb⟩
theorem qo1 {w w' : World} {l : List Int} {v : Int} (h : ∀ i, i < l.length → l.getD i 0 ≠ v) (hb : Below w.heap.size w w') : IdxIs w l v (.returned (vI (-1))) w' := by
 refine ⟨⟨-1, rfl, decide_eq_decide.2 ⟨fun h1 => by omega, fun h1 => ?_⟩⟩, hb⟩
 obtain ⟨i, hi, rfl⟩ := List.getElem_of_mem h1
 exact absurd (by rw [List.getD_eq_getElem?_getD, List.getElem?_eq_getElem hi]; rfl) (h i hi)
theorem qwn {l : List Int} {v : Int} {k : Nat} (h : ∀ i, i < k → l.getD i 0 ≠ v) (hk : l.getD k 0 ≠ v) : ∀ i, i < k + 1 → l.getD i 0 ≠ v := fun i hi => by
 rcases Nat.lt_or_ge i k with h1 | h1
 ·exact h i h1
 ·obtain rfl : i = k := by omega
  exact hk
theorem qns {m c : Nat} {s : Nat} {v : Int} (hs : s = m) (hc : v = (c : Int)) (h : ¬ (m / 2 ^ c) % 2 = 1) : bitOn s v = false := by
 subst hs; subst hc
 unfold bitOn
 rw [Int.toNat_natCast, decide_eq_false h]
theorem qgv {m c : Nat} {v : Int} (hc : v = (c : Int)) (h : (m / 2 ^ c) % 2 = 1) : bitOn m v = true := by
 subst hc
 unfold bitOn
 rw [Int.toNat_natCast, decide_eq_true h]
theorem qi4 (W w : World) (x : Stm) (gm : Nat) (ng nl nu nt ns : Nat) (hx : MdOk x ng nl nu nt ns) (o : Op30) (ho : o.Ok) (T : List Fact) (L : Mem W w (mdA gm x ng nl nu nt ns ++ T)) :
    Calls Tryz.prog 37 #[vP gm 0, .agg o.cells] w (OpIs W gm T (qad x.sta o)) := by
 obtain ⟨cp, cr, gA, gc, gs, lA, lc, cl, uA, uc, cu, tA, tc, ts, sA, sc, rs⟩ := x
 replace L : Mem W w (fM gm cp cr gA ng gc lA nl lc uA nu uc tA nt tc sA ns sc :: fG gA ng gc gs :: fI lA nl lc cl :: fI uA nu uc cu :: fT tA nt tc ts :: fS sA ns sc rs :: (fR rs ++ (T))) := L
 obtain ⟨hlg, hll, hlu, hlt, hls⟩ := hx.ln
 replace hlg : gs.length = ng := hlg; replace hll : cl.length = nl := hll; replace hlu : cu.length = nu := hlu; replace hlt : ts.length = nt := hlt; replace hls : rs.length = ns := hls
 have hlns := hx.ln
 have hsp : SpsOk gs cp rs := hx.spots
 have hrg : rs.length = gs.length := hx.sh.rs
 have hcr : cr < 18446744073709551616 := hx.ok.credit
 obtain ⟨hcp1, hcp2, _, hgs⟩ := zj hx.sh.cfg
 replace hcp1 : 1 ≤ cp := hcp1; replace hcp2 : cp ≤ 64 := hcp2; replace hgs : gsOk gs = true := hgs
 have hgl1 := (qo hgs).1; have hgl2 := (qo hgs).2.1
 have hcll : (cl.length : Int) = cp := hx.sh.cl; have hcul : (cu.length : Int) = cp := hx.sh.cu
 have hfts : ts.length ≤ 1000000 := hx.few.t
 have hoc := ho.cpu; have hot := ho.task; have hog := ho.group; have how := ho.weight; have hoto := ho.to; have hotk := ho.ticks; have hom := ho.mask; have hok8 := ho.kind; unfold I64 at hoc hot hog how hoto hotk
 obtain ⟨ggA, rfl⟩ := qi (L.own (i := 1) rfl) om
 obtain ⟨gsA, rfl⟩ := qi (L.own (i := 5) rfl) om
 refine (Jin2 L Tryz.func37 102) ?_
 refine (JP∘JE) fun w3 g3 => (Jp 2∘Jr∘Jp 1∘Jn∘Jf 0∘Jp 1∘Jd3∘Jj∘JQ∘JB) fun a I L => ?_
 refine qz (fun aS wS => Fr aS 102 [] [(14, .bool (!(decide (1 ≤ o.group ∧ o.group < rs.length)))), (6, vP gm 0), (5, vI 0), (4, vI 0), (3, vP g3 0)] ∧ Mem W wS (.blk g3 o.cells 52 :: fM gm cp cr (some ⟨ggA, 0, none⟩) ng gc lA nl lc uA nu uc tA nt tc (some ⟨gsA, 0, none⟩) ns sc :: fG (some ⟨ggA, 0, none⟩) ng gc gs :: fI lA nl lc cl :: fI uA nu uc cu :: fT tA nt tc ts :: fS (some ⟨gsA, 0, none⟩) ns sc rs :: (fR rs ++ (T)))) ?_ ?_
 ·
  refine Jb I L ((Vs .n []) fun wd2 => (Vf 0 3∘Vc 1 O0∘Vp [2, 3]) fun a I L HS => ?_)
  rcases I.tf 18 rfl with ⟨hb18, I⟩ | ⟨hb18, I⟩
  ·
   have hd18 := of_decide_eq_true hb18
   refine Vb I L HS ((Vq [4, 5, 6, 7, 8, 9, 10, 11, 12, 13] [(14, .bool true)]∘Vd∘Jd5) fun a I L => ?_)
   have I := I.sp 14 (.bool (!(decide (1 ≤ o.group ∧ o.group < rs.length)))) rfl (congrArg Value.bool (by rw [decide_eq_false om]; rfl))
   exact ⟨I.sub kr, L.pt 7 [0, 1, 2, 3, 4, 5, 6]⟩
  have hd18 := of_decide_eq_false hb18
  refine ap I (fun _ => HS) [4, 6] (bf 14 [0, 1, 2, 3, 4, 6]) [(21, vP gm 0), (19, vP g3 3)] fun a I => ?_
  refine s_ac I HS 5 0 (v := vI o.group) fun a I => ?_
  refine s_am I HS 7 fun a I => ?_
  refine ap I (fun _ => HS) [8] (bt 14 [9, 10, 11, 12, 13]) [(23, vP gm 6)] fun a I => ?_
  refine s_ac I HS 9 1 fun a I => ?_
  refine s_al I HS 10 fun a I => ?_
  refine ap I (fun _ => HS) [11, 12, 13] (bt 14 []) [(14, .bool (decide ((o.group : Int) ≥ (ns : Int))))] fun a I => ?_
  refine qb kr ?_
  have I := I.sp 14 (.bool (!(decide (1 ≤ o.group ∧ o.group < rs.length)))) rfl (congrArg Value.bool (by rw [← decide_not]; exact decide_eq_decide.2 om))
  exact ⟨I.sub kr, L.pt 7 [0, 1, 2, 3, 4, 5, 6]⟩
 clear I L; rintro a w2 ⟨I, L⟩
 refine Jb I L (Ji' (fun hd14 => ?_) fun hd14 => ?_)
 ·
  exact (JT∘JP∘Jp 2∘Jj∘JZ∘Jz2) fun L => by exact qx (y := (⟨cp, cr, some ⟨ggA, 0, none⟩, gc, gs, lA, lc, cl, uA, uc, cu, tA, tc, ts, some ⟨gsA, 0, none⟩, sc, rs⟩ : Stm)) 1 L rfl hlns (if_pos (by show ¬ (1 ≤ o.group ∧ o.group < ((rs.map Rw.l).length : Nat)); rw [List.length_map]; exact hd14))
 refine (JF∘JP∘Jg 4 O0∘JL (h:=by exact fun L => qbm o.weight _)) ?_
 rintro L _ w31 ⟨rfl, hbw⟩
 refine ⟨_, rfl, _, L.call hbw, ?_⟩
 refine (Jp 2∘Jd3∘Jj) (Ju (fun hb28 => ?_) fun hb28 => ?_)
 ·
  intro a I L
  have hd28 := of_decide_eq_false ((Bool.not_eq_true' _).mp hb28)
  exact Jb I L ((JT∘JP∘Jp 2∘Jj∘JZ∘Jz2) fun L => by exact qx (y := (⟨cp, cr, some ⟨ggA, 0, none⟩, gc, gs, lA, lc, cl, uA, uc, cu, tA, tc, ts, some ⟨gsA, 0, none⟩, sc, rs⟩ : Stm)) 1 L rfl hlns ((if_neg (by show ¬ ¬ (1 ≤ o.group ∧ o.group < ((rs.map Rw.l).length : Nat)); rw [List.length_map]; omega)).trans (if_pos (decide_eq_false hd28))))
 intro a I L
 have hd28 := of_decide_eq_true ((Bool.not_eq_false' _).mp hb28)
 have hgb : 1 ≤ o.group ∧ o.group < rs.length := by omega
 obtain ⟨z, hoz⟩ : ∃ n : Nat, o.weight = (n : Int) := ⟨o.weight.toNat, by omega⟩
 have hz : 1 ≤ z ∧ z ≤ 65536 := by omega
 obtain ⟨g, hgg⟩ : ∃ n : Nat, o.group = (n : Int) := ⟨o.group.toNat, by omega⟩
 obtain ⟨⟨yA, yc, yl⟩, hy⟩ : ∃ y, rs.getD g Rw.zero = y := ⟨_, rfl⟩
 have hys := hsp g om; rw [hy] at hys
 have hyl : (yl.length : Int) = cp := hys.1
 obtain ⟨gr, hgr⟩ : ∃ z, gs[g]? = some z := ⟨_, List.getElem?_eq_getElem om⟩
 obtain ⟨zw, hzw, hzw1, hzw2⟩ := qbu hgs (g := g) om
 have hgrd := zc Gr.zero hgr
 rw [hgrd] at hzw
 revert L; revert a; repeat (first | clear I | clear L)
 intro a I L
 obtain ⟨gy, rfl⟩ := L.rwSome 7 rfl om hy om
 refine Jb I L ((JF∘JS'∘JQ) fun a I L => ?_)
 refine wp_seq ?_
 refine Jb I L ((Vs .n []) fun wd6 => (Vp [0]∘Vf 4 3∘Vp [9]∘Vn 1∘Vf 2 6∘Vc 3 O1∘Vc 5 O0∘Vo (vI g) (by rw [hgg])∘Vy 6 (h:=by exact Yl.ix0 gsA g 1 rfl rfl rfl)∘Vy 7 (v := .slice ((rs.getD g Rw.zero).A) ((rs.getD g Rw.zero).l.length) ((rs.getD g Rw.zero).c)) (h:=by exact Yl.r1 6 g Rw.zero om rfl rfl rfl)∘Vo (vS gy yl.length yc) (by rw [hy])∘Vl 8∘Vd∘Jd6∘JB) fun a I L => ?_)
 refine qg (fun mS aS wS => ∃ (c : Nat) (rs2 : List Rw), (c ≤ yl.length) ∧ (rs2.length = ns) ∧ (rs2 = (rs.set g ⟨some ⟨gy, 0, none⟩, yc, upd r0 yl c⟩)) ∧ mS = yl.length - c ∧ Fr aS 102 [] [(41, vI yl.length), (42, vI c), (28, .bool false), (14, .bool false), (6, vP gm 0), (5, vI 0), (4, vI 0), (3, vP g3 0)] ∧ Mem W wS (.blk g3 o.cells 52 :: fM gm cp cr (some ⟨ggA, 0, none⟩) ng gc lA nl lc uA nu uc tA nt tc (some ⟨gsA, 0, none⟩) ns sc :: fG (some ⟨ggA, 0, none⟩) ng gc gs :: fI lA nl lc cl :: fI uA nu uc cu :: fT tA nt tc ts :: fS (some ⟨gsA, 0, none⟩) ns sc rs2 :: (fR rs2 ++ (T)))) (m := yl.length - 0) ⟨0, rs, Nat.zero_le _, hls, by rw [qnj, ← hy]; exact (qb3 _ om).symm, rfl, I.sub kr, L.pt 7 [0, 1, 2, 3, 4, 5, 6]⟩ ?_
 clear I L; rintro mS a w_ ⟨c, rs2, hc, hl2, hr2, rfl, I, L⟩
 refine Jb I L ((JP∘Jp 1∘Jj∘JQ) (Ju (fun hb43 => ?_) fun hb43 => ?_))
 ·
  intro a I L
  have hd43 := of_decide_eq_true hb43
  have hc43 : c < yl.length := by omega
  obtain ⟨yz, hyz⟩ : ∃ z, yl[c]? = some z := ⟨_, List.getElem?_eq_getElem om⟩
  have hyz2 := (qri r0 (Nat.le_refl c)).trans hyz
  have hyo := hys.2 yz (List.mem_of_getElem? hyz)
  rw [hgrd] at hyo
  have hyv := hyo.1.v; have hyr := hyo.1.r
  have hFo : (⟨yz.v, yz.r, zw⟩ : En).Ok := En.qdf hyo.2 hzw hyo.1.v
  have hy2 : rs2.getD g Rw.zero = ⟨some ⟨gy, 0, none⟩, yc, upd r0 yl c⟩ := by rw [hr2]; exact qm _ _ om
  refine Jb I L ((JT∘JS'∘JQ∘JB∘JP∘Jp 2∘Jd1∘Jj) fun a I L => ?_)
  refine wp_seq ?_
  refine Jb I L ((Vs .n []) fun wd9 => (Vp [0]∘Vf 4 3∘Vp [8]∘Vn 1∘Vf 2 6∘Vc 3 O1∘Vc 5 O0∘Vo (vI g) (by rw [hgg])∘Vy 6 (h:=by exact Yl.ix0 gsA g 1 rfl rfl rfl)∘Vy 7 (v := .slice ((rs2.getD g Rw.zero).A) ((rs2.getD g Rw.zero).l.length) ((rs2.getD g Rw.zero).c)) (h:=by exact Yl.r1 6 g Rw.zero om rfl rfl rfl)∘Vo (vS gy yl.length yc) (by rw [hy2]; show Value.slice _ (upd r0 yl c).length _ = _; rw [qrg])∘Vy 9 (h:=by exact Yl.ix0 gy c 3 rfl rfl rfl)∘Vp [10]∘Vd∘Jd6) fun a I L => ?_)
  refine qz (fun aS wS => ∃ (g9 : Nat), Fr aS 102 [] [(9, vP g9 0), (8, vP gy (c * 3)), (7, vI c), (43, .bool true), (41, vI yl.length), (42, vI c), (28, .bool false), (14, .bool false), (6, vP gm 0), (5, vI 0), (4, vI 0), (3, vP g3 0)] ∧ Mem W wS (.blk g9 ((⟨yz.v, 0, z⟩ : En).cells) 117 :: .blk g3 o.cells 52 :: fM gm cp cr (some ⟨ggA, 0, none⟩) ng gc lA nl lc uA nu uc tA nt tc (some ⟨gsA, 0, none⟩) ns sc :: fG (some ⟨ggA, 0, none⟩) ng gc gs :: fI lA nl lc cl :: fI uA nu uc cu :: fT tA nt tc ts :: fS (some ⟨gsA, 0, none⟩) ns sc rs2 :: (fR rs2 ++ (T)))) ?_ ?_
  ·
   refine Jb I L ((Vs .n [26]) fun wd10 => (Vp [0, 4, 8]∘Vf 13 3∘Vf 19 4∘Vn 1∘Vf 2 0∘Vy 3 (v := vQ yz.v) (h:=by exact Yl.qh rfl rfl kr (fun _ h => h.qa1 7 (j := 0) rfl om hy2 (hyz2) rfl))∘Vn 5∘Vf 6 1∘Vy 7 (v := vW yz.r) (h:=by exact Yl.qh rfl rfl kr (fun _ h => h.qa1 7 (j := 1) rfl om hy2 (hyz2) rfl))∘Vn 9∘Vf 10 0∘Vf 11 2∘Vc 12 O1∘Vc 14 O0∘Vo (vI g) (by rw [hgg])∘Vy 15 (h:=by exact Yl.ix0 ggA g 2 rfl rfl rfl)∘Vf 16 1∘Vy 17 (v := vI gr.weight) (h:=by exact Yl.qh rfl rfl kr (fun _ h => h.qv q0 (i := 2) rfl (k := g) (off := 1) (x := gr) (hgr) rfl))∘Vo (vI zw) (by rw [hzw])∘Vc 20 O0∘Vo (vI z) (by rw [hoz])) fun a I L HS => ?_)
   refine qj [18, 25] kr rfl ?_
   refine all_cons ?_ ?_
   ·refine qe I (i := 18) rfl rfl ?_
    refine e_is I L [vQ yz.v, vW yz.r, vI zw] (.agg #[vQ yz.v, vW yz.r, vW zw]) rfl rfl (zd yz.v yz.r (zw : Int) om _) fun w74 hbw L a I => ?_
    refine keepS (L.pt 7 [0, 1, 2, 3, 4, 5, 6]) (fun HS => ?_)
    refine qj [21, 25] kr rfl ?_
    refine all_cons ?_ ?_
    ·refine qe I (i := 21) rfl rfl ?_
     refine e_is I L [.agg #[vQ yz.v, vW yz.r, vW zw], vI z] (.tuple #[.agg ((⟨yz.v, 0, z⟩ : En).cells), vI 0]) rfl rfl (qbx (⟨yz.v, yz.r, zw⟩ : En) hFo z hz _) fun w77 hbw L a I => ?_
     refine keepS (L.pt 7 [0, 1, 2, 3, 4, 5, 6]) (fun HS => ?_)
     refine Vb I L HS ((Vp [22]∘Vx 23∘Vx 24∘VA 25 .n #[vQ 0, vW 0, vW 0]) fun w9 g9 => fun a I L HS => ?_)
     refine s_on I 26 rfl (e_sa I L 0 rfl rfl rfl rfl rfl qs rfl rfl (q9 (⟨yz.v, 0, z⟩ : En)) ?_)
     clear L; intro w10_26 L
     refine noS kr ?_
     refine ap I (pastS kr) [27] (bt 28 []) [] fun a I => ?_
     refine qb kr ?_
     exact ⟨g9, I.sub kr, L.pt 8 [0, 1, 2, 3, 4, 5, 6, 7]⟩
    refine all_cons ?_ all_nil
    refine qe I (i := 25) rfl rfl ?_
    refine s_ea I L #[vQ 0, vW 0, vW 0] ?_
    clear I L; intro a w9 g9 I L
    refine keepS (L.pt 8 [1, 2, 3, 4, 5, 6, 7]) (fun HS => ?_)
    refine Vb I L HS ((VI 21 (.f .n) (h:=by exact fun L => qbx (⟨yz.v, yz.r, zw⟩ : En) hFo z hz _)) fun w77 hbw => (Vp [22]∘Vx 23∘Vx 24) fun a I L HS => ?_)
    refine s_on I 26 rfl (e_sa I L 0 rfl rfl rfl rfl rfl qs rfl rfl (q9 (⟨yz.v, 0, z⟩ : En)) ?_)
    clear L; intro w10_26 L
    refine noS kr ?_
    refine ap I (pastS kr) [27] (bt 28 []) [] fun a I => ?_
    refine qb kr ?_
    exact ⟨g9, I.sub kr, L.pt 8 [0, 1, 2, 3, 4, 5, 6, 7]⟩
   refine all_cons ?_ all_nil
   refine qe I (i := 25) rfl rfl ?_
   refine s_ea I L #[vQ 0, vW 0, vW 0] ?_
   clear I L; intro a w9 g9 I L
   refine keepS (L.pt 8 [1, 2, 3, 4, 5, 6, 7]) (fun HS => ?_)
   refine Vb I L HS ((VI 18 (.f .n) (h:=by exact fun L => zd yz.v yz.r (zw : Int) om _)) fun w74 hbw => (VI 21 (.f .n) (h:=by exact fun L => qbx (⟨yz.v, yz.r, zw⟩ : En) hFo z hz _)) fun w77 hbw => (Vp [22]∘Vx 23∘Vx 24) fun a I L HS => ?_)
   refine s_on I 26 rfl (e_sa I L 0 rfl rfl rfl rfl rfl qs rfl rfl (q9 (⟨yz.v, 0, z⟩ : En)) ?_)
   clear L; intro w10_26 L
   refine noS kr ?_
   refine ap I (pastS kr) [27] (bt 28 []) [] fun a I => ?_
   refine qb kr ?_
   exact ⟨g9, I.sub kr, L.pt 8 [0, 1, 2, 3, 4, 5, 6, 7]⟩
  clear I L; rintro a w10 ⟨g9, I, L⟩
  refine qfd L [.blk g9 ((⟨yz.v, 0, z⟩ : En).cells) 117, .blk g3 o.cells 52, fM gm cp cr (some ⟨ggA, 0, none⟩) ng gc lA nl lc uA nu uc tA nt tc (some ⟨gsA, 0, none⟩) ns sc, fG (some ⟨ggA, 0, none⟩) ng gc gs, fI lA nl lc cl, fI uA nu uc cu, fT tA nt tc ts] [0, 1, 2, 3, 4, 5, 6] [11] fun L HS => ?_
  refine ap I (fun _ => HS) [0, 1, 2, 4] (bf 12 [0, 1, 2, 4]) [(84, vP g9 1), (82, vP g9 0), (81, vP gy (c * 3)), (80, vP gy (c * 3))] fun a I => ?_
  refine s_ac I HS 3 0 (v := vQ ((⟨yz.v, 0, z⟩ : En).v)) fun a I => ?_
  refine s_ac I HS 5 0 (v := vW ((⟨yz.v, 0, z⟩ : En).r)) fun a I => ?_
  refine s_am I HS 6 fun a I => ?_
  refine ap I (fun _ => HS) [7] (bt 12 [8, 9, 10, 11]) [(87, vP gy (c * 3))] fun a I => ?_
  refine s_on I 8 rfl ?_
  refine zb I L 7 (c := c) 0 ({ yz with v := yz.v }) rfl rfl rfl rfl kr rfl rfl om (hy2) (hyz2) rfl de rfl ?_
  clear L; intro w11_8 L
  replace L : Mem W w11_8 (.blk g9 ((⟨yz.v, 0, z⟩ : En).cells) 117 :: .blk g3 o.cells 52 :: fM gm cp cr (some ⟨ggA, 0, none⟩) ng gc lA nl lc uA nu uc tA nt tc (some ⟨gsA, 0, none⟩) ns sc :: fG (some ⟨ggA, 0, none⟩) ng gc gs :: fI lA nl lc cl :: fI uA nu uc cu :: fT tA nt tc ts :: fS (some ⟨gsA, 0, none⟩) ns sc (rsPut rs2 g c ({ yz with v := yz.v })) :: (fR (rsPut rs2 g c ({ yz with v := yz.v })) ++ (T))) := L
  refine keepS (L.pk [0, 1, 2, 3, 4, 5, 6]) (fun HS => ?_)
  refine s_an I (fun _ => HS) 9 fun a I => ?_
  refine ap I (fun _ => HS) [10] (bt 12 [11]) [(89, vP gy (c * 3 + 1))] fun a I => ?_
  refine s_on I 11 rfl ?_
  refine zb I L 7 (c := c) 1 (r0 yz) rfl rfl rfl rfl kr rfl rfl (by first | omega | (rw [qt]; omega)) (qem om hy2) (qbg hyz2) rfl de rfl ?_
  clear L; intro w11_11 L
  replace L : Mem W w11_11 (.blk g9 ((⟨yz.v, 0, z⟩ : En).cells) 117 :: .blk g3 o.cells 52 :: fM gm cp cr (some ⟨ggA, 0, none⟩) ng gc lA nl lc uA nu uc tA nt tc (some ⟨gsA, 0, none⟩) ns sc :: fG (some ⟨ggA, 0, none⟩) ng gc gs :: fI lA nl lc cl :: fI uA nu uc cu :: fT tA nt tc ts :: fS (some ⟨gsA, 0, none⟩) ns sc (rsPut (rsPut rs2 g c ({ yz with v := yz.v })) g c (r0 yz)) :: (fR (rsPut (rsPut rs2 g c ({ yz with v := yz.v })) g c (r0 yz)) ++ (T))) := L
  rw [qbf (by first | omega | (rw [qt]; omega))] at L
  refine noS kr ?_
  refine qb kr ?_
  refine Jb I L ((JG∘JR∘JaK 1∘Jp 1∘Jd6∘Jq) fun a I L => ?_)
  exact ⟨_, om, c + 1, (rsPut rs2 g c (r0 yz)), by omega, by rw [qt]; exact hl2, qkm om hyz hr2, rfl, I.sub kr, L.pt 8 [1, 2, 3, 4, 5, 6, 7]⟩
 intro a I L
 have hd43 := of_decide_eq_false hb43
 refine Jb I L ((JF∘JX) fun a I L => ?_)
 refine wp_seq ?_
 refine Jb I L ((Vs .n [11]) fun wd13 => (Vp [0]∘Vf 5 3∘Vf 7 4∘Vn 1∘Vf 2 0∘Vf 3 2∘Vc 4 O1∘Vc 6 O0∘Vo (vI g) (by rw [hgg])∘Vc 8 O0∘Vo (vI z) (by rw [hoz])∘Vu 9 (h:=by exact fun _ => Yl.ix0 ggA g 2 rfl rfl rfl)∘Vf 10 1) fun a I L HS => ?_)
 refine s_on I 11 rfl ?_
 refine qk I L (i := 2) rfl rfl rfl rfl kr rfl rfl (by rw [qy grL 2 q0]; omega) ?_
 clear L; intro w13_11 L
 replace L := L.asRow (i := 2) (ys := (gs.set g { gr with weight := (z : Int) }).flatMap grL) rfl (qw grL 2 q0 gs g gr { gr with weight := (z : Int) } hgr 1 de _ rfl)
 refine noS kr ?_
 refine qb kr ?_
 exact Jb I L ((JP∘Jp 2∘Jj∘JZ∘Jz2) fun L => by exact qx (y := (⟨cp, cr, some ⟨ggA, 0, none⟩, gc, (gs.set g { gr with weight := (z : Int) }), lA, lc, cl, uA, uc, cu, tA, tc, ts, some ⟨gsA, 0, none⟩, sc, rs2⟩ : Stm)) 1 L rfl ⟨by show (gs.set _ _).length = ng; rw [List.length_set]; exact hlg, hlns.l, hlns.u, hlns.t, hl2⟩ ((qgl (x := (⟨cp, cr, some ⟨ggA, 0, none⟩, gc, gs, lA, lc, cl, uA, uc, cu, tA, tc, ts, some ⟨gsA, 0, none⟩, sc, rs⟩ : Stm)) hgg hgb (decide_eq_true hd28) hy hgrd).trans (by rw [hoz]; exact congrArg (fun r => (Stm.sta (⟨cp, cr, some ⟨ggA, 0, none⟩, gc, (gs.set g { gr with weight := (z : Int) }), lA, lc, cl, uA, uc, cu, tA, tc, ts, some ⟨gsA, 0, none⟩, sc, r⟩ : Stm), (0 : Int), 0)) (show _ = rs2 by rw [hr2, qrh r0 yl om]))))
theorem qo2 (W w : World) (x : Stm) (gm k to : Nat) (t : Tk) (ng nl nu nt ns : Nat) (hx : MdOk x ng nl nu nt ns) (ht : x.ts[k]? = some t) (hto_ : (to : Int) < x.cpus) (T : List Fact) (L : Mem W w (mdA gm x ng nl nu nt ns ++ T)) :
    Calls Tryz.prog 95 #[vP gm 0, vI k, vI to] w (StIs W gm T (moveS x.sta k (to : Int))) := by
 obtain ⟨cp, cr, gA, gc, gs, lA, lc, cl, uA, uc, cu, tA, tc, ts, sA, sc, rs⟩ := x
 replace L : Mem W w (fM gm cp cr gA ng gc lA nl lc uA nu uc tA nt tc sA ns sc :: fG gA ng gc gs :: fI lA nl lc cl :: fI uA nu uc cu :: fT tA nt tc ts :: fS sA ns sc rs :: (fR rs ++ (T))) := L
 obtain ⟨hlg, hll, hlu, hlt, hls⟩ := hx.ln
 replace hlg : gs.length = ng := hlg; replace hll : cl.length = nl := hll; replace hlu : cu.length = nu := hlu; replace hlt : ts.length = nt := hlt; replace hls : rs.length = ns := hls
 have hlns := hx.ln
 have hsp : SpsOk gs cp rs := hx.spots
 have hrg : rs.length = gs.length := hx.sh.rs
 have hcr : cr < 18446744073709551616 := hx.ok.credit
 obtain ⟨hcp1, hcp2, _, hgs⟩ := zj hx.sh.cfg
 replace hcp1 : 1 ≤ cp := hcp1; replace hcp2 : cp ≤ 64 := hcp2; replace hgs : gsOk gs = true := hgs
 have hgl1 := (qo hgs).1; have hgl2 := (qo hgs).2.1
 have hcll : (cl.length : Int) = cp := hx.sh.cl; have hcul : (cu.length : Int) = cp := hx.sh.cu
 have hfts : ts.length ≤ 1000000 := hx.few.t
 replace ht : ts[k]? = some t := ht; replace hto_ : (to : Int) < cp := hto_
 have hkl := (List.getElem?_eq_some_iff.1 ht).1
 obtain ⟨htg, hto⟩ := hx.task ht
 have hti := htg.id; have htgr := htg.group; have htc := htg.cpu; have htw := htg.weight; have htv := hto.v; have htr := hto.r; have htm := hto.mask
 replace htc : 0 ≤ t.cpu ∧ t.cpu < cp := htc
 obtain ⟨gt, hgt⟩ : ∃ n : Nat, t.group = (n : Int) := ⟨t.group.toNat, by omega⟩
 obtain ⟨ct, hct⟩ : ∃ n : Nat, t.cpu = (n : Int) := ⟨t.cpu.toNat, by omega⟩
 obtain ⟨wt, hwt⟩ : ∃ n : Nat, t.weight = (n : Int) := ⟨t.weight.toNat, by omega⟩
 have hEo : (⟨t.v, t.r, wt⟩ : En).Ok := En.qdf htg.ent hwt htv
 obtain ⟨gsA, rfl⟩ := qi (L.own (i := 5) rfl) om
 obtain ⟨gtA, rfl⟩ := qi (L.own (i := 4) rfl) om
 obtain ⟨em, hem⟩ : ∃ l, zh (⟨cp, cr, gA, gc, gs, lA, lc, cl, uA, uc, cu, some ⟨gtA, 0, none⟩, tc, ts, some ⟨gsA, 0, none⟩, sc, rs⟩ : Stm).sta gt to = l := ⟨_, rfl⟩
 have hemm := fun h hh => qi1 (x := (⟨cp, cr, gA, gc, gs, lA, lc, cl, uA, uc, cu, some ⟨gtA, 0, none⟩, tc, ts, some ⟨gsA, 0, none⟩, sc, rs⟩ : Stm)) hx (by omega : gt < ns) hem h hh
 have hemn := qgu (x := (⟨cp, cr, gA, gc, gs, lA, lc, cl, uA, uc, cu, some ⟨gtA, 0, none⟩, tc, ts, some ⟨gsA, 0, none⟩, sc, rs⟩ : Stm)) hx (by omega : gt < ns) hem
 obtain ⟨⟨yA, yc, yl⟩, hy⟩ : ∃ y, rs.getD gt Rw.zero = y := ⟨_, rfl⟩
 have hys := hsp gt om; rw [hy] at hys
 have hyl : (yl.length : Int) = cp := hys.1
 obtain ⟨gy, rfl⟩ := L.rwSome 6 rfl om hy om
 obtain ⟨yz, hyz⟩ : ∃ z, yl[ct]? = some z := ⟨_, List.getElem?_eq_getElem om⟩
 have hyo := hys.2 yz (List.mem_of_getElem? hyz)
 have hyv := hyo.1.v; have hyr := hyo.1.r; have hyf := hyo.1.floor
 obtain ⟨z2, hz2⟩ : ∃ z, yl[to]? = some z := ⟨_, List.getElem?_eq_getElem om⟩
 have hzf := (hys.2 z2 (List.mem_of_getElem? hz2)).1.floor
 obtain ⟨e, hew⟩ : ∃ e, (⟨t.v, t.r, wt⟩ : En).moved yz.floor z2.floor = e := ⟨_, rfl⟩
 have heo : e.Ok ∧ e.w = wt := by rw [← hew]; exact En.qjs hEo _ _ hzf
 have hev := heo.1.2; have her := qbv heo.1.1
 have hmo := qt6 (x := (⟨cp, cr, gA, gc, gs, lA, lc, cl, uA, uc, cu, some ⟨gtA, 0, none⟩, tc, ts, some ⟨gsA, 0, none⟩, sc, rs⟩ : Stm)) (to := to) ht hgt hct hwt (qan (x := (⟨cp, cr, gA, gc, gs, lA, lc, cl, uA, uc, cu, some ⟨gtA, 0, none⟩, tc, ts, some ⟨gsA, 0, none⟩, sc, rs⟩ : Stm)) (by show gt < rs.length; omega) hy hyz) (qan (x := (⟨cp, cr, gA, gc, gs, lA, lc, cl, uA, uc, cu, some ⟨gtA, 0, none⟩, tc, ts, some ⟨gsA, 0, none⟩, sc, rs⟩ : Stm)) (by show gt < rs.length; omega) hy hz2) hew hem
 refine (Jin3 L Tryz.func95 81) ?_
 refine (JP∘Jp 1∘Jn∘Jf 0∘Jg 5 O0∘Jp 1∘Jy (h:=by exact Yl.ix0 gtA k 8 rfl rfl rfl)∘Jp 1∘Jd6∘Jr∘Jp 2∘Jn∘Jf 1∘Jy (v := vI t.group) (h:=by exact Yl.qh rfl rfl kr (fun _ h => h.qv qd (i := 4) rfl (k := k) (off := 1) (x := t) (ht) rfl))∘Jo (vI gt) (by rw [hgt])∘Jp 1∘JK (h:=by exact fun L => qi0 0 L rfl hx (by show ((to : Nat) : Int) < cp; omega) om hem)) fun A24 c24 w24 hc24 => (Jp 1∘Jd6∘Jj) fun a I L => ?_
 refine wp_seq ?_
 refine Jb I L ((Vs .n []) fun wd2 => (Vp [0, 5]∘Vn 1∘Vf 2 0∘Vf 3 6∘Vc 4 O1∘Vn 6∘Vf 7 1∘Vy 8 (v := vI t.group) (h:=by exact Yl.qh rfl rfl kr (fun _ h => h.qv qd (i := 5) rfl (k := k) (off := 1) (x := t) (ht) rfl))∘Vo (vI gt) (by rw [hgt])∘Vy 9 (h:=by exact Yl.ix0 gsA gt 1 rfl rfl rfl)∘Vy 10 (v := .slice ((rs.getD gt Rw.zero).A) ((rs.getD gt Rw.zero).l.length) ((rs.getD gt Rw.zero).c)) (h:=by exact Yl.r1 6 gt Rw.zero om rfl rfl rfl)∘Vo (vS gy yl.length yc) (by rw [hy])∘Vp [11]∘Vd∘Jd6) fun a I L => ?_)
 refine qz (fun aS wS => ∃ (g9 : Nat), Fr aS 81 [] [(9, vP g9 0), (7, .slice A24 em.length c24), (6, vP gtA (k * 8)), (0, vP gm 0), (2, vI to)] ∧ Mem W wS (.blk g9 e.cells 117 :: .row (.slice A24 em.length c24) em.length (em.map I64v) 3 1 :: fM gm cp cr gA ng gc lA nl lc uA nu uc (some ⟨gtA, 0, none⟩) nt tc (some ⟨gsA, 0, none⟩) ns sc :: fG gA ng gc gs :: fI lA nl lc cl :: fI uA nu uc cu :: fT (some ⟨gtA, 0, none⟩) nt tc ts :: fS (some ⟨gsA, 0, none⟩) ns sc rs :: (fR rs ++ (T)))) ?_ ?_
 ·
  refine Jb I L ((Vs .n [31]) fun wd3 => (Vp [0, 4, 8, 13, 14, 21, 22]∘Vn 1∘Vf 2 6∘Vy 3 (v := vQ t.v) (h:=by exact Yl.qh rfl rfl kr (fun _ h => h.qv qd (i := 5) rfl (k := k) (off := 6) (x := t) (ht) rfl))∘Vn 5∘Vf 6 7∘Vy 7 (v := vW t.r) (h:=by exact Yl.qh rfl rfl kr (fun _ h => h.qv qd (i := 5) rfl (k := k) (off := 7) (x := t) (ht) rfl))∘Vn 9∘Vf 10 2∘Vy 11 (v := vI t.weight) (h:=by exact Yl.qh rfl rfl kr (fun _ h => h.qv qd (i := 5) rfl (k := k) (off := 2) (x := t) (ht) rfl))∘Vo (vI wt) (by rw [hwt])∘Vn 15∘Vf 16 3∘Vy 17 (v := vI t.cpu) (h:=by exact Yl.qh rfl rfl kr (fun _ h => h.qv qd (i := 5) rfl (k := k) (off := 3) (x := t) (ht) rfl))∘Vo (vI ct) (by rw [hct])∘Vy 18 (h:=by exact Yl.ix0 gy ct 3 rfl rfl rfl)∘Vf 19 2∘Vy 20 (v := vQ yz.floor) (h:=by exact Yl.qh rfl rfl kr (fun _ h => h.qa1 7 (j := 2) rfl om hy (hyz) rfl))∘Vy 23 (h:=by exact Yl.ix0 gy to 3 rfl rfl rfl)∘Vf 24 2∘Vy 25 (v := vQ z2.floor) (h:=by exact Yl.qh rfl rfl kr (fun _ h => h.qa1 7 (j := 2) rfl om hy (hz2) rfl))) fun a I L HS => ?_)
  refine qj [12, 30] kr rfl ?_
  refine all_cons ?_ ?_
  ·refine qe I (i := 12) rfl rfl ?_
   refine e_is I L [vQ t.v, vW t.r, vI wt] (.agg #[vQ t.v, vW t.r, vW wt]) rfl rfl (zd t.v t.r (wt : Int) om _) fun w49 hbw L a I => ?_
   refine keepS (L.pt 7 [0, 1, 2, 3, 4, 5, 6]) (fun HS => ?_)
   refine qj [26, 30] kr rfl ?_
   refine all_cons ?_ ?_
   ·refine qe I (i := 26) rfl rfl ?_
    refine e_is I L [.agg #[vQ t.v, vW t.r, vW wt], vQ yz.floor, vQ z2.floor] (.tuple #[.agg e.cells, vI 0]) rfl rfl (qi3 (⟨t.v, t.r, wt⟩ : En) e hEo yz.floor z2.floor hyf hzf hew _) fun w63 hbw L a I => ?_
    refine keepS (L.pt 7 [0, 1, 2, 3, 4, 5, 6]) (fun HS => ?_)
    refine Vb I L HS ((Vp [27]∘Vx 28∘Vx 29∘VA 30 .n #[vQ 0, vW 0, vW 0]) fun w9 g9 => fun a I L HS => ?_)
    refine s_on I 31 rfl (e_sa I L 0 rfl rfl rfl rfl rfl qs rfl rfl (q9 e) ?_)
    clear L; intro w3_31 L
    refine noS kr ?_
    refine ap I (pastS kr) [32] (bt 33 []) [] fun a I => ?_
    refine qb kr ?_
    exact ⟨g9, I.sub kr, L.pt 8 [0, 1, 2, 3, 4, 5, 6, 7]⟩
   refine all_cons ?_ all_nil
   refine qe I (i := 30) rfl rfl ?_
   refine s_ea I L #[vQ 0, vW 0, vW 0] ?_
   clear I L; intro a w9 g9 I L
   refine keepS (L.pt 8 [1, 2, 3, 4, 5, 6, 7]) (fun HS => ?_)
   refine Vb I L HS ((VI 26 (.f .n) (h:=by exact fun L => qi3 (⟨t.v, t.r, wt⟩ : En) e hEo yz.floor z2.floor hyf hzf hew _)) fun w63 hbw => (Vp [27]∘Vx 28∘Vx 29) fun a I L HS => ?_)
   refine s_on I 31 rfl (e_sa I L 0 rfl rfl rfl rfl rfl qs rfl rfl (q9 e) ?_)
   clear L; intro w3_31 L
   refine noS kr ?_
   refine ap I (pastS kr) [32] (bt 33 []) [] fun a I => ?_
   refine qb kr ?_
   exact ⟨g9, I.sub kr, L.pt 8 [0, 1, 2, 3, 4, 5, 6, 7]⟩
  refine all_cons ?_ all_nil
  refine qe I (i := 30) rfl rfl ?_
  refine s_ea I L #[vQ 0, vW 0, vW 0] ?_
  clear I L; intro a w9 g9 I L
  refine keepS (L.pt 8 [1, 2, 3, 4, 5, 6, 7]) (fun HS => ?_)
  refine Vb I L HS ((VI 12 (.f .n) (h:=by exact fun L => zd t.v t.r (wt : Int) om _)) fun w49 hbw => (VI 26 (.f .n) (h:=by exact fun L => qi3 (⟨t.v, t.r, wt⟩ : En) e hEo yz.floor z2.floor hyf hzf hew _)) fun w63 hbw => (Vp [27]∘Vx 28∘Vx 29) fun a I L HS => ?_)
  refine s_on I 31 rfl (e_sa I L 0 rfl rfl rfl rfl rfl qs rfl rfl (q9 e) ?_)
  clear L; intro w3_31 L
  refine noS kr ?_
  refine ap I (pastS kr) [32] (bt 33 []) [] fun a I => ?_
  refine qb kr ?_
  exact ⟨g9, I.sub kr, L.pt 8 [0, 1, 2, 3, 4, 5, 6, 7]⟩
 clear I L; rintro a w3 ⟨g9, I, L⟩
 refine Jb I L ((JP∘Jp 1∘Jy (v := .agg e.cells) (h:=by exact Yl.loadS rfl rfl qs rfl (fun _ h => qa (h.blk (i := 0) rfl)))∘JO (h:=by exact fun L => qng t e O6' L ht hlt heo.1)) fun w68 => (Jt3∘Jr∘Jp 2∘Jn∘Jf 3) fun a I L => ?_)
 refine fo I 4 rfl rfl ?_
 refine qk I L (i := 6) rfl rfl rfl rfl kr rfl rfl (by rw [qy tkL 8 qd, List.length_set]; omega) ?_
 clear L; intro w5_4 L
 replace L := L.asRow (i := 6) (ys := (ts.set k { t.put e with cpu := (to : Int) }).flatMap tkL) rfl ((qw tkL 8 qd (ts.set k (t.put e)) k (t.put e) { t.put e with cpu := (to : Int) } (qbg ht) 3 de _ rfl).trans (by rw [List.set_set]))
 refine Jb I L ((Jt4∘Jr∘Jp 1∘Jn∘Jf 5∘Jy (v := .bool (({ t.put e with cpu := (to : Int) } : Tk).ready)) (h:=by exact Yl.qh rfl rfl kr (fun _ h => h.qv qd (i := 6) rfl (k := k) (off := 5) (x := ({ t.put e with cpu := (to : Int) } : Tk)) ((qbg ht)) rfl))∘Jo (.bool t.ready) (by exact rfl)∘Jd3∘Jj) (Ju (fun hb76 => ?_) fun hb76 => ?_))
 ·
  refine (JT∘JR∘Jp 3∘JL (h:=by exact fun L => qi2 2 L rfl (j := 1) rfl de (qen (ts' := ts.set k { t.put e with cpu := (to : Int) }) hlns (by rw [List.length_set]; exact hlt)) (hemm) (hemn) hgs hrg hsp hcr hcp2 (by show ((to : Nat) : Int) < cp; omega))) ?_
  rintro L _ w80 ⟨rs2, rfl, hl2, hsp2, hst2, HM2⟩
  refine ⟨_, rfl, _, (show Mem W w80 (.blk g9 e.cells 117 :: .row (.slice A24 em.length c24) em.length (em.map I64v) 3 1 :: fM gm cp cr gA ng gc lA nl lc uA nu uc (some ⟨gtA, 0, none⟩) nt tc (some ⟨gsA, 0, none⟩) ns sc :: fG gA ng gc gs :: fI lA nl lc cl :: fI uA nu uc cu :: fT (some ⟨gtA, 0, none⟩) nt tc (ts.set k { t.put e with cpu := (to : Int) }) :: fS (some ⟨gsA, 0, none⟩) ns sc rs2 :: (fR rs2 ++ (T))) from HM2), ?_⟩
  refine (Jt4∘Jq) fun a I L => ?_
  exact norm0 rfl I (qrj (y := (⟨cp, cr, gA, gc, gs, lA, lc, cl, uA, uc, cu, some ⟨gtA, 0, none⟩, tc, (ts.set k { t.put e with cpu := (to : Int) }), some ⟨gsA, 0, none⟩, sc, rs2⟩ : Stm)) 2 L rfl (qnh (qen hlns (by rw [List.length_set]; exact hlt)) hl2) (by rw [hmo, if_pos hb76]; exact hst2))
 refine (JF∘JS) fun a I L => ?_
 exact norm0 rfl I (qrj (y := (⟨cp, cr, gA, gc, gs, lA, lc, cl, uA, uc, cu, some ⟨gtA, 0, none⟩, tc, (ts.set k { t.put e with cpu := (to : Int) }), some ⟨gsA, 0, none⟩, sc, rs⟩ : Stm)) 2 L rfl (qen hlns (by rw [List.length_set]; exact hlt)) (by rw [hmo, if_neg (nt' hb76)]))
theorem qr2 {W w : World} {F T : List Fact} {x : Stm} {ng nl nu nt ns gm k to : Nat} {t : Tk} (n : Nat) (L : Mem W w F) (he : F.drop n = mdA gm x ng nl nu nt ns ++ T) (hx : MdOk x ng nl nu nt ns) (ht : x.ts[k]? = some t) (hto : (to : Int) < x.cpus) :
  Calls Tryz.prog 95 #[vP gm 0, vI k, vI to] w (fun r w' => ∃ y : Stm, r = .returned (.tuple #[]) ∧ y.sta = moveS x.sta k (to : Int) ∧ Mem W w' (F.take n ++ (mdB gm y ++ T))) :=
 (qo2 W w x gm k to t ng nl nu nt ns hx ht hto (F.take n ++ T) (L.front n he)).mono fun r w' ⟨y, h1, h2, h3⟩ => ⟨y, h1, h2, h3.back⟩
theorem qo3 (A : Option Addr) (c : Nat) (l : List Int) (v : Int) (w : World) (hr : Rd w w.heap.size 1 A l.length (l.map I64i)) (hn : l.length ≤ 1000000) :
    Calls Tryz.prog 125 #[.slice A l.length c, vI v] w (IdxIs w l v) := by
 refine (JN2 Tryz.func125 19) ?_
 refine (JP∘Jp 1∘Jj∘JQ∘JP∘Jp 1∘Jl∘Jp 1∘Jj∘JB) fun a I L => ?_
 refine qg (fun mS aS wS => ∃ (k : Nat), (k ≤ l.length) ∧ (∀ i, i < k → l.getD i 0 ≠ v) ∧ mS = l.length - k ∧ Fr aS 19 [] [(8, vI k), (7, vI l.length), (4, vI 0), (0, .slice A l.length c), (1, vI v)] ∧ Mem w wS []) (m := l.length - 0) ⟨0, Nat.zero_le _, fun i h => by omega, rfl, I.sub kr, L.pk []⟩ ?_
 clear I L; rintro mS a w_ ⟨k, hk, hu, rfl, I, L⟩
 refine Jb I L ((JP∘Jp 1∘Jj∘JQ) (Ju (fun hb9 => ?_) fun hb9 => ?_))
 ·
  intro a I L
  have hd9 := of_decide_eq_true hb9
  have hk9 : k < l.length := by omega
  refine Jb I L ((JT∘JS'∘JQ∘JB∘JP∘Jp 2∘Jd1∘Jr∘Jp 3) ?_)
  repeat (first | clear I | clear L)
  intro a I L
  obtain ⟨gA, oA, rfl, _⟩ := hr.qn (Nat.lt_of_le_of_lt (Nat.zero_le _) (show k < l.length from by omega)) de
  refine Jb I L ((Jy (h:=by exact Yl.ix gA oA k 1 rfl rfl rfl)∘Jy (h:=by exact Yl.o1 hr k 0 om rfl rfl)∘Jp 1∘Jd5∘Jj) (Je (fun hd16 => ?_) fun hd16 => ?_))
  ·
   exact (JT∘JP∘Jp 2∘Jd1∘Jj∘JZ∘Jz1) fun L => qo0 hk9 hd16.symm L.below
  refine (JF∘JS'∘JR∘JaK 1∘Jp 1∘Jd1∘Jq) fun a I L => ?_
  exact ⟨_, om, k + 1, by omega, qwn hu (fun h => hd16 h.symm), rfl, I.sub kr, L.pk []⟩
 intro a I L
 have hd9 := of_decide_eq_false hb9
 exact Jb I L ((JF∘JX∘JG∘JP∘Jp 1∘Jj∘JZ∘Jz1) fun L => qo1 (fun i hi => hu i om) L.below)
theorem qi5 (A : Option Addr) (c : Nat) (l : List Int) (v : Int) (w : World) (hr : Rd w w.heap.size 1 A l.length (l.map I64i)) (hn : l.length ≤ 1000000) :
    Calls Tryz.prog 94 #[.slice A l.length c, vI v] w (Is w (.bool (decide (v ∈ l)))) := by
 refine (JN2 Tryz.func94 9) ?_
 refine (JP∘Jp 1∘Jr∘Jp 2∘JL (h:=by exact fun L => qo3 A c l v _ (L.old hr) hn)) ?_
 rintro L _ w7 ⟨⟨i, rfl, he⟩, hbw⟩
 refine ⟨_, rfl, _, L.call hbw, ?_⟩
 exact (Jp 2∘Jd4∘Jj∘JZ∘Jz1) fun L => is_as he L.below
theorem ql5 {w : World} {A : Option Addr} {c n : Nat} {l : List Int} {v : Int} (hl : l.length = n) (hr : Rd w w.heap.size 1 A n (l.map I64i)) (hn : l.length ≤ 1000000) : Calls Tryz.prog 94 #[.slice A n c, vI v] w (Is w (.bool (decide (v ∈ l)))) := by
 subst hl
 exact qi5 A c l v w hr hn
theorem qi6 (W w : World) (x : Stm) (gm : Nat) (ng nl nu nt ns : Nat) (hx : MdOk x ng nl nu nt ns) (o : Op30) (ho : o.Ok) (T : List Fact) (L : Mem W w (mdA gm x ng nl nu nt ns ++ T)) :
    Calls Tryz.prog 38 #[vP gm 0, .agg o.cells] w (OpIs W gm T (qaj x.sta o)) := by
 obtain ⟨cp, cr, gA, gc, gs, lA, lc, cl, uA, uc, cu, tA, tc, ts, sA, sc, rs⟩ := x
 replace L : Mem W w (fM gm cp cr gA ng gc lA nl lc uA nu uc tA nt tc sA ns sc :: fG gA ng gc gs :: fI lA nl lc cl :: fI uA nu uc cu :: fT tA nt tc ts :: fS sA ns sc rs :: (fR rs ++ (T))) := L
 obtain ⟨hlg, hll, hlu, hlt, hls⟩ := hx.ln
 replace hlg : gs.length = ng := hlg; replace hll : cl.length = nl := hll; replace hlu : cu.length = nu := hlu; replace hlt : ts.length = nt := hlt; replace hls : rs.length = ns := hls
 have hlns := hx.ln
 have hsp : SpsOk gs cp rs := hx.spots
 have hrg : rs.length = gs.length := hx.sh.rs
 have hcr : cr < 18446744073709551616 := hx.ok.credit
 obtain ⟨hcp1, hcp2, _, hgs⟩ := zj hx.sh.cfg
 replace hcp1 : 1 ≤ cp := hcp1; replace hcp2 : cp ≤ 64 := hcp2; replace hgs : gsOk gs = true := hgs
 have hgl1 := (qo hgs).1; have hgl2 := (qo hgs).2.1
 have hcll : (cl.length : Int) = cp := hx.sh.cl; have hcul : (cu.length : Int) = cp := hx.sh.cu
 have hfts : ts.length ≤ 1000000 := hx.few.t
 have hoc := ho.cpu; have hot := ho.task; have hog := ho.group; have how := ho.weight; have hoto := ho.to; have hotk := ho.ticks; have hom := ho.mask; have hok8 := ho.kind; unfold I64 at hoc hot hog how hoto hotk
 obtain ⟨guA, rfl⟩ := qi (L.own (i := 3) rfl) om
 refine (Jin2 L Tryz.func38 67) ?_
 refine (JP∘JE) fun w3 g3 => (Jp 2∘Jj∘JQ∘JB∘JP∘Jp 1∘Jg 5 O0∘JI (h:=by exact fun L => qhy 1 L rfl hx o.to)) fun w11 hbw => (Jp 2∘Jd4∘Jj) (Ju (fun hb7 => ?_) fun hb7 => ?_)
 ·
  intro a I L
  have hd7 := of_decide_eq_false ((Bool.not_eq_true' _).mp hb7)
  exact Jb I L ((JT∘JP∘Jp 2∘Jj∘JZ∘Jz2) fun L => by exact qx (y := (⟨cp, cr, gA, gc, gs, lA, lc, cl, some ⟨guA, 0, none⟩, uc, cu, tA, tc, ts, sA, sc, rs⟩ : Stm)) 1 L rfl hlns (if_pos (decide_eq_false hd7)))
 intro a I L
 have hd7 := of_decide_eq_true ((Bool.not_eq_false' _).mp hb7)
 replace hd7 : 0 ≤ o.to ∧ o.to < cp := hd7
 obtain ⟨c, hcc⟩ : ∃ n : Nat, o.to = (n : Int) := ⟨o.to.toNat, by omega⟩
 have hccp : ((c : Nat) : Int) < cp := by omega
 have hfcu : cu.length ≤ 1000000 := hx.few.u
 refine Jb I L ((JF∘JP∘Jg 2 O0∘JI (h:=by exact fun L => qfy o.task _)) fun w16 hbw => (Jp 2∘Jd3∘Jj) (Ju (fun hb13 => ?_) fun hb13 => ?_))
 ·
  intro a I L
  have hd13 := of_decide_eq_false ((Bool.not_eq_true' _).mp hb13)
  exact Jb I L ((JT∘JP∘Jp 2∘Jj∘JZ∘Jz2) fun L => by exact qx (y := (⟨cp, cr, gA, gc, gs, lA, lc, cl, some ⟨guA, 0, none⟩, uc, cu, tA, tc, ts, sA, sc, rs⟩ : Stm)) 1 L rfl hlns ((if_neg (nf (decide_eq_true hd7))).trans (if_pos (decide_eq_false hd13))))
 intro a I L
 have hd13 := of_decide_eq_true ((Bool.not_eq_false' _).mp hb13)
 refine Jb I L ((JF∘JS'∘JP∘Jp 1∘Jg 2 O0∘JI (h:=by exact fun L => qel 1 L rfl hx o.task)) fun w21 hbw => (Jp 1∘Jd3∘Jj∘JQ∘JB∘JP∘Jp 3∘Jd2∘Jj) (Ju (fun hb22 => ?_) fun hb22 => ?_))
 ·
  intro a I L
  have hd22 := of_decide_eq_true hb22
  exact Jb I L ((JT∘JP∘Jp 2∘Jj∘JZ∘Jz2) fun L => by exact qx (y := (⟨cp, cr, gA, gc, gs, lA, lc, cl, some ⟨guA, 0, none⟩, uc, cu, tA, tc, ts, sA, sc, rs⟩ : Stm)) 1 L rfl hlns ((if_neg (nf (decide_eq_true hd7))).trans ((if_neg (nf (decide_eq_true hd13))).trans (if_pos (hd22)))))
 intro a I L
 have hd22 := of_decide_eq_false hb22
 obtain ⟨k, t, hk, ht, hkl, hkid⟩ := qco hd22
 replace hk : fidx ts o.task = (k : Int) := hk; replace ht : ts[k]? = some t := ht; replace hkl : k < ts.length := hkl
 obtain ⟨htg, hto⟩ := hx.task ht
 have hti := htg.id; have htgr := htg.group; have htc := htg.cpu; have htw := htg.weight; have htv := hto.v; have htr := hto.r; have htm := hto.mask
 replace htc : 0 ≤ t.cpu ∧ t.cpu < cp := htc
 obtain ⟨gt, hgt⟩ : ∃ n : Nat, t.group = (n : Int) := ⟨t.group.toNat, by omega⟩
 obtain ⟨ct, hct⟩ : ∃ n : Nat, t.cpu = (n : Int) := ⟨t.cpu.toNat, by omega⟩
 obtain ⟨wt, hwt⟩ : ∃ n : Nat, t.weight = (n : Int) := ⟨t.weight.toNat, by omega⟩
 have hEo : (⟨t.v, t.r, wt⟩ : En).Ok := En.qdf htg.ent hwt htv
 revert L; revert a; repeat (first | clear I | clear L)
 intro a I L
 obtain ⟨gtA, rfl⟩ := qi (L.own (i := 5) rfl) (Nat.lt_of_le_of_lt (Nat.zero_le _) (show k < nt from (by omega : k < nt)))
 refine Jb I L ((JF) fun a I L => ?_)
 refine wp_seq ?_
 refine Jb I L ((Vs .n []) fun wd8 => (Vp [0]∘Vf 5 2∘Vn 1∘Vf 2 0∘Vf 3 4∘Vc 4 O1∘Vc 6 O0∘VI 7 .n (h:=by exact fun L => ql5 hlu (L.rd (i := 4) rfl) hfcu)) fun w33 hbw => (Vp [8]∘Vd∘Jd6) (Ji (fun hd25 => ?_) fun hd25 => ?_))
 ·
  exact (JT∘JP∘Jp 2∘Jj∘JZ∘Jz2) fun L => by exact qx (y := (⟨cp, cr, gA, gc, gs, lA, lc, cl, some ⟨guA, 0, none⟩, uc, cu, some ⟨gtA, 0, none⟩, tc, ts, sA, sc, rs⟩ : Stm)) 1 L rfl hlns ((if_neg (nf (decide_eq_true hd7))).trans ((if_neg (nf (decide_eq_true hd13))).trans ((if_neg (by show ¬ fidx ts o.task < 0; rw [hk]; omega)).trans (if_pos (hd25)))))
 refine (JF) fun a I L => ?_
 refine wp_seq ?_
 refine Jb I L ((Vs .n []) fun wd10 => (Vp [0]∘Vf 9 5∘Vn 1∘Vf 2 0∘Vf 3 5∘Vc 4 O1∘Vp [5]∘Vo (vI k) (by rw [hk])∘Vy 6 (h:=by exact Yl.ix0 gtA k 8 rfl rfl rfl)∘Vf 7 3∘Vy 8 (v := vI t.cpu) (h:=by exact Yl.qh rfl rfl kr (fun _ h => h.qv qd (i := 5) rfl (k := k) (off := 3) (x := t) (ht) rfl))∘Vc 10 O0∘Vp [11, 12]∘Vd∘Jd6) (Ju (fun hb34 => ?_) fun hb34 => ?_))
 ·
  intro a I L
  have hd34 := eq_of_beq hb34
  exact Jb I L ((JT∘JP∘Jp 2∘Jj∘JZ∘Jz2) fun L => by exact qx (y := (⟨cp, cr, gA, gc, gs, lA, lc, cl, some ⟨guA, 0, none⟩, uc, cu, some ⟨gtA, 0, none⟩, tc, ts, sA, sc, rs⟩ : Stm)) 1 L rfl hlns ((if_neg (nf (decide_eq_true hd7))).trans ((if_neg (nf (decide_eq_true hd13))).trans ((if_neg (by show ¬ fidx ts o.task < 0; rw [hk]; omega)).trans ((if_neg (hd25)).trans (if_pos (by rw [qao (s := Stm.sta (⟨cp, cr, gA, gc, gs, lA, lc, cl, some ⟨guA, 0, none⟩, uc, cu, some ⟨gtA, 0, none⟩, tc, ts, sA, sc, rs⟩ : Stm)) hk ht]; exact hd34)))))))
 intro a I L
 have hd34 := ne_of_beq_false hb34
 have hmb := Nat.div_le_self t.mask (2 ^ c)
 refine Jb I L ((JF) fun a I L => ?_)
 refine wp_seq ?_
 refine Jb I L ((Vs .n []) fun wd12 => (Vp [0]∘Vf 9 5∘Vn 1∘Vf 2 0∘Vf 3 5∘Vc 4 O1∘Vp [5]∘Vo (vI k) (by rw [hk])∘Vy 6 (h:=by exact Yl.ix0 gtA k 8 rfl rfl rfl)∘Vf 7 4∘Vy 8 (v := vQ t.mask) (h:=by exact Yl.qh rfl rfl kr (fun _ h => h.qv qd (i := 5) rfl (k := k) (off := 4) (x := t) (ht) rfl))∘Vc 10 O0∘Vo (vI c) (by rw [hcc])∘Vy 11 (v := vQ (t.mask / 2 ^ c : Nat)) (h:=by exact Yl.shrN (m := t.mask) (n := c) rfl rfl rfl (by show _ ≤ 64; omega))∘Vp [12]∘Vo (vQ ((t.mask / 2 ^ c) % 2 : Nat)) (by exact qfu (n := 1) (j := 1) rfl de om)∘Vp [13, 14]∘Vd∘Jd6) (Je (fun hd47 => ?_) fun hd47 => ?_))
 ·
  exact (JT∘JP∘Jp 2∘Jj∘JZ∘Jz2) fun L => by exact qx (y := (⟨cp, cr, gA, gc, gs, lA, lc, cl, some ⟨guA, 0, none⟩, uc, cu, some ⟨gtA, 0, none⟩, tc, ts, sA, sc, rs⟩ : Stm)) 1 L rfl hlns ((if_neg (nf (decide_eq_true hd7))).trans ((if_neg (nf (decide_eq_true hd13))).trans ((if_neg (by show ¬ fidx ts o.task < 0; rw [hk]; omega)).trans ((if_neg (hd25)).trans ((if_neg (by rw [qao (s := Stm.sta (⟨cp, cr, gA, gc, gs, lA, lc, cl, some ⟨guA, 0, none⟩, uc, cu, some ⟨gtA, 0, none⟩, tc, ts, sA, sc, rs⟩ : Stm)) hk ht]; exact hd34)).trans (if_pos (qns (by rw [qao (s := Stm.sta (⟨cp, cr, gA, gc, gs, lA, lc, cl, some ⟨guA, 0, none⟩, uc, cu, some ⟨gtA, 0, none⟩, tc, ts, sA, sc, rs⟩ : Stm)) hk ht]) hcc om)))))))
 refine (JF∘JS'∘JP∘Jp 2∘Jo (vI k) (by rw [hk])∘Jf 5∘Jc O0∘Jo (vI c) (by rw [hcc])∘JL (h:=by exact fun L => qr2 1 L rfl hx ht hccp)) ?_
 rintro L _ w66 ⟨y, rfl, hys, HM2⟩
 refine ⟨_, rfl, _, (show Mem W w66 (.blk g3 o.cells 52 :: (mdB gm y ++ (T))) from HM2), ?_⟩
 exact (Jt5∘Jr∘Jp 2∘Jj∘JZ∘Jz2) fun L => by exact qvu 1 L rfl ((qgm (x := (⟨cp, cr, gA, gc, gs, lA, lc, cl, some ⟨guA, 0, none⟩, uc, cu, some ⟨gtA, 0, none⟩, tc, ts, sA, sc, rs⟩ : Stm)) (decide_eq_true hd7) (decide_eq_true hd13) hk ht hd25 hd34 (qgv hcc om)).trans (by rw [hys, hcc]))
theorem qwo {a b : Int} : (a != b) = decide (a ≠ b) := by rw [Bool.eq_iff_iff, bne_iff_ne, decide_eq_true_eq]
theorem qkv {W w : World} {F T : List Fact} {x : Stm} {ng nl nu nt ns gm c : Nat} {v : Int} (n : Nat) (L : Mem W w F) (he : F.drop n = mdA gm x ng nl nu nt ns ++ T) (hx : MdOk x ng nl nu nt ns) (hv : loadS x.sta c = v) : Calls Tryz.prog 43 #[vP gm 0, vI c] w (Is w (vI v)) := hv ▸ qr0 n L he hx
theorem quk {x : Stm} {o : Op30} {c ct bb : Nat} {fr mo lc be : Int} {t : Tk} {ma : Bool} (hcc : o.cpu = (c : Int)) (hbz : busyF x.sta o.cpu x.cpus.toNat = (fr, mo)) (hlc : loadS x.sta c = lc) (hct : t.cpu = (ct : Int)) (hbb : be.toNat = bb) (hma : (t.ready && (decide (t.cpu = fr) && (decide ((t.mask / 2 ^ c) % 2 = 1) && decide (x.cu.getD ct 0 ≠ t.id)))) = ma) :
  qbh x.sta o be t = (ma && decide (2 * t.weight ≤ mo - lc) && (decide (be < 0) || decide ((x.ts.getD bb Tk.zero).weight < t.weight))) := by
 unfold qbh mayB bitOn
 rw [show x.sta.cpus = x.cpus from rfl, hbz, hcc, Int.toNat_natCast, hlc, hbb, ← hma, show x.sta.cu = x.cu from rfl, show x.sta.ts = x.ts from rfl, hct, Int.toNat_natCast]
 simp only [Bool.and_assoc]
theorem qi7 (W w : World) (x : Stm) (gm : Nat) (ng nl nu nt ns : Nat) (hx : MdOk x ng nl nu nt ns) (o : Op30) (ho : o.Ok) (T : List Fact) (L : Mem W w (mdA gm x ng nl nu nt ns ++ T)) :
    Calls Tryz.prog 39 #[vP gm 0, .agg o.cells] w (OpIs W gm T (qaa x.sta o)) := by
 obtain ⟨cp, cr, gA, gc, gs, lA, lc, cl, uA, uc, cu, tA, tc, ts, sA, sc, rs⟩ := x
 replace L : Mem W w (fM gm cp cr gA ng gc lA nl lc uA nu uc tA nt tc sA ns sc :: fG gA ng gc gs :: fI lA nl lc cl :: fI uA nu uc cu :: fT tA nt tc ts :: fS sA ns sc rs :: (fR rs ++ (T))) := L
 obtain ⟨hlg, hll, hlu, hlt, hls⟩ := hx.ln
 replace hlg : gs.length = ng := hlg; replace hll : cl.length = nl := hll; replace hlu : cu.length = nu := hlu; replace hlt : ts.length = nt := hlt; replace hls : rs.length = ns := hls
 have hlns := hx.ln
 have hsp : SpsOk gs cp rs := hx.spots
 have hrg : rs.length = gs.length := hx.sh.rs
 have hcr : cr < 18446744073709551616 := hx.ok.credit
 obtain ⟨hcp1, hcp2, _, hgs⟩ := zj hx.sh.cfg
 replace hcp1 : 1 ≤ cp := hcp1; replace hcp2 : cp ≤ 64 := hcp2; replace hgs : gsOk gs = true := hgs
 have hgl1 := (qo hgs).1; have hgl2 := (qo hgs).2.1
 have hcll : (cl.length : Int) = cp := hx.sh.cl; have hcul : (cu.length : Int) = cp := hx.sh.cu
 have hfts : ts.length ≤ 1000000 := hx.few.t
 have hoc := ho.cpu; have hot := ho.task; have hog := ho.group; have how := ho.weight; have hoto := ho.to; have hotk := ho.ticks; have hom := ho.mask; have hok8 := ho.kind; unfold I64 at hoc hot hog how hoto hotk
 have hwt_ := qc8 hx.sh; replace hwt_ : ∀ t ∈ ts, 1 ≤ t.weight ∧ t.weight ≤ 65536 := hwt_
 obtain ⟨guA, rfl⟩ := qi (L.own (i := 3) rfl) om
 have hld : ∀ c, loadS (⟨cp, cr, gA, gc, gs, lA, lc, cl, some ⟨guA, 0, none⟩, uc, cu, tA, tc, ts, sA, sc, rs⟩ : Stm).sta c ≤ 65536000000 ∧ 0 ≤ loadS (⟨cp, cr, gA, gc, gs, lA, lc, cl, some ⟨guA, 0, none⟩, uc, cu, tA, tc, ts, sA, sc, rs⟩ : Stm).sta c := fun c => by have h1 : 0 ≤ loadN ts c ∧ loadN ts c ≤ 65536 * ts.length := qdw (c := c) hwt_; exact ⟨by show loadN ts c ≤ _; omega, h1.1⟩
 refine (Jin2 L Tryz.func39 136) ?_
 refine (JP∘JE) fun w3 g3 => (Jp 2∘Jj∘JQ∘JP∘Jp 1∘Jg 1 O0∘JI (h:=by exact fun L => qhy 1 L rfl hx o.cpu)) fun w18 hbw => (Jp 1∘Jd3∘Jj) (Ju (fun hb19 => ?_) fun hb19 => ?_)
 ·
  intro a I L
  have hd19 := of_decide_eq_false ((Bool.not_eq_true' _).mp hb19)
  exact Jb I L ((JT∘JP∘Jp 2∘Jj∘JZ∘Jz2) fun L => by exact qx (y := (⟨cp, cr, gA, gc, gs, lA, lc, cl, some ⟨guA, 0, none⟩, uc, cu, tA, tc, ts, sA, sc, rs⟩ : Stm)) 1 L rfl hlns (if_pos (decide_eq_false hd19)))
 intro a I L
 have hd19 := of_decide_eq_true ((Bool.not_eq_false' _).mp hb19)
 replace hd19 : 0 ≤ o.cpu ∧ o.cpu < cp := hd19
 obtain ⟨c, hcc⟩ : ∃ n : Nat, o.cpu = (n : Int) := ⟨o.cpu.toNat, by omega⟩
 have hccp : ((c : Nat) : Int) < cp := by omega
 obtain ⟨lc_, hlc_⟩ : ∃ z, loadS (⟨cp, cr, gA, gc, gs, lA, lc, cl, some ⟨guA, 0, none⟩, uc, cu, tA, tc, ts, sA, sc, rs⟩ : Stm).sta c = z := ⟨_, rfl⟩
 have hlcb := hld c
 rw [hlc_] at hlcb
 refine Jb I L ((JF∘JS'∘JP∘Jp 2∘Jj∘JQ∘JP∘Jp 1∘Jn∘Jf 0∘Jf 0∘Jg 0 O1∘Jp 1∘Jj∘JB) fun a I L => ?_)
 refine qg (fun mS aS wS => ∃ (i : Nat) (fr : Int) (mo : Int), ((i : Int) ≤ cp) ∧ (busyF (⟨cp, cr, gA, gc, gs, lA, lc, cl, some ⟨guA, 0, none⟩, uc, cu, tA, tc, ts, sA, sc, rs⟩ : Stm).sta o.cpu i = (fr, mo)) ∧ mS = cp.toNat - i ∧ Fr aS 136 [] [(26, vI i), (25, vI cp), (7, vI mo), (6, vI fr), (19, .bool false), (5, vI 0), (4, vI 0), (3, vP g3 0), (0, vP gm 0)] ∧ Mem W wS (.blk g3 o.cells 52 :: fM gm cp cr gA ng gc lA nl lc (some ⟨guA, 0, none⟩) nu uc tA nt tc sA ns sc :: fG gA ng gc gs :: fI lA nl lc cl :: fI (some ⟨guA, 0, none⟩) nu uc cu :: fT tA nt tc ts :: fS sA ns sc rs :: (fR rs ++ (T)))) (m := cp.toNat - 0) ⟨0, (-1), (-1), by omega, rfl, rfl, I.sub kr, L.pt 7 [0, 1, 2, 3, 4, 5, 6]⟩ ?_
 clear I L; rintro mS a w_ ⟨i, fr, mo, hi, hbz, rfl, I, L⟩
 refine Jb I L ((JP∘Jp 1∘Jj∘JQ) (Ju (fun hb27 => ?_) fun hb27 => ?_))
 ·
  intro a I L
  have hd27 := of_decide_eq_true hb27
  obtain ⟨lw, hlw⟩ : ∃ z, loadS (⟨cp, cr, gA, gc, gs, lA, lc, cl, some ⟨guA, 0, none⟩, uc, cu, tA, tc, ts, sA, sc, rs⟩ : Stm).sta i = z := ⟨_, rfl⟩
  have hlwb := hld i
  rw [hlw] at hlwb
  refine Jb I L ((JT∘JS'∘JQ∘JB∘JP∘Jp 2∘Jd1∘Jr∘Jp 2∘JI (h:=by exact fun L => qkv 1 L rfl hx hlw)) fun w31 hbw => (Jp 1∘Jd3∘Jr∘Jp 1∘Jf 1∘Jc O0∘Jo (vI c) (by rw [hcc])∘Jp 2) (Jh (fun hd36 => ?_) fun hd36 => ?_))
  ·
   refine (Jp 4∘Jd6∘Jj) (Ji (fun hd40 => ?_) fun hd40 => ?_)
   ·
    refine (JT∘JR∘Jp 4∘Jj∘JR∘JaK 1∘Jp 1∘Jd1∘Jq) fun a I L => ?_
    exact ⟨_, om, i + 1, (i : Int), lw, by omega, by rw [qcr hbz, if_pos ⟨by omega, by rw [hlw]; omega⟩, hlw], rfl, I.sub kr, L.pt 7 [0, 1, 2, 3, 4, 5, 6]⟩
   refine (JF∘JS'∘JR∘JaK 1∘Jp 1∘Jd1∘Jq) fun a I L => ?_
   exact ⟨_, om, i + 1, fr, mo, by omega, by rw [qcr hbz, if_neg (by rw [hlw]; omega)], rfl, I.sub kr, L.pt 7 [0, 1, 2, 3, 4, 5, 6]⟩
  refine (Jp 4∘Jd6∘Jj∘JF∘JS'∘JR∘JaK 1∘Jp 1∘Jd1∘Jq) fun a I L => ?_
  exact ⟨_, om, i + 1, fr, mo, by omega, by rw [qcr hbz, if_neg (by rw [hlw]; omega)], rfl, I.sub kr, L.pt 7 [0, 1, 2, 3, 4, 5, 6]⟩
 intro a I L
 have hd27 := of_decide_eq_false hb27
 have hcpi : i = cp.toNat := by omega
 revert L; revert a; repeat (first | clear I | clear L)
 intro a I L
 subst hcpi
 have hbb_ := qe5 (cpu := o.cpu) hld de cp.toNat
 rw [hbz] at hbb_
 replace hbb_ : -1 ≤ fr ∧ fr < (cp.toNat : Int) ∧ -1 ≤ mo ∧ mo ≤ 65536000000 := hbb_
 refine Jb I L ((JF∘JX∘JG∘JP∘Jp 1∘Jj∘JQ∘JP∘Jp 1∘Jn∘Jf 0∘Jg 5 O1∘Jl∘Jp 1∘Jj∘JB) fun a I L => ?_)
 refine qg (fun mS aS wS => ∃ (n : Nat) (be : Int), (n ≤ ts.length) ∧ (bestI (bestF (⟨cp, cr, gA, gc, gs, lA, lc, cl, some ⟨guA, 0, none⟩, uc, cu, tA, tc, ts, sA, sc, rs⟩ : Stm).sta o n) = be) ∧ mS = ts.length - n ∧ Fr aS 136 [] [(50, vI n), (49, vI nt), (48, .slice tA nt tc), (10, vI be), (27, .bool false), (26, vI cp.toNat), (25, vI cp), (7, vI mo), (6, vI fr), (19, .bool false), (5, vI 0), (4, vI 0), (3, vP g3 0), (0, vP gm 0)] ∧ Mem W wS (.blk g3 o.cells 52 :: fM gm cp cr gA ng gc lA nl lc (some ⟨guA, 0, none⟩) nu uc tA nt tc sA ns sc :: fG gA ng gc gs :: fI lA nl lc cl :: fI (some ⟨guA, 0, none⟩) nu uc cu :: fT tA nt tc ts :: fS sA ns sc rs :: (fR rs ++ (T)))) (m := ts.length - 0) ⟨0, (-1), Nat.zero_le _, rfl, rfl, I.sub kr, L.pt 7 [0, 1, 2, 3, 4, 5, 6]⟩ ?_
 clear I L; rintro mS a w_ ⟨n, be, hn, hbe, rfl, I, L⟩
 refine Jb I L ((JP∘Jp 1∘Jj∘JQ) (Ju (fun hb51 => ?_) fun hb51 => ?_))
 ·
  intro a I L
  have hd51 := of_decide_eq_true hb51
  revert L; revert a; repeat (first | clear I | clear L)
  intro a I L
  obtain ⟨gtA, rfl⟩ := qi (L.own (i := 5) rfl) (Nat.lt_of_le_of_lt (Nat.zero_le _) (show n < nt from (by omega : n < nt)))
  obtain ⟨t, ht⟩ : ∃ z, ts[n]? = some z := ⟨_, List.getElem?_eq_getElem om⟩
  obtain ⟨htg, hto⟩ := hx.task ht
  have hti := htg.id; have htgr := htg.group; have htc := htg.cpu; have htw := htg.weight; have htv := hto.v; have htr := hto.r; have htm := hto.mask
  replace htc : 0 ≤ t.cpu ∧ t.cpu < cp := htc
  obtain ⟨gt, hgt⟩ : ∃ n : Nat, t.group = (n : Int) := ⟨t.group.toNat, by omega⟩
  obtain ⟨ct, hct⟩ : ∃ n : Nat, t.cpu = (n : Int) := ⟨t.cpu.toNat, by omega⟩
  obtain ⟨wt, hwt⟩ : ∃ n : Nat, t.weight = (n : Int) := ⟨t.weight.toNat, by omega⟩
  have hEo : (⟨t.v, t.r, wt⟩ : En).Ok := En.qdf htg.ent hwt htv
  have hbi := qb7 hbe
  obtain ⟨bb, hbb⟩ : ∃ n : Nat, be.toNat = n := ⟨_, rfl⟩
  have hmb := Nat.div_le_self t.mask (2 ^ c)
  have hbw := fun h => hwt_ (ts.getD bb Tk.zero) (qf Tk.zero h)
  refine Jb I L ((JT∘JS'∘JQ∘JB∘JP∘Jp 1∘Jy (h:=by exact Yl.ix0 gtA n 8 rfl rfl rfl)∘Jy (v := .agg t.cells) (h:=by exact Yl.loadS rfl rfl si_tk rfl (fun _ h => h.z5 qd (i := 5) rfl (ht)))∘JA #[vI 0, vI 0, vI 0, vI 0, vQ 0, .bool false, vQ 0, vW 0]) fun w12 g12 => (Jp 1∘JV si_tk O0' (h1:=by exact qa4 t)) fun w14_5 => (Jj) fun a I L => ?_)
  refine qz (fun aS wS => Fr aS 136 [] [(13, .bool (t.ready && (decide (t.cpu = fr) && (decide ((t.mask / 2 ^ c) % 2 = 1) && decide (cu.getD ct 0 ≠ t.id))))), (11, vI n), (12, vP g12 0), (51, .bool true), (50, vI n), (49, vI nt), (48, vS gtA nt tc), (10, vI be), (27, .bool false), (26, vI cp.toNat), (25, vI cp), (7, vI mo), (6, vI fr), (19, .bool false), (5, vI 0), (4, vI 0), (3, vP g3 0), (0, vP gm 0)] ∧ Mem W wS (.blk g12 t.cells 81 :: .blk g3 o.cells 52 :: fM gm cp cr gA ng gc lA nl lc (some ⟨guA, 0, none⟩) nu uc (some ⟨gtA, 0, none⟩) nt tc sA ns sc :: fG gA ng gc gs :: fI lA nl lc cl :: fI (some ⟨guA, 0, none⟩) nu uc cu :: fT (some ⟨gtA, 0, none⟩) nt tc ts :: fS sA ns sc rs :: (fR rs ++ (T)))) ?_ ?_
  ·
   refine Jb I L ((Vs .n []) fun wd15 => (Vf 0 5∘Vc 1 O0∘Vp [2]) fun a I L HS => ?_)
   rcases I.tf 57 rfl with ⟨hb57, I⟩ | ⟨hb57, I⟩
   ·
    refine Vb I L HS ((Vf 3 3∘Vp [5]∘Vc 4 O0∘Vp [6, 7, 8]) fun a I L HS => ?_)
    rcases I.tf 63 rfl with ⟨hb63, I⟩ | ⟨hb63, I⟩
    ·
     have hd63 := eq_of_beq hb63
     refine Vb I L HS ((Vf 9 4∘Vf 11 1∘Vc 10 O0∘Vc 12 O1∘Vo (vI c) (by rw [hcc])∘Vy 13 (v := vQ (t.mask / 2 ^ c : Nat)) (h:=by exact Yl.shrN (m := t.mask) (n := c) rfl rfl rfl (by show _ ≤ 64; omega))∘Vp [14]∘Vo (vQ ((t.mask / 2 ^ c) % 2 : Nat)) (by exact qfu (n := 1) (j := 1) rfl de om)∘Vp [15, 16, 17]) fun a I L HS => ?_)
     rcases I.tf 72 rfl with ⟨hb72, I⟩ | ⟨hb72, I⟩
     ·
      have hd72 := eq_of_beq hb72
      refine Vb I L HS ((Vp [18]∘Vf 23 3∘Vf 27 0∘Vn 19∘Vf 20 0∘Vf 21 4∘Vc 22 O2∘Vc 24 O0∘Vo (vI ct) (by rw [hct])∘Vy 25 (h:=by exact Yl.ix0 guA ct 1 rfl rfl rfl)∘Vy 26 (h:=by exact Yl.r1 5 ct 0 om rfl rfl rfl)∘Vc 28 O0∘Vp [29, 30, 31]∘Vd∘Jd6) fun a I L => ?_)
      have I := I.sp 13 (.bool (t.ready && (decide (t.cpu = fr) && (decide ((t.mask / 2 ^ c) % 2 = 1) && decide (cu.getD ct 0 ≠ t.id))))) rfl (congrArg Value.bool (by rw [hb57, decide_eq_true hd63, decide_eq_true om, Bool.true_and, Bool.true_and, Bool.true_and]; exact qwo))
      exact ⟨I.sub kr, L.pt 8 [0, 1, 2, 3, 4, 5, 6, 7]⟩
     have hd72 := ne_of_beq_false hb72
     refine ap I (fun _ => HS) [18, 19, 20, 21, 22, 23, 24, 25, 26, 27, 28, 29, 30, 31] (bt 32 []) [(13, .bool false)] fun a I => ?_
     refine qb kr ?_
     have I := I.sp 13 (.bool (t.ready && (decide (t.cpu = fr) && (decide ((t.mask / 2 ^ c) % 2 = 1) && decide (cu.getD ct 0 ≠ t.id))))) rfl (congrArg Value.bool (by rw [hb57, decide_eq_true hd63, decide_eq_false om]; first | done | rfl))
     exact ⟨I.sub kr, L.pt 8 [0, 1, 2, 3, 4, 5, 6, 7]⟩
    have hd63 := ne_of_beq_false hb63
    refine ap I (fun _ => HS) [9, 10, 11, 12, 13, 14, 15, 16, 17, 18, 19, 20, 21, 22, 23, 24, 25, 26, 27, 28, 29, 30, 31] (bt 32 []) [(13, .bool false)] fun a I => ?_
    refine qb kr ?_
    have I := I.sp 13 (.bool (t.ready && (decide (t.cpu = fr) && (decide ((t.mask / 2 ^ c) % 2 = 1) && decide (cu.getD ct 0 ≠ t.id))))) rfl (congrArg Value.bool (by rw [hb57, decide_eq_false hd63]; first | done | rfl))
    exact ⟨I.sub kr, L.pt 8 [0, 1, 2, 3, 4, 5, 6, 7]⟩
   refine ap I (fun _ => HS) [3, 4, 5, 6, 7, 8, 9, 10, 11, 12, 13, 14, 15, 16, 17, 18, 19, 20, 21, 22, 23, 24, 25, 26, 27, 28, 29, 30, 31] (bt 32 []) [(13, .bool false)] fun a I => ?_
   refine qb kr ?_
   have I := I.sp 13 (.bool (t.ready && (decide (t.cpu = fr) && (decide ((t.mask / 2 ^ c) % 2 = 1) && decide (cu.getD ct 0 ≠ t.id))))) rfl (congrArg Value.bool (by rw [hb57]; try rfl))
   exact ⟨I.sub kr, L.pt 8 [0, 1, 2, 3, 4, 5, 6, 7]⟩
  clear I L; rintro a w15 ⟨I, L⟩
  obtain ⟨ma, hma⟩ : ∃ b, (t.ready && (decide (t.cpu = fr) && (decide ((t.mask / 2 ^ c) % 2 = 1) && decide (cu.getD ct 0 ≠ t.id)))) = b := ⟨_, rfl⟩
  replace I := I.sp 13 (.bool ma) rfl (by rw [hma])
  have htk := quk (x := (⟨cp, cr, gA, gc, gs, lA, lc, cl, some ⟨guA, 0, none⟩, uc, cu, some ⟨gtA, 0, none⟩, tc, ts, sA, sc, rs⟩ : Stm)) (be := be) hcc hbz hlc_ hct hbb hma
  refine qz (fun aS wS => Fr aS 136 [] [(116, .bool (qbh (⟨cp, cr, gA, gc, gs, lA, lc, cl, some ⟨guA, 0, none⟩, uc, cu, some ⟨gtA, 0, none⟩, tc, ts, sA, sc, rs⟩ : Stm).sta o be t)), (13, .bool ma), (11, vI n), (12, vP g12 0), (51, .bool true), (50, vI n), (49, vI nt), (48, vS gtA nt tc), (10, vI be), (27, .bool false), (26, vI cp.toNat), (25, vI cp), (7, vI mo), (6, vI fr), (19, .bool false), (5, vI 0), (4, vI 0), (3, vP g3 0), (0, vP gm 0)] ∧ Mem W wS (.blk g12 t.cells 81 :: .blk g3 o.cells 52 :: fM gm cp cr gA ng gc lA nl lc (some ⟨guA, 0, none⟩) nu uc (some ⟨gtA, 0, none⟩) nt tc sA ns sc :: fG gA ng gc gs :: fI lA nl lc cl :: fI (some ⟨guA, 0, none⟩) nu uc cu :: fT (some ⟨gtA, 0, none⟩) nt tc ts :: fS sA ns sc rs :: (fR rs ++ (T)))) ?_ ?_
  ·
   refine Jb I L ((Vs .n []) fun wd16 => (Vp [0, 1]) fun a I L HS => ?_)
   rcases I.tf 87 rfl with ⟨hb87, I⟩ | ⟨hb87, I⟩
   ·
    refine Vb I L HS ((Vf 2 2∘Vp [5, 6]∘Vf 7 1∘Vc 3 O0∘Vp [4]∘Vo (vI (2 * t.weight)) (by exact qcb ⟨by omega, by omega⟩)∘Vc 8 O1∘Vo (vI c) (by rw [hcc])∘VI 9 .n (h:=by exact fun L => qkv 2 L rfl hx hlc_)) fun w95 hbw => (Vp [10]∘Vo (vI (mo - lc_)) (by exact qcb ⟨by omega, by omega⟩)∘Vp [11, 12, 13]) fun a I L HS => ?_)
    rcases I.tf 99 rfl with ⟨hb99, I⟩ | ⟨hb99, I⟩
    ·
     have hd99 := of_decide_eq_true hb99
     refine Vb I L HS ((Vp [14, 15, 16]) fun a I L HS => ?_)
     rcases I.tf 102 rfl with ⟨hb102, I⟩ | ⟨hb102, I⟩
     ·
      have hd102 := of_decide_eq_true hb102
      refine Vb I L HS ((Vq [17, 18, 19, 20, 21, 22, 23, 24, 25, 26, 27, 28, 29, 30] [(116, .bool true)]∘Vd∘Jd6) fun a I L => ?_)
      have I := I.sp 116 (.bool (qbh (⟨cp, cr, gA, gc, gs, lA, lc, cl, some ⟨guA, 0, none⟩, uc, cu, some ⟨gtA, 0, none⟩, tc, ts, sA, sc, rs⟩ : Stm).sta o be t)) rfl (congrArg Value.bool (by rw [htk, hb87, decide_eq_true hd99, decide_eq_true hd102]; rfl))
      exact ⟨I.sub kr, L.pt 8 [0, 1, 2, 3, 4, 5, 6, 7]⟩
     have hd102 := of_decide_eq_false hb102
     refine ap I (fun _ => HS) [17, 19] (bt 31 [18, 20, 21, 22, 23, 24, 25, 26, 27, 28, 29, 30]) [(105, vP gm 0), (103, vP g12 2)] fun a I => ?_
     refine s_ac I HS 18 0 (v := vI t.weight) fun a I => ?_
     refine s_am I HS 20 fun a I => ?_
     refine ap I (fun _ => HS) [21, 22] (bt 31 [23, 24, 25, 26, 27, 28, 29, 30]) [(108, vP gm 5)] fun a I => ?_
     refine s_ac I HS 23 2 fun a I => ?_
     refine za I (fun _ => HS) (i := 24) rfl rfl (d := 110) rfl de kr (fun _ _ _ h => h) (v := vI be) (fun _ => Yl.pure kr) fun a I => ?_
     replace I := I.sp 110 (vI bb) rfl (by rw [show be = (bb : Int) by omega])
     refine s_az I HS 25 rfl (v := vP gtA (bb * 8)) (Yl.ix0 gtA bb 8 rfl rfl rfl) fun a I => ?_
     refine ap I (fun _ => HS) [26] (bt 31 [27, 28, 29, 30]) [(112, vP gtA (bb * 8 + 2))] fun a I => ?_
     refine s_az I HS 27 rfl (v := vI ((ts.getD bb Tk.zero).weight)) (Yl.qh rfl rfl kr (fun _ h => h.qv qd (i := 6) rfl (k := bb) (off := 2) (x := (ts.getD bb Tk.zero)) ((getD_at Tk.zero om)) rfl)) fun a I => ?_
     refine ap I (fun _ => HS) [28, 29, 30] (bt 31 []) [(116, .bool (decide ((t.weight : Int) > ((ts.getD bb Tk.zero).weight : Int))))] fun a I => ?_
     refine qb kr ?_
     have I := I.sp 116 (.bool (qbh (⟨cp, cr, gA, gc, gs, lA, lc, cl, some ⟨guA, 0, none⟩, uc, cu, some ⟨gtA, 0, none⟩, tc, ts, sA, sc, rs⟩ : Stm).sta o be t)) rfl (congrArg Value.bool (by rw [htk, hb87, decide_eq_true hd99, decide_eq_false hd102]; rfl))
     exact ⟨I.sub kr, L.pt 8 [0, 1, 2, 3, 4, 5, 6, 7]⟩
    have hd99 := of_decide_eq_false hb99
    refine ap I (fun _ => HS) [14, 15, 16, 17, 18, 19, 20, 21, 22, 23, 24, 25, 26, 27, 28, 29, 30] (bt 31 []) [(116, .bool false)] fun a I => ?_
    refine qb kr ?_
    have I := I.sp 116 (.bool (qbh (⟨cp, cr, gA, gc, gs, lA, lc, cl, some ⟨guA, 0, none⟩, uc, cu, some ⟨gtA, 0, none⟩, tc, ts, sA, sc, rs⟩ : Stm).sta o be t)) rfl (congrArg Value.bool (by rw [htk, decide_eq_false hd99, Bool.and_false]; rfl))
    exact ⟨I.sub kr, L.pt 8 [0, 1, 2, 3, 4, 5, 6, 7]⟩
   refine ap I (fun _ => HS) [2, 3, 4, 5, 6, 7, 8, 9, 10, 11, 12, 13, 14, 15, 16, 17, 18, 19, 20, 21, 22, 23, 24, 25, 26, 27, 28, 29, 30] (bt 31 []) [(116, .bool false)] fun a I => ?_
   refine qb kr ?_
   have I := I.sp 116 (.bool (qbh (⟨cp, cr, gA, gc, gs, lA, lc, cl, some ⟨guA, 0, none⟩, uc, cu, some ⟨gtA, 0, none⟩, tc, ts, sA, sc, rs⟩ : Stm).sta o be t)) rfl (congrArg Value.bool (by rw [htk, hb87]; rfl))
   exact ⟨I.sub kr, L.pt 8 [0, 1, 2, 3, 4, 5, 6, 7]⟩
  clear I L; rintro a w16 ⟨I, L⟩
  refine Jb I L (Ju (fun hb116 => ?_) fun hb116 => ?_)
  ·
   refine (JT∘JR∘Jp 2∘Jd1∘Jj∘JR∘JaK 1∘Jp 1∘Jd1∘Jq) fun a I L => ?_
   exact ⟨_, om, n + 1, (n : Int), by omega, by rw [qcq hbe, show (Stm.sta (⟨cp, cr, gA, gc, gs, lA, lc, cl, some ⟨guA, 0, none⟩, uc, cu, some ⟨gtA, 0, none⟩, tc, ts, sA, sc, rs⟩ : Stm)).ts.getD n Tk.zero = t from zc Tk.zero ht, if_pos hb116], rfl, I.sub kr, L.pt 8 [1, 2, 3, 4, 5, 6, 7]⟩
  refine (JF∘JS'∘JR∘JaK 1∘Jp 1∘Jd1∘Jq) fun a I L => ?_
  exact ⟨_, om, n + 1, be, by omega, by rw [qcq hbe, show (Stm.sta (⟨cp, cr, gA, gc, gs, lA, lc, cl, some ⟨guA, 0, none⟩, uc, cu, some ⟨gtA, 0, none⟩, tc, ts, sA, sc, rs⟩ : Stm)).ts.getD n Tk.zero = t from zc Tk.zero ht, if_neg (nt' hb116)], rfl, I.sub kr, L.pt 8 [1, 2, 3, 4, 5, 6, 7]⟩
 intro a I L
 have hd51 := of_decide_eq_false hb51
 have hnl : n = ts.length := by omega
 revert L; revert a; repeat (first | clear I | clear L)
 intro a I L
 subst hnl
 have hbi := qb7 hbe
 refine Jb I L ((JF∘JX∘JG∘JQ∘JP∘Jp 2∘Jd1∘Jj) (Ju (fun hb120 => ?_) fun hb120 => ?_))
 ·
  intro a I L
  have hd120 := of_decide_eq_true hb120
  exact Jb I L ((JT∘JP∘Jp 2∘Jj∘JZ∘Jz2) fun L => by exact qx (y := (⟨cp, cr, gA, gc, gs, lA, lc, cl, some ⟨guA, 0, none⟩, uc, cu, tA, tc, ts, sA, sc, rs⟩ : Stm)) 1 L rfl hlns (qfn (x := (⟨cp, cr, gA, gc, gs, lA, lc, cl, some ⟨guA, 0, none⟩, uc, cu, tA, tc, ts, sA, sc, rs⟩ : Stm)) (decide_eq_true hd19) (by rw [hbe]; omega)))
 intro a I L
 have hd120 := of_decide_eq_false hb120
 obtain ⟨k, hk⟩ : ∃ n : Nat, be = (n : Int) := ⟨be.toNat, by omega⟩
 revert L; revert a; repeat (first | clear I | clear L)
 intro a I L
 subst hk
 revert L; revert a; repeat (first | clear I | clear L)
 intro a I L
 obtain ⟨gtA, rfl⟩ := qi (L.own (i := 5) rfl) (Nat.lt_of_le_of_lt (Nat.zero_le _) (show k < nt from (by omega : k < nt)))
 obtain ⟨t2, ht2⟩ : ∃ z, ts[k]? = some z := ⟨_, List.getElem?_eq_getElem om⟩
 refine Jb I L ((JF∘JS'∘JP∘Jp 1∘Jn∘Jf 0∘Jg 5 O1∘Jp 1∘Jy (h:=by exact Yl.ix0 gtA k 8 rfl rfl rfl)∘Jf 0∘Jy (v := vI t2.id) (h:=by exact Yl.qh rfl rfl kr (fun _ h => (by have := h.qv qd (i := 5) rfl (k := k) (off := 0) (x := t2) (ht2) rfl; simpa using this)))∘Jp 1∘Jd6∘Jr∘Jp 2∘Jf 1∘Jc O0∘Jo (vI c) (by rw [hcc])∘JL (h:=by exact fun L => qr2 1 L rfl hx ht2 hccp)) ?_)
 rintro L _ w134 ⟨y, rfl, hys, HM2⟩
 refine ⟨_, rfl, _, (show Mem W w134 (.blk g3 o.cells 52 :: (mdB gm y ++ (T))) from HM2), ?_⟩
 exact (Jt5∘Jr∘Jp 3∘Jj∘JZ∘Jz2) fun L => by exact qvu 1 L rfl ((qfo (x := (⟨cp, cr, gA, gc, gs, lA, lc, cl, some ⟨guA, 0, none⟩, uc, cu, some ⟨gtA, 0, none⟩, tc, ts, sA, sc, rs⟩ : Stm)) (decide_eq_true hd19) hbe ht2).trans (by rw [hys, hcc]))
def qnt (W : World) (n : Nat) (l : List Tk) (gv : Nat) (t : Tk) (fs : List Fact) (r : Ending) (w' : World) : Prop := ∃ (A : Option Addr) (c : Nat), r = .returned (.slice A (n + 1) c) ∧ n + 1 ≤ c ∧ Mem W w' (fT A (n + 1) c l :: .blk gv t.cells 81 :: fs)
theorem qi8 {W w' : World} {n : Nat} {l : List Tk} {gv : Nat} {t : Tk} {fs : List Fact} {r : Ending} {A : Option Addr} {c : Nat} (hr : r = .returned (.slice A (n + 1) c)) (L : Mem W w' (fT A (n + 1) c l :: .blk gv t.cells 81 :: fs)) : qnt W n l gv t fs r w' := by
 obtain ⟨A', c', h1, h2⟩ := qd6 (L.own (i := 0) rfl)
 injection h1 with h3 h4 h5
 subst h5
 exact ⟨A, c, hr, h2, L⟩
theorem qr3 {W w : World} {fs : List Fact} (L : Mem W w fs) {i j gv g off lb cb m c : Nat} {cs : Array Value} {xs : List Value} {tv : TypeId} (hv : fs[i]? = some (.blk gv cs tv)) (hi : fs[j]? = some (.row (.slice (some ⟨g, 0, none⟩) m c) m xs 81 8)) (hij : i ≠ j) (hm : 0 < c) {ln lc : Nat} :
  (callFunc 119 [Value.slice (some ⟨gv, 0, none⟩) ln lc, .slice (some ⟨g, off, none⟩) lb cb].toArray).run Tryz.prog w = .ok (.value (.bool false)) w := by
 rw [run_callFunc_extern Tryz.func119 kr kr kr (e := Extern.SlicesOverlaps.overlaps #[42, 42] #[4]) kr]
 show ((Extern.SlicesOverlaps.overlaps #[42, 42] #[4] #[.slice (some ⟨gv, 0, none⟩) ln lc, .slice (some ⟨g, off, none⟩) lb cb]).run Tryz.prog w).andThen _ = _
 rw [qjz L ei_tk hv hi hij hm ln lc]
 rfl
theorem add0 {g k : Nat} : (some (⟨g, 0, none⟩ : Addr)).map (·.add k) = some ⟨g, k, none⟩ := by rw [Option.map_some, Addr.add_mid, Nat.zero_add]
theorem qr4 (l : List Tk) (i : Nat) : (l.flatMap tkL).take (i * 8) = (l.take i).flatMap tkL := by
 rcases Nat.lt_or_ge l.length i with h | h
 ·rw [List.take_of_length_le (by rw [zm]; omega), List.take_of_length_le om]
 ·have h1 : ((l.take i).flatMap tkL).length = i * 8 := by rw [zm, List.length_take]; omega
  conv => lhs; rw [← List.take_append_drop i l, List.flatMap_append, ← h1]
  exact List.take_left
theorem qxy {W w : World} {fs : List Fact} (h : Mem W w fs) {j g n c i : Nat} {l : List Tk} (hi : fs[j]? = some (.row (.slice (some ⟨g, 0, none⟩) n c) n (l.flatMap tkL) 81 8)) (h1 : i < l.length) (h2 : l.length ≤ c) :
  ∃ ad, (if c = i + 1 then some (⟨g, 0, none⟩ : Addr) else (some (⟨g, 0, none⟩ : Addr)).map (·.add ((i + 1) * 8))) = some ad ∧ ∀ k v, ((l.drop (i + 1)).flatMap tkL)[k]? = some v → w.cell? (ad.add k) = some v := by
 by_cases e : c = i + 1
 ·rw [if_pos e]
  refine ⟨_, rfl, fun k v hv => ?_⟩
  rw [List.drop_of_length_le om] at hv
  cases hv
 ·rw [if_neg e]
  refine ⟨⟨g, (i + 1) * 8, none⟩, by simp [Addr.add], ?_⟩
  exact h.tkCells (a := i + 1) (ys := []) (by rw [List.append_nil]; exact hi) ⟨l.length, List.take_of_length_le (by rw [List.length_drop]; omega)⟩ om
theorem qwp {xs ys zs : List Value} {k : Nat} (h : xs.length = k) {j : Nat} (hj : k = j := by rfl) : (putAt (xs ++ ys) k zs).take j = xs := by
 subst hj; subst h
 rw [qea, List.append_assoc]
 exact List.take_left
theorem qr5 (z t : Tk) (g : Nat) (w : World) (hg : w.heap[g]? = some (.cells t.cells 81 (0, 0))) :
    Calls Tryz.prog 86 #[.agg z.cells, vP g 0] w (Is w (.bool (decide (z.id > t.id)))) := by
 refine (JN2 Tryz.func86 9) ?_
 exact (JP∘JE) fun w2 g2 => (Jp 1∘Jr∘Jg 0 O0∘Jf 0∘Jy (v := vI t.id) (h:=by exact Yl.qh rfl rfl kr (fun _ h => h.qae hg rfl))∘Jp 2∘Jd4∘Jj∘JZ) JY1
theorem qo4 (A : Option Addr) (c : Nat) (l : List Tk) (t : Tk) (g : Nat) (w : World) (hr : Rd w w.heap.size 8 A l.length (l.flatMap tkL)) (hn : l.length ≤ 1000000) (hg : w.heap[g]? = some (.cells t.cells 81 (0, 0))) :
    Calls Tryz.prog 85 #[.slice A l.length c, .func (.func 86) #[] #[vP g 0]] w (InsIs w l t.id) := by
 refine (JN2 Tryz.func85 19) ?_
 refine (JP∘Jp 1∘Jj∘JQ∘JP∘Jp 1∘Jl∘Jp 1∘Jj∘JB) fun a I L => ?_
 refine qg (fun mS aS wS => ∃ (k : Nat), (k ≤ l.length) ∧ (∀ j, j < k → (l.getD j Tk.zero).id ≤ t.id) ∧ mS = l.length - k ∧ Fr aS 19 [] [(8, vI k), (7, vI l.length), (4, vI 0), (0, .slice A l.length c), (1, .func (.func 86) #[] #[vP g 0])] ∧ Mem w wS []) (m := l.length - 0) ⟨0, Nat.zero_le _, fun j h => by omega, rfl, I.sub kr, L.pk []⟩ ?_
 clear I L; rintro mS a w_ ⟨k, hk, hu, rfl, I, L⟩
 refine Jb I L ((JP∘Jp 1∘Jj∘JQ) (Ju (fun hb9 => ?_) fun hb9 => ?_))
 ·
  intro a I L
  have hd9 := of_decide_eq_true hb9
  have hk9 : k < l.length := by omega
  refine Jb I L ((JT∘JS'∘JQ∘JB∘JP∘Jp 2∘Jd1∘Jr∘Jp 3) ?_)
  repeat (first | clear I | clear L)
  intro a I L
  obtain ⟨gA, oA, rfl, _⟩ := hr.qn (Nat.lt_of_le_of_lt (Nat.zero_le _) (show k < l.length from by omega)) de
  refine Jb I L ((Jy (h:=by exact Yl.ix gA oA k 8 rfl rfl rfl)∘Jy (v := .agg ((l.getD k Tk.zero).cells)) (h:=by exact Yl.loadS rfl rfl si_tk rfl (fun _ h => (h.old hr).q8 qd ((getD_at Tk.zero om))))) fun a I L => ?_)
  refine fo I 5 rfl rfl ?_
  refine qb0 I (f := 86) (vs := [.agg ((l.getD k Tk.zero).cells)]) (fst := []) (caps := [vP g 0]) rfl rfl rfl kr rfl de (qr5 (l.getD k Tk.zero) t g _ (L.oldBlk hg)) ?_
  rintro _ w16 ⟨rfl, hbw⟩
  refine ⟨_, rfl, ?_⟩
  replace L := L.call hbw
  clear I; intro a I
  refine Jb I L ((Jd5∘Jj) (Ji (fun hd16 => ?_) fun hd16 => ?_))
  ·
   exact (JT∘JP∘Jp 2∘Jd1∘Jj∘JZ∘Jz1) fun L => qos hk9 hu om L.below
  refine (JF∘JS'∘JR∘JaK 1∘Jp 1∘Jd1∘Jq) fun a I L => ?_
  exact ⟨_, om, k + 1, by omega, qh0 hu om, rfl, I.sub kr, L.pk []⟩
 intro a I L
 have hd9 := of_decide_eq_false hb9
 exact Jb I L ((JF∘JX∘JG∘JP∘Jp 1∘Jj∘JZ∘Jz1) fun L => qot (fun j hj => hu j om) L.below)
theorem qkw (W w : World) (A : Option Addr) (n c i : Nat) (l : List Tk) (t : Tk) (gv : Nat) (fs : List Fact) (hn : l.length = n) (hnn : n ≤ 1000000) (hi : i ≤ n) (hcn : n ≤ c) (L : Mem W w (fT A n c l :: .blk gv t.cells 81 :: fs)) :
    Calls Tryz.prog 87 #[.slice A n c, vI i, .slice (some ⟨gv, 0, none⟩) 1 1] w (qnt W n (insT l i t) gv t fs) := by
 refine (Jin3 L Tryz.func87 95) ?_
 refine (JP∘Jp 1∘Jr∘Jp 2∘Jy (h:=by exact Yl.sliceFrom ei_tk (j := i) rfl rfl rfl om)∘Jt3∘Jr∘Jp 1∘Jl∘Jp 1∘Jd2∘Jj∘JQ∘JP∘Jv 2 [(16, .bool false)]∘Jj∘JF∘JS'∘JP∘Jp 1∘Jl∘Jp 1∘Jd2∘Jj∘JQ∘JP∘Jp 3∘Jd2∘Jj) (Je (fun hd22 => ?_) fun hd22 => ?_)
 ·
  refine (JT∘JP∘Jp 2∘JD (tkL t) 0 (fun _ _ => O0') ei_tk (hr:=by exact fun L => L.rdBlk (i := 1) (n := 1) (size := 8) rfl rfl) (h1:=by exact qe6 t)) fun w25 A25 c25 hc25 => fun a I L => ?_
  replace L := L.asRow (i := 0) (ys := ((l ++ [t]).flatMap tkL)) rfl (qrk l t)
  refine Jb I L ((Jp 1∘Jd3∘Jj∘JZ) fun a I L => ?_)
  have HM3 := L.pt 2 [0, 1]
  exact s_rt1 rfl I rfl (qi8 rfl (HM3.asRow (i := 0) rfl (by rw [qt7 (l := l) (t := t) (i := i) om])))
 refine (JF∘JS'∘JQ∘JP∘Jp 2∘JaK 1∘Jp 1∘Jy (h:=by exact Yl.cap rfl rfl kr)∘Jp 1∘Jd5∘Jj) (Ju (fun hb31 => ?_) fun hb31 => ?_)
 ·
  intro a I L
  have hd31 := of_decide_eq_true hb31
  revert L; revert a; repeat (first | clear I | clear L)
  intro a I L
  obtain ⟨gA, rfl⟩ := qi (L.own (i := 0) rfl) (Nat.lt_of_le_of_lt (Nat.zero_le _) (show i < n from (by omega : i < n)))
  refine Jb I L ((JT∘JP∘Jp 2∘Jy (h:=by exact Yl.qa0 ei_tk (j := i) rfl rfl rfl om)∘Jp 2∘JaK 1∘Jp 1∘Js) fun a I L => ?_)
  refine fo I 8 rfl rfl ?_
  refine qhg I L (kn := .i64) (xs := (l.take i).flatMap tkL) (m := n + 1 - i) rfl ei_tk kr rfl rfl ⟨by rw [zm, List.length_take]; omega, L.tkCells (j := 0) (a := 0) (l := l) (ys := []) (by rw [List.append_nil]; rfl) ⟨i, rfl⟩ (Nat.zero_le _)⟩ om om om om rfl de ?_
  clear I; intro a w40 g40 c40 I HM2 hc40
  replace L := HM2
  have hnsomeg400none : i + (n + 1 - i) = n + 1 := om
  replace L := L.reRow (i := 0) (ys := ((l.take i).flatMap tkL ++ zT (n + 1 - i))) rfl hnsomeg400none (rfl)
  replace I := I.sp 40 (vS g40 (n + 1) c40) rfl (by rw [hnsomeg400none])
  refine Jb I L ((Jp 1∘Jd6∘Jr∘Jp 2∘Jy (v := .slice (if c40 = i then some ⟨g40, 0, none⟩ else (some ⟨g40, 0, none⟩ : Option Addr).map (·.add (i * 8))) ((n + 1) - i) (c40 - i)) (h:=by exact Yl.sliceFrom ei_tk (j := i) rfl rfl rfl om)∘Jo (.slice (some ⟨g40, i * 8, none⟩) (n + 1 - i) (c40 - i)) (by rw [if_neg om, add0])∘Jp 1) fun a I L => ?_)
  refine fo I 4 rfl rfl ?_
  refine qmx I L (i := 0) (tkL t) rfl ei_tk rfl rfl rfl (by rw [qd, show Nat.min 1 (n + 1 - i) = 1 from Nat.min_eq_left om]) (fun k v hv => by rw [Addr.add_mid, Nat.zero_add]; exact L.cell (i := 2) rfl (by rw [← Array.getElem?_toList]; exact hv)) (qe6 t) (by rw [qd]; simp only [List.length_append, zm, qnk, List.length_take]; omega) rfl de ?_
  clear I L; intro a w45 I L
  refine Jb I L ((Jt5∘Jj) fun a I L => ?_)
  refine wp_seq ?_
  refine Jb I L ((Vs (.f .n) []) fun wd11 => (Vp [0, 1, 2, 5, 6]∘VaK 3 1∘Vy 4 (v := .slice (if c40 = (i + 1) then some ⟨g40, 0, none⟩ else (some ⟨g40, 0, none⟩ : Option Addr).map (·.add ((i + 1) * 8))) ((n + 1) - (i + 1)) (c40 - (i + 1))) (h:=by exact Yl.sliceFrom ei_tk (j := (i + 1)) rfl rfl rfl om)∘Vo (.slice (some ⟨g40, (i + 1) * 8, none⟩) (n + 1 - (i + 1)) (c40 - (i + 1))) (by rw [if_neg om, add0])∘Vy 7 (v := .slice (if c = i then some ⟨gA, 0, none⟩ else (some ⟨gA, 0, none⟩ : Option Addr).map (·.add (i * 8))) (n - i) (c - i)) (h:=by exact Yl.sliceFrom ei_tk (j := i) rfl rfl rfl om)∘Vo (.slice (some ⟨gA, i * 8, none⟩) (n - i) (c - i)) (by rw [if_neg om, add0])) fun a I L HS => ?_)
  refine s_on I 8 rfl ?_
  refine qmx I L (i := 0) ((l.drop i).flatMap tkL) rfl ei_tk rfl rfl rfl (by rw [zm, List.length_drop, show Nat.min (n - i) (n + 1 - (i + 1)) = n - i from Nat.min_eq_left om]; omega) (L.tkCells (j := 1) (a := i) (ys := []) (by rw [List.append_nil]; rfl) ⟨l.length, List.take_of_length_le (by rw [List.length_drop]; omega)⟩ om) (fun v hv => qaz _ v hv) (by rw [qd7 (by rw [qd]; simp only [List.length_append, zm, qnk, List.length_take]; omega), zm, List.length_drop]; simp only [List.length_append, zm, qnk, List.length_take]; omega) rfl de ?_
  clear I L; intro a w54 I L
  refine keepS (L.pt 3 [1, 2]) (fun HS => ?_)
  refine Vb I L HS ((Vd∘Jt6∘JP∘Jp 2∘Jd4∘Jj∘JZ) fun a I L => ?_)
  have HM3 := L.pt 3 [0, 2]
  exact s_rt1 rfl I rfl (qi8 rfl (HM3.asRow (i := 0) rfl (by rw [← hn]; exact qt8 om)))
 intro a I L
 have hd31 := of_decide_eq_false hb31
 revert L; revert a; repeat (first | clear I | clear L)
 intro a I L
 obtain ⟨gA, rfl⟩ := qi (L.own (i := 0) rfl) (Nat.lt_of_le_of_lt (Nat.zero_le _) (show i < n from (by omega : i < n)))
 refine Jb I L ((JF∘JS'∘JP∘Jp 3∘JaK 1∘Jy (h:=by exact Yl.qa0 ei_tk (j := n + 1) rfl rfl rfl om)∘Jp 1∘Jd5∘Jq) fun a I L => ?_)
 obtain ⟨ys, hys, HM2⟩ := L.growRow (i := 0) (m' := n + 1) rfl om om
 replace L := HM2; clear HM2
 replace hys : ys.length = 8 := by rw [hys]; omega
 refine Jb I L ((JG∘JQ∘JP∘Jp 4∘JaK 1∘Jy (v := .slice (if c = (i + 1) then some ⟨gA, 0, none⟩ else (some ⟨gA, 0, none⟩ : Option Addr).map (·.add ((i + 1) * 8))) ((n + 1) - (i + 1)) (c - (i + 1))) (h:=by exact Yl.sliceFrom ei_tk (j := (i + 1)) rfl rfl rfl om)∘Jo (.slice (some ⟨gA, (i + 1) * 8, none⟩) (n + 1 - (i + 1)) (c - (i + 1))) (by rw [if_neg om, add0])) fun a I L => ?_)
 refine fo I 6 rfl rfl ?_
 refine qts I L rfl rfl (qr3 L (i := 1) (j := 0) rfl rfl de om) rfl de ?_
 clear I; intro a I
 refine Jb I L ((Jp 1∘Jd6∘Jj∘JT) fun a I L => ?_)
 refine wp_seq ?_
 refine Jb I L ((Vs (.f .n) []) fun wd15 => (Vp [0, 1, 2, 5, 6]∘VaK 3 1∘Vy 4 (v := .slice (if c = (i + 1) then some ⟨gA, 0, none⟩ else (some ⟨gA, 0, none⟩ : Option Addr).map (·.add ((i + 1) * 8))) ((n + 1) - (i + 1)) (c - (i + 1))) (h:=by exact Yl.sliceFrom ei_tk (j := (i + 1)) rfl rfl rfl om)∘Vo (.slice (some ⟨gA, (i + 1) * 8, none⟩) (n + 1 - (i + 1)) (c - (i + 1))) (by rw [if_neg om, add0])∘Vy 7 (v := .slice (if c = i then some ⟨gA, 0, none⟩ else (some ⟨gA, 0, none⟩ : Option Addr).map (·.add (i * 8))) ((n + 1) - i) (c - i)) (h:=by exact Yl.sliceFrom ei_tk (j := i) rfl rfl rfl om)∘Vo (.slice (some ⟨gA, i * 8, none⟩) (n + 1 - i) (c - i)) (by rw [if_neg om, add0])) fun a I L HS => ?_)
 refine s_on I 8 rfl ?_
 refine qmx I L (i := 0) ((l.drop i).flatMap tkL) rfl ei_tk rfl rfl rfl (by rw [zm, List.length_drop, show Nat.min (n + 1 - i) (n + 1 - (i + 1)) = n + 1 - (i + 1) from Nat.min_eq_right om]; omega) (L.tkCells (j := 0) (a := i) (ys := ys) rfl ⟨l.length, List.take_of_length_le (by rw [List.length_drop]; omega)⟩ om) (fun v hv => qaz _ v hv) (by rw [zm, List.length_drop, List.length_append, zm]; omega) rfl de ?_
 clear I L; intro a w77 I L
 refine keepS (L.pt 2 [1]) (fun HS => ?_)
 refine Vb I L HS ((Vd∘Jt6∘JP∘Jp 2∘Jy (v := .slice (if c = i then some ⟨gA, 0, none⟩ else (some ⟨gA, 0, none⟩ : Option Addr).map (·.add (i * 8))) ((n + 1) - i) (c - i)) (h:=by exact Yl.sliceFrom ei_tk (j := i) rfl rfl rfl om)∘Jo (.slice (some ⟨gA, i * 8, none⟩) (n + 1 - i) (c - i)) (by rw [if_neg om, add0])∘Jp 1) fun a I L => ?_)
 refine fo I 4 rfl rfl ?_
 refine qmx I L (i := 0) (tkL t) rfl ei_tk rfl rfl rfl (by rw [qd, show Nat.min 1 (n + 1 - i) = 1 from Nat.min_eq_left om]) (fun k v hv => by rw [Addr.add_mid, Nat.zero_add]; exact L.cell (i := 1) rfl (by rw [← Array.getElem?_toList]; exact hv)) (qe6 t) (by rw [qd, qd7 (by rw [zm, List.length_drop, List.length_append, zm]; omega), List.length_append, zm]; omega) rfl de ?_
 clear I L; intro a w82 I L
 refine Jb I L ((Jt6∘Jr∘Jp 2∘Jd3∘Jj∘JZ) fun a I L => ?_)
 have HM3 := L.pt 2 [0, 1]
 exact s_rt1 rfl I rfl (qi8 rfl (HM3.asRow (i := 0) rfl (qrl om hys)))
theorem qkx (W w : World) (g n c i : Nat) (l : List Tk) (fs : List Fact) (hn : l.length = n) (hnn : n ≤ 1000000) (hi : i < n) (hcn : n ≤ c) (L : Mem W w (fT (some ⟨g, 0, none⟩) n c l :: fs)) :
    Calls Tryz.prog 91 #[.slice (some ⟨g, 0, none⟩) n c, vI i, vI ((i + 1 : Nat) : Int)] w (fun r w' => r = .returned (.slice (some ⟨g, 0, none⟩) (n - 1) c) ∧ Mem W w' (fT (some ⟨g, 0, none⟩) (n - 1) c (l.eraseIdx i) :: fs)) := by
 refine (Jin3 L Tryz.func91 33) ?_
 refine (JP∘Jp 1∘Jr∘Jp 4∘Jl∘Jy (v := .slice (if n = i then some ⟨g, 0, none⟩ else (some ⟨g, 0, none⟩ : Option Addr).map (·.add (i * 8))) ((i + 1) - i) (n - i)) (h:=by exact Yl.qyt ei_tk (i := i) (j := i + 1) (q := n) rfl rfl rfl rfl rfl om om om)∘Jt6∘Jj∘JQ∘JP∘Jp 3∘Jd2∘Jj) (Ju (fun hb16 => ?_) fun hb16 => ?_)
 ·
  intro a I L
  have hd16 := eq_of_beq hb16
  exact absurd hd16 om
 intro a I L
 have hd16 := ne_of_beq_false hb16
 refine Jb I L ((JF∘JS'∘JP∘Jp 1∘Jl∘Jp 1∘Jd2∘Jj) fun a I L => ?_)
 refine wp_seq ?_
 refine Jb I L ((Vs (.f .n) []) fun wd5 => (Vp [0, 1, 3, 4]∘Vy 2 (h:=by exact Yl.qa0 ei_tk (j := i) rfl rfl rfl om)∘Vy 5 (h:=by exact Yl.sliceFrom ei_tk (j := (i + 1)) rfl rfl rfl om)) fun a I L HS => ?_)
 refine s_on I 6 rfl ?_
 obtain ⟨ad, had, hsrc⟩ := qxy L (j := 0) (i := i) rfl (by omega : i < l.length) (by omega : l.length ≤ c)
 replace I := I.sp 25 (.slice (some ad) (n - (i + 1)) (c - (i + 1))) rfl (by rw [had])
 replace L := L.cutR (i := 0) (m' := i) (ys := (l.take i).flatMap tkL) rfl om (qr4 l i)
 refine qlk I L (i := 0) (news := (l.drop (i + 1)).flatMap tkL) rfl ei_tk rfl rfl rfl (by rw [zm, List.length_drop]; omega) hsrc om (fun v hv => qaz _ v hv) rfl de ?_
 clear I L; intro a w26 I L
 refine keepS (L.pt 1 []) (fun HS => ?_)
 refine Vb I L HS ((Vp [7]∘Vd∘Jd6) fun a I L => ?_)
 have hnsomeg0none : i + (n - (i + 1)) = n - 1 := om
 replace L := L.reRow (i := 0) (ys := (l.eraseIdx i).flatMap tkL) rfl hnsomeg0none (qnl om)
 replace I := I.sp 0 (vS g (n - 1) c) rfl (by rw [hnsomeg0none])
 refine Jb I L ((JP∘Jp 2∘Jl∘Jp 1∘Jy (v := .slice (if c = n - 1 then some ⟨g, 0, none⟩ else (some ⟨g, 0, none⟩ : Option Addr).map (·.add ((n - 1) * 8))) (n - (n - 1)) (c - (n - 1))) (h:=by exact Yl.qyq ei_tk (i := n - 1) (j := n) rfl rfl rfl rfl om om)∘Jo (.slice (some ⟨g, (n - 1) * 8, none⟩) (n - (n - 1)) (c - (n - 1))) (by rw [if_neg om, add0])) fun a I L => ?_)
 refine fo I 5 rfl rfl ?_
 obtain ⟨ys, hys, HM2⟩ := L.growRow (i := 0) (m' := n) rfl om om
 replace L := HM2; clear HM2
 refine qv4 I L (i := 0) rfl ei_tk rfl rfl om (qxw _) (by rw [List.length_append, hys, zm, List.length_eraseIdx, if_pos om]; omega) rfl ?_
 clear L; intro w6_5 L
 replace L := L.cutR (i := 0) (m' := n - 1) (ys := (l.eraseIdx i).flatMap tkL) rfl om (qwp (by rw [zm, List.length_eraseIdx, if_pos om]; omega))
 refine Jb I L ((Jt5∘Jr∘Jp 2∘Jd1∘Jj∘JZ) fun a I L => ?_)
 exact s_rt1 rfl I rfl ⟨rfl, L⟩
theorem qr6 {W w : World} {g n c i : Nat} {l : List Tk} {F F' : List Fact} (O : Upd (fT (some ⟨g, 0, none⟩) n c l) (fT (some ⟨g, 0, none⟩) (n - 1) c (l.eraseIdx i)) F F') (L : Mem W w F) (hn : l.length = n) (hnn : n ≤ 1000000) (hi : i < n) :
  Calls Tryz.prog 91 #[.slice (some ⟨g, 0, none⟩) n c, vI i, vI ((i + 1 : Nat) : Int)] w (fun r w' => r = .returned (.slice (some ⟨g, 0, none⟩) (n - 1) c) ∧ Mem W w' F') := by
 obtain ⟨p, q, rfl, rfl⟩ := O.split
 have h2 := L.perm List.perm_middle
 obtain ⟨A', c', h3, h4⟩ := qd6 (h2.own (i := 0) rfl)
 injection h3 with _ _ h5
 subst h5
 exact (qkx W w g n c i l (p ++ q) hn hnn hi h4 h2).mono fun r w' h => ⟨h.1, h.2.perm List.perm_middle.symm⟩
theorem At.mem {α : Type} {a : α} {l : List α} (h : At l a) : a ∈ l := by
 induction h with
 | z => exact List.mem_cons_self ..
 | s _ ih => exact List.mem_cons_of_mem _ ih
theorem qky {W w : World} {A : Option Addr} {n c i gv : Nat} {l : List Tk} {F : List Fact} {F' : Option Addr → Nat → List Fact} (t : Tk) (j : Nat) (O : ∀ A' c', Upd (fT A n c l) (fT A' (n + 1) c' (insT l i t)) F (F' A' c')) (V : At F (.blk gv t.cells 81)) (L : Mem W w F) (hn : l.length = n) (hnn : n ≤ 1000000) (hi : i ≤ n) (hj : F[j]? = some (fT A n c l) := by exact rfl) (hu : (fun A' c' => F.set j (fT A' (n + 1) c' (insT l i t))) = F' := by kernel_rfl) :
  Calls Tryz.prog 87 #[.slice A n c, vI i, .slice (some ⟨gv, 0, none⟩) 1 1] w (fun r w' => ∃ A' c', r = .returned (.slice A' (n + 1) c') ∧ n + 1 ≤ c' ∧ Mem W w' (F' A' c')) := by
 have hjl := (List.getElem?_eq_some_iff.1 hj).1
 obtain ⟨p, q, hF, hset⟩ : ∃ p q, F = p ++ fT A n c l :: q ∧ ∀ b, F.set j b = p ++ b :: q := ⟨F.take j, F.drop (j + 1), by rw [← (List.getElem?_eq_some_iff.1 hj).2, ← List.drop_eq_getElem_cons hjl, List.take_append_drop], fun b => by rw [List.set_eq_take_append_cons_drop, if_pos hjl]⟩
 have h2 := (hF ▸ L).perm (List.perm_middle (l₁ := p) (a := fT A n c l) (l₂ := q))
 obtain ⟨A', c', h3, h4⟩ := qd6 (h2.own (i := 0) rfl)
 injection h3 with _ _ h5
 subst h5
 have hv := V.mem
 rw [hF] at hv
 have hv2 : Fact.blk gv t.cells 81 ∈ p ++ q := by
  rcases List.mem_append.1 hv with h | h
  ·exact List.mem_append_left _ h
  ·rcases List.mem_cons.1 h with h | h
   ·cases h
   ·exact List.mem_append_right _ h
 obtain ⟨s, u, hs⟩ := List.append_of_mem hv2
 rw [hs] at h2
 have h6 := h2.perm (List.Perm.cons _ (List.perm_middle (l₁ := s) (a := Fact.blk gv t.cells 81) (l₂ := u)))
 refine (qkw W w A n c i l t gv (s ++ u) hn hnn hi h4 h6).mono fun r w' ⟨A', c', e1, e2, e3⟩ => ⟨A', c', e1, e2, ?_⟩
 have h7 := e3.perm (List.Perm.cons _ (List.perm_middle (l₁ := s) (a := Fact.blk gv t.cells 81) (l₂ := u)).symm)
 rw [← hs] at h7
 have h8 := h7.perm (List.perm_middle (l₁ := p) (l₂ := q)).symm
 rw [← hset] at h8
 have h9 := congrFun (congrFun hu A') c'
 rw [← h9]
 exact h8
theorem qwq {W w : World} {g : Nat} {F F' : List Fact} (t t1 : Tk) (x : En) (h1 : t.put x = t1) (O : Upd (.blk g t.cells 81) (.blk g t1.cells 81) F F') (L : Mem W w F) (hx : x.Ok) :
  Calls Tryz.prog 84 #[vP g 0, .agg x.cells] w (fun r w' => r = .returned (.tuple #[]) ∧ Mem W w' F') := by
 subst h1
 exact qwi t x O L hx
theorem qr7 {w : World} {A : Option Addr} {c n g : Nat} {l : List Tk} {t : Tk} (hl : l.length = n) (hr : Rd w w.heap.size 8 A n (l.flatMap tkL)) (hn : l.length ≤ 1000000) (hg : w.heap[g]? = some (.cells t.cells 81 (0, 0))) : Calls Tryz.prog 85 #[.slice A n c, .func (.func 86) #[] #[vP g 0]] w (InsIs w l t.id) := by
 subst hl
 exact qo4 A c l t g w hr hn hg
theorem qkz {x : Stm} {ng nl nu nt ns nt' tc' : Nat} {tA' : Option Addr} {ts' : List Tk} (h : Lns x ng nl nu nt ns) (ht : ts'.length = nt') : Lns { x with tA := tA', tc := tc', ts := ts' } ng nl nu nt' ns := ⟨h.g, h.l, h.u, ht, h.s⟩
theorem qdy {o : Op30} {cp : Int} {cn : Nat} (hc : cp = (cn : Int)) (h : 1 ≤ o.weight ∧ o.weight ≤ 65536 ∧ o.mask ≠ 0 ∧ ¬ 2 ^ cn ≤ o.mask) : ¬ (wOk o.weight = false ∨ o.mask = 0 ∨ qdh o.mask cp = true) := by
 subst hc
 rintro (h1 | h1 | h1)
 ·exact of_decide_eq_false h1 ⟨h.1, h.2.1⟩
 ·exact h.2.2.1 h1
 ·exact h.2.2.2 (of_decide_eq_true h1)
theorem qf1 {o : Op30} {cp : Int} {cn : Nat} (hc : cp = (cn : Int)) (h : ¬ (1 ≤ o.weight ∧ o.weight ≤ 65536 ∧ o.mask ≠ 0 ∧ ¬ 2 ^ cn ≤ o.mask)) : wOk o.weight = false ∨ o.mask = 0 ∨ qdh o.mask cp = true := by
 subst hc
 by_cases h1 : 1 ≤ o.weight ∧ o.weight ≤ 65536
 ·by_cases h2 : o.mask = 0
  ·exact .inr (.inl h2)
  ·exact .inr (.inr (decide_eq_true (Classical.byContradiction fun h3 => h ⟨h1.1, h1.2, h2, h3⟩)))
 ·exact .inl (decide_eq_false h1)
theorem qgw (W w : World) (x : Stm) (gm : Nat) (ng nl nu nt ns : Nat) (hx : MdOk x ng nl nu nt ns) (o : Op30) (ho : o.Ok) (T : List Fact) (L : Mem W w (mdA gm x ng nl nu nt ns ++ T)) (hcur : ∀ c, c < x.cu.length → curOk x.sta c = true) :
    Calls Tryz.prog 33 #[vP gm 0, .agg o.cells] w (OpIs W gm T (qar x.sta o)) := by
 obtain ⟨cp, cr, gA, gc, gs, lA, lc, cl, uA, uc, cu, tA, tc, ts, sA, sc, rs⟩ := x
 replace L : Mem W w (fM gm cp cr gA ng gc lA nl lc uA nu uc tA nt tc sA ns sc :: fG gA ng gc gs :: fI lA nl lc cl :: fI uA nu uc cu :: fT tA nt tc ts :: fS sA ns sc rs :: (fR rs ++ (T))) := L
 obtain ⟨hlg, hll, hlu, hlt, hls⟩ := hx.ln
 replace hlg : gs.length = ng := hlg; replace hll : cl.length = nl := hll; replace hlu : cu.length = nu := hlu; replace hlt : ts.length = nt := hlt; replace hls : rs.length = ns := hls
 have hlns := hx.ln
 have hsp : SpsOk gs cp rs := hx.spots
 have hrg : rs.length = gs.length := hx.sh.rs
 have hcr : cr < 18446744073709551616 := hx.ok.credit
 obtain ⟨hcp1, hcp2, _, hgs⟩ := zj hx.sh.cfg
 replace hcp1 : 1 ≤ cp := hcp1; replace hcp2 : cp ≤ 64 := hcp2; replace hgs : gsOk gs = true := hgs
 have hgl1 := (qo hgs).1; have hgl2 := (qo hgs).2.1
 have hcll : (cl.length : Int) = cp := hx.sh.cl; have hcul : (cu.length : Int) = cp := hx.sh.cu
 have hfts : ts.length ≤ 1000000 := hx.few.t
 have hoc := ho.cpu; have hot := ho.task; have hog := ho.group; have how := ho.weight; have hoto := ho.to; have hotk := ho.ticks; have hom := ho.mask; have hok8 := ho.kind; unfold I64 at hoc hot hog how hoto hotk
 have hcuo := hx.ok.cu
 obtain ⟨guA, rfl⟩ := qi (L.own (i := 3) rfl) om
 refine (Jin2 L Tryz.func33 60) ?_
 refine (JP∘JE) fun w3 g3 => (Jp 2∘Jj∘JQ∘JP∘Jp 1∘Jg 1 O0∘JI (h:=by exact fun L => qhy 1 L rfl hx o.cpu)) fun w11 hbw => (Jp 1∘Jd3∘Jj) (Ju (fun hb12 => ?_) fun hb12 => ?_)
 ·
  intro a I L
  have hd12 := of_decide_eq_false ((Bool.not_eq_true' _).mp hb12)
  exact Jb I L ((JT∘JP∘Jp 2∘Jj∘JZ∘Jz2) fun L => by exact qx (y := (⟨cp, cr, gA, gc, gs, lA, lc, cl, some ⟨guA, 0, none⟩, uc, cu, tA, tc, ts, sA, sc, rs⟩ : Stm)) 1 L rfl hlns (if_pos (decide_eq_false hd12)))
 intro a I L
 have hd12 := of_decide_eq_true ((Bool.not_eq_false' _).mp hb12)
 replace hd12 : 0 ≤ o.cpu ∧ o.cpu < cp := hd12
 obtain ⟨c, hcc⟩ : ∃ n : Nat, o.cpu = (n : Int) := ⟨o.cpu.toNat, by omega⟩
 have hccp : ((c : Nat) : Int) < cp := by omega
 obtain ⟨id, hid⟩ : ∃ z, cu.getD c 0 = z := ⟨_, rfl⟩
 have hidI : I64 id := by rw [← hid]; exact hcuo _ (qf 0 (by show c < cu.length; omega))
 unfold I64 at hidI
 refine Jb I L ((JF∘JS') fun a I L => ?_)
 refine wp_seq ?_
 refine Jb I L ((Vs .n []) fun wd3 => (Vp [0]∘Vf 5 1∘Vn 1∘Vf 2 0∘Vf 3 4∘Vc 4 O1∘Vc 6 O0∘Vo (vI c) (by rw [hcc])∘Vy 7 (h:=by exact Yl.ix0 guA c 1 rfl rfl rfl)∘Vy 8 (v := vI (cu.getD c 0)) (h:=by exact Yl.r1 4 c 0 om rfl rfl rfl)∘Vo (vI id) (by rw [hid])∘Vp [9]∘Vd∘Jd6∘JQ∘JP∘Jp 2∘Jd1∘Jj) (Ju (fun hb23 => ?_) fun hb23 => ?_))
 ·
  intro a I L
  have hd23 := eq_of_beq hb23
  exact Jb I L ((JT∘JP∘Jp 2∘Jj∘JZ∘Jz2) fun L => by exact qx (y := (⟨cp, cr, gA, gc, gs, lA, lc, cl, some ⟨guA, 0, none⟩, uc, cu, tA, tc, ts, sA, sc, rs⟩ : Stm)) 1 L rfl hlns ((if_neg (nf (decide_eq_true hd12))).trans (if_pos (by show cu.getD o.cpu.toNat 0 = 0; rw [hcc, Int.toNat_natCast, hid]; omega))))
 intro a I L
 have hd23 := ne_of_beq_false hb23
 have hid0 : id ≠ 0 := by omega
 have hcuk := qeq (x := (⟨cp, cr, gA, gc, gs, lA, lc, cl, some ⟨guA, 0, none⟩, uc, cu, tA, tc, ts, sA, sc, rs⟩ : Stm)) (hcur c (by show c < cu.length; omega)) (by show cu.getD c 0 ≠ 0; rw [hid]; exact hid0)
 rw [show (Stm.cu (⟨cp, cr, gA, gc, gs, lA, lc, cl, some ⟨guA, 0, none⟩, uc, cu, tA, tc, ts, sA, sc, rs⟩ : Stm)).getD c 0 = id from hid] at hcuk
 obtain ⟨k, t, hk, ht, hkl, hkid⟩ := hcuk
 replace hk : fidx ts id = (k : Int) := hk; replace ht : ts[k]? = some t := ht; replace hkl : k < ts.length := hkl
 revert L; revert a; repeat (first | clear I | clear L)
 intro a I L
 obtain ⟨gtA, rfl⟩ := qi (L.own (i := 5) rfl) (Nat.lt_of_le_of_lt (Nat.zero_le _) (show k < nt from (by omega : k < nt)))
 refine Jb I L ((JF∘JS'∘JP∘Jp 2∘JI (h:=by exact fun L => qnr 1 L rfl hx id k hk)) fun w26 hbw => (Jp 1∘Jd3∘Jj) fun a I L => ?_)
 refine wp_seq ?_
 refine Jb I L ((Vs (.t (.t (.t (.t (.f .n))))) [17]) fun wd7 => (Vp [0]∘Vf 5 1∘Vp [7, 12]∘Vn 1∘Vf 2 0∘Vf 3 4∘Vc 4 O1∘Vc 6 O0∘Vo (vI c) (by rw [hcc])∘Vn 8∘Vf 9 0∘Vf 10 5∘Vc 11 O1∘Vy 13 (h:=by exact Yl.ix0 guA c 1 rfl rfl rfl)) fun a I L HS => ?_)
 refine s_on I 14 rfl ?_
 refine qk I L (i := 4) rfl rfl rfl rfl kr rfl rfl (by rw [List.length_map]; omega) ?_
 clear L; intro w7_14 L
 replace L := L.asRow (i := 4) (ys := (cu.set c 0).map I64i) rfl (zt I64i cu c 0 om)
 refine keepS (L.pt 7 [0, 1, 2, 3, 5, 6]) (fun HS => ?_)
 refine Vb I L HS ((Vu 15 (h:=by exact fun _ => Yl.ix0 gtA k 8 rfl rfl rfl)∘Vf 16 5) fun a I L HS => ?_)
 refine s_on I 17 rfl ?_
 refine qk I L (i := 5) rfl rfl rfl rfl kr rfl rfl (by rw [qy tkL 8 qd]; omega) ?_
 clear L; intro w7_17 L
 replace L := L.asRow (i := 5) (ys := (ts.set k { t with ready := false }).flatMap tkL) rfl (qw tkL 8 qd ts k t { t with ready := false } ht 5 de _ rfl)
 refine noS kr ?_
 refine qb kr ?_
 refine Jb I L ((JQ∘JP∘Jg 0 O0∘Jp 1∘Jd6∘Jj) (Je (fun hd45 => ?_) fun hd45 => ?_))
 ·
  exact (JT∘JR∘Jp 2∘Jn∘Jf 0∘Jg 5 O1∘Jp 2∘JaK 1∘JO (h:=by exact fun L => qr6 O5' L (by rw [List.length_set]; exact hlt) om om)) fun w55 => (Jn∘Jf 0∘Jf 5∘JW O1' O5') fun w9_13 => (Jt6∘Jr∘Jp 3∘Jj∘JZ∘Jz2) fun L => by exact qx (y := (⟨cp, cr, gA, gc, gs, lA, lc, cl, some ⟨guA, 0, none⟩, uc, (cu.set c 0), some ⟨gtA, 0, none⟩, tc, ((ts.set k { t with ready := false }).eraseIdx k), sA, sc, rs⟩ : Stm)) 1 L rfl ⟨hlns.g, hlns.l, by show (cu.set _ _).length = nu; rw [List.length_set]; exact hlu, by show ((ts.set k _).eraseIdx k).length = nt - 1; rw [List.length_eraseIdx, List.length_set, if_pos om]; omega, hlns.s⟩ (qnm (x := (⟨cp, cr, gA, gc, gs, lA, lc, cl, some ⟨guA, 0, none⟩, uc, cu, some ⟨gtA, 0, none⟩, tc, ts, sA, sc, rs⟩ : Stm)) (decide_eq_true hd12) hcc hid hid0 hk ht om)
 exact (JF∘JS'∘JP∘Jp 3∘Jj∘JZ∘Jz2) fun L => by exact qx (y := (⟨cp, cr, gA, gc, gs, lA, lc, cl, some ⟨guA, 0, none⟩, uc, (cu.set c 0), some ⟨gtA, 0, none⟩, tc, (ts.set k { t with ready := false }), sA, sc, rs⟩ : Stm)) 1 L rfl ⟨hlns.g, hlns.l, by show (cu.set _ _).length = nu; rw [List.length_set]; exact hlu, by show (ts.set k _).length = nt; rw [List.length_set]; exact hlt, hlns.s⟩ (qh1 (x := (⟨cp, cr, gA, gc, gs, lA, lc, cl, some ⟨guA, 0, none⟩, uc, cu, some ⟨gtA, 0, none⟩, tc, ts, sA, sc, rs⟩ : Stm)) (decide_eq_true hd12) hcc hid hid0 hk ht om)
theorem ql6 (W w : World) (x : Stm) (gm : Nat) (ng nl nu nt ns : Nat) (hx : MdOk x ng nl nu nt ns) (o : Op30) (ho : o.Ok) (T : List Fact) (L : Mem W w (mdA gm x ng nl nu nt ns ++ T)) :
    Calls Tryz.prog 31 #[vP gm 0, .agg o.cells] w (OpIs W gm T (qcd x.sta o)) := by
 obtain ⟨cp, cr, gA, gc, gs, lA, lc, cl, uA, uc, cu, tA, tc, ts, sA, sc, rs⟩ := x
 replace L : Mem W w (fM gm cp cr gA ng gc lA nl lc uA nu uc tA nt tc sA ns sc :: fG gA ng gc gs :: fI lA nl lc cl :: fI uA nu uc cu :: fT tA nt tc ts :: fS sA ns sc rs :: (fR rs ++ (T))) := L
 obtain ⟨hlg, hll, hlu, hlt, hls⟩ := hx.ln
 replace hlg : gs.length = ng := hlg; replace hll : cl.length = nl := hll; replace hlu : cu.length = nu := hlu; replace hlt : ts.length = nt := hlt; replace hls : rs.length = ns := hls
 have hlns := hx.ln
 have hsp : SpsOk gs cp rs := hx.spots
 have hrg : rs.length = gs.length := hx.sh.rs
 have hcr : cr < 18446744073709551616 := hx.ok.credit
 obtain ⟨hcp1, hcp2, _, hgs⟩ := zj hx.sh.cfg
 replace hcp1 : 1 ≤ cp := hcp1; replace hcp2 : cp ≤ 64 := hcp2; replace hgs : gsOk gs = true := hgs
 have hgl1 := (qo hgs).1; have hgl2 := (qo hgs).2.1
 have hcll : (cl.length : Int) = cp := hx.sh.cl; have hcul : (cu.length : Int) = cp := hx.sh.cu
 have hfts : ts.length ≤ 1000000 := hx.few.t
 have hoc := ho.cpu; have hot := ho.task; have hog := ho.group; have how := ho.weight; have hoto := ho.to; have hotk := ho.ticks; have hom := ho.mask; have hok8 := ho.kind; unfold I64 at hoc hot hog how hoto hotk
 obtain ⟨cn, hcn⟩ : ∃ n : Nat, cp = (n : Int) := ⟨cp.toNat, by omega⟩
 obtain ⟨gsA, rfl⟩ := qi (L.own (i := 5) rfl) om
 refine (Jin2 L Tryz.func31 139) ?_
 refine (JP∘JE) fun w3 g3 => (Jp 2∘Jr∘Jp 1∘Jn∘Jf 0∘Jp 1∘Jd3∘Jj∘JQ∘JB∘JP∘Jp 1∘Jg 1 O0∘JI (h:=by exact fun L => qhy 1 L rfl hx o.cpu)) fun w19 hbw => (Jp 2∘Jd4∘Jj) (Ju (fun hb15 => ?_) fun hb15 => ?_)
 ·
  intro a I L
  have hd15 := of_decide_eq_false ((Bool.not_eq_true' _).mp hb15)
  exact Jb I L ((JT∘JP∘Jp 2∘Jj∘JZ∘Jz2) fun L => by exact qx (y := (⟨cp, cr, gA, gc, gs, lA, lc, cl, uA, uc, cu, tA, tc, ts, some ⟨gsA, 0, none⟩, sc, rs⟩ : Stm)) 1 L rfl hlns (if_pos (decide_eq_false hd15)))
 intro a I L
 have hd15 := of_decide_eq_true ((Bool.not_eq_false' _).mp hb15)
 replace hd15 : 0 ≤ o.cpu ∧ o.cpu < cp := hd15
 obtain ⟨c, hcc⟩ : ∃ n : Nat, o.cpu = (n : Int) := ⟨o.cpu.toNat, by omega⟩
 have hccp : ((c : Nat) : Int) < cp := by omega
 refine Jb I L ((JF∘JP∘Jg 2 O0∘JI (h:=by exact fun L => qfy o.task _)) fun w24 hbw => (Jp 2∘Jd3∘Jj) (Ji' (fun hd21 => ?_) fun hd21 => ?_))
 ·
  exact (JT∘JP∘Jp 2∘Jj∘JZ∘Jz2) fun L => by exact qx (y := (⟨cp, cr, gA, gc, gs, lA, lc, cl, uA, uc, cu, tA, tc, ts, some ⟨gsA, 0, none⟩, sc, rs⟩ : Stm)) 1 L rfl hlns ((if_neg (nf (decide_eq_true hd15))).trans (if_pos (decide_eq_false hd21)))
 refine (JF) fun a I L => ?_
 refine qz (fun aS wS => Fr aS 139 [] [(26, .bool (!(decide (0 ≤ o.group ∧ o.group < rs.length)))), (21, .bool false), (15, .bool false), (6, vP gm 0), (5, vI 0), (4, vI 0), (3, vP g3 0), (0, vP gm 0)] ∧ Mem W wS (.blk g3 o.cells 52 :: fM gm cp cr gA ng gc lA nl lc uA nu uc tA nt tc (some ⟨gsA, 0, none⟩) ns sc :: fG gA ng gc gs :: fI lA nl lc cl :: fI uA nu uc cu :: fT tA nt tc ts :: fS (some ⟨gsA, 0, none⟩) ns sc rs :: (fR rs ++ (T)))) ?_ ?_
 ·
  refine Jb I L ((Vs .n []) fun wd6 => (Vf 0 3∘Vc 1 O0∘Vp [2, 3]) fun a I L HS => ?_)
  rcases I.tf 30 rfl with ⟨hb30, I⟩ | ⟨hb30, I⟩
  ·
   have hd30 := of_decide_eq_true hb30
   refine Vb I L HS ((Vq [4, 5, 6, 7, 8, 9, 10, 11, 12, 13] [(26, .bool true)]∘Vd∘Jd5) fun a I L => ?_)
   have I := I.sp 26 (.bool (!(decide (0 ≤ o.group ∧ o.group < rs.length)))) rfl (congrArg Value.bool (by rw [decide_eq_false om]; rfl))
   exact ⟨I.sub kr, L.pt 7 [0, 1, 2, 3, 4, 5, 6]⟩
  have hd30 := of_decide_eq_false hb30
  refine ap I (fun _ => HS) [4, 6] (bf 14 [0, 1, 2, 3, 4, 6]) [(33, vP gm 0), (31, vP g3 3)] fun a I => ?_
  refine s_ac I HS 5 0 (v := vI o.group) fun a I => ?_
  refine s_am I HS 7 fun a I => ?_
  refine ap I (fun _ => HS) [8] (bt 14 [9, 10, 11, 12, 13]) [(35, vP gm 6)] fun a I => ?_
  refine s_ac I HS 9 1 fun a I => ?_
  refine s_al I HS 10 fun a I => ?_
  refine ap I (fun _ => HS) [11, 12, 13] (bt 14 []) [(26, .bool (decide ((o.group : Int) ≥ (ns : Int))))] fun a I => ?_
  refine qb kr ?_
  have I := I.sp 26 (.bool (!(decide (0 ≤ o.group ∧ o.group < rs.length)))) rfl (congrArg Value.bool (by rw [← decide_not]; exact decide_eq_decide.2 om))
  exact ⟨I.sub kr, L.pt 7 [0, 1, 2, 3, 4, 5, 6]⟩
 clear I L; rintro a w6 ⟨I, L⟩
 refine Jb I L (Ju (fun hb26 => ?_) fun hb26 => ?_)
 ·
  intro a I L
  have hd26 := of_decide_eq_false ((Bool.not_eq_true' _).mp hb26)
  exact Jb I L ((JT∘JP∘Jp 2∘Jj∘JZ∘Jz2) fun L => by exact qx (y := (⟨cp, cr, gA, gc, gs, lA, lc, cl, uA, uc, cu, tA, tc, ts, some ⟨gsA, 0, none⟩, sc, rs⟩ : Stm)) 1 L rfl hlns ((if_neg (nf (decide_eq_true hd15))).trans ((if_neg (nf (decide_eq_true hd21))).trans (if_pos (by show ¬ (0 ≤ o.group ∧ o.group < ((rs.map Rw.l).length : Nat)); rw [List.length_map]; exact hd26)))))
 intro a I L
 have hd26 := of_decide_eq_true ((Bool.not_eq_false' _).mp hb26)
 obtain ⟨g, hgg⟩ : ∃ n : Nat, o.group = (n : Int) := ⟨o.group.toNat, by omega⟩
 refine Jb I L ((JF) fun a I L => ?_)
 refine qz (fun aS wS => Fr aS 139 [] [(40, .bool (!(decide (1 ≤ o.weight ∧ o.weight ≤ 65536 ∧ o.mask ≠ 0 ∧ ¬ 2 ^ cn ≤ o.mask)))), (26, .bool false), (21, .bool false), (15, .bool false), (6, vP gm 0), (5, vI 0), (4, vI 0), (3, vP g3 0), (0, vP gm 0)] ∧ Mem W wS (.blk g3 o.cells 52 :: fM gm cp cr gA ng gc lA nl lc uA nu uc tA nt tc (some ⟨gsA, 0, none⟩) ns sc :: fG gA ng gc gs :: fI lA nl lc cl :: fI uA nu uc cu :: fT tA nt tc ts :: fS (some ⟨gsA, 0, none⟩) ns sc rs :: (fR rs ++ (T)))) ?_ ?_
 ·
  refine Jb I L ((Vs .n []) fun wd8 => (Vf 0 4∘Vc 1 O0) fun a I L HS => ?_)
  refine s_on I 2 rfl ?_
  refine e_cl I [vI o.weight] rfl rfl (qbm o.weight _) ?_
  rintro _ w43 ⟨rfl, hbw⟩
  refine ⟨_, rfl, ?_⟩
  replace L := L.call hbw
  clear I; intro a I
  refine keepS (L.pt 7 [0, 1, 2, 3, 4, 5, 6]) (fun HS => ?_)
  refine Vb I L HS ((Vp [3, 4]) fun a I L HS => ?_)
  rcases I.tf 45 rfl with ⟨hb45, I⟩ | ⟨hb45, I⟩
  ·
   have hd45 := of_decide_eq_false ((Bool.not_eq_true' _).mp hb45)
   refine Vb I L HS ((Vq [5, 6, 7, 8, 9, 10, 11, 12, 13, 14, 15, 16, 17, 18, 19] [(40, .bool true)]∘Vd∘Jd6) fun a I L => ?_)
   have I := I.sp 40 (.bool (!(decide (1 ≤ o.weight ∧ o.weight ≤ 65536 ∧ o.mask ≠ 0 ∧ ¬ 2 ^ cn ≤ o.mask)))) rfl (congrArg Value.bool (by rw [decide_eq_false (fun h => by omega)]; rfl))
   exact ⟨I.sub kr, L.pt 7 [0, 1, 2, 3, 4, 5, 6]⟩
  have hd45 := of_decide_eq_true ((Bool.not_eq_false' _).mp hb45)
  refine ap I (fun _ => HS) [5] (bf 20 [0, 1, 2, 3, 4, 5]) [(46, vP g3 7)] fun a I => ?_
  refine s_ac I HS 6 0 (v := vQ o.mask) fun a I => ?_
  refine ap I (fun _ => HS) [7, 8, 9] (bf 20 [0, 1, 2, 3, 4, 5, 6, 7, 8, 9]) [(50, .bool ((o.mask : Int) == (0 : Int)))] fun a I => ?_
  refine Jb I L (Je (fun hd50 => ?_) fun hd50 => ?_)
  ·
   intro a I L
   refine ap I (fun _ => HS) [10, 11, 12, 13, 14, 15, 16, 17, 18, 19] (bt 20 []) [(40, .bool true)] fun a I => ?_
   refine qb kr ?_
   have I := I.sp 40 (.bool (!(decide (1 ≤ o.weight ∧ o.weight ≤ 65536 ∧ o.mask ≠ 0 ∧ ¬ 2 ^ cn ≤ o.mask)))) rfl (congrArg Value.bool (by rw [decide_eq_false (fun h => by omega)]; rfl))
   exact ⟨I.sub kr, L.pt 7 [0, 1, 2, 3, 4, 5, 6]⟩
  intro a I L
  refine ap I (fun _ => HS) [10, 12] (bt 20 [11, 13, 14, 15, 16, 17, 18, 19]) [(53, vP gm 0), (51, vP g3 7)] fun a I => ?_
  refine s_ac I HS 11 0 (v := vQ o.mask) fun a I => ?_
  refine s_am I HS 13 fun a I => ?_
  refine ap I (fun _ => HS) [14, 15] (bt 20 [16, 17, 18, 19]) [(56, vP gm 0)] fun a I => ?_
  refine s_ac I HS 16 1 fun a I => ?_
  replace I := I.sp 57 (vI cn) rfl (by rw [hcn]; try rfl)
  refine s_on I 17 rfl (e_is I L [vQ o.mask, vI cn] (.bool (decide (2 ^ cn ≤ o.mask))) rfl rfl (qnc o.mask cn hom ⟨by omega, by omega⟩ _) fun w58 hbw L a I => ?_)
  refine keepS (L.pt 7 [0, 1, 2, 3, 4, 5, 6]) (fun HS => ?_)
  refine ap I (fun _ => HS) [18, 19] (bt 20 []) [(40, .bool (decide (2 ^ cn ≤ o.mask)))] fun a I => ?_
  refine qb kr ?_
  have I := I.sp 40 (.bool (!(decide (1 ≤ o.weight ∧ o.weight ≤ 65536 ∧ o.mask ≠ 0 ∧ ¬ 2 ^ cn ≤ o.mask)))) rfl (congrArg Value.bool (by rw [← decide_not]; exact decide_eq_decide.2 ⟨fun h1 h2 => h2.2.2.2 h1, fun h1 => Classical.byContradiction fun h2 => h1 ⟨by omega, by omega, by omega, h2⟩⟩))
  exact ⟨I.sub kr, L.pt 7 [0, 1, 2, 3, 4, 5, 6]⟩
 clear I L; rintro a w8 ⟨I, L⟩
 refine Jb I L (Ju (fun hb40 => ?_) fun hb40 => ?_)
 ·
  intro a I L
  have hd40 := of_decide_eq_false ((Bool.not_eq_true' _).mp hb40)
  exact Jb I L ((JT∘JP∘Jp 2∘Jj∘JZ∘Jz2) fun L => by exact qx (y := (⟨cp, cr, gA, gc, gs, lA, lc, cl, uA, uc, cu, tA, tc, ts, some ⟨gsA, 0, none⟩, sc, rs⟩ : Stm)) 1 L rfl hlns ((if_neg (nf (decide_eq_true hd15))).trans ((if_neg (nf (decide_eq_true hd21))).trans ((if_neg (by show ¬ ¬ (0 ≤ o.group ∧ o.group < ((rs.map Rw.l).length : Nat)); rw [List.length_map]; exact not_not_intro hd26)).trans (if_pos (qf1 hcn hd40))))))
 intro a I L
 have hd40 := of_decide_eq_true ((Bool.not_eq_false' _).mp hb40)
 obtain ⟨z, hoz⟩ : ∃ n : Nat, o.weight = (n : Int) := ⟨o.weight.toNat, by omega⟩
 have hz : 1 ≤ z ∧ z ≤ 65536 := by omega
 have hmb := Nat.div_le_self o.mask (2 ^ c)
 refine Jb I L ((JF∘JP∘Jp 1∘Jg 2 O0∘JI (h:=by exact fun L => qel 1 L rfl hx o.task)) fun w64 hbw => (Jp 2∘Jd4∘Jj) (Ju (fun hb60 => ?_) fun hb60 => ?_))
 ·
  intro a I L
  have hd60 := of_decide_eq_true hb60
  replace hd60 : fidx ts o.task ≥ 0 := hd60
  exact Jb I L ((JT∘JP∘Jp 2∘Jj∘JZ∘Jz2) fun L => by exact qx (y := (⟨cp, cr, gA, gc, gs, lA, lc, cl, uA, uc, cu, tA, tc, ts, some ⟨gsA, 0, none⟩, sc, rs⟩ : Stm)) 1 L rfl hlns ((if_neg (nf (decide_eq_true hd15))).trans ((if_neg (nf (decide_eq_true hd21))).trans ((if_neg (by show ¬ ¬ (0 ≤ o.group ∧ o.group < ((rs.map Rw.l).length : Nat)); rw [List.length_map]; exact not_not_intro hd26)).trans ((if_neg (qdy hcn hd40)).trans (if_pos (by show 0 ≤ fidx ts o.task; omega)))))))
 intro a I L
 have hd60 := of_decide_eq_false hb60
 replace hd60 : ¬ (fidx ts o.task ≥ 0) := hd60
 refine Jb I L ((JF∘JP∘Jg 7 O0∘Jf 1∘Jc O0∘Jo (vI c) (by rw [hcc])∘Jy (v := vQ (o.mask / 2 ^ c : Nat)) (h:=by exact Yl.shrN (m := o.mask) (n := c) rfl rfl rfl (by show _ ≤ 64; omega))∘Jp 1∘Jo (vQ ((o.mask / 2 ^ c) % 2 : Nat)) (by exact qfu (n := 1) (j := 1) rfl de om)∘Jp 2∘Jd6∘Jj) (Ju (fun hb66 => ?_) fun hb66 => ?_))
 ·
  intro a I L
  have hd66 := eq_of_beq hb66
  exact Jb I L ((JT∘JP∘Jp 2∘Jj∘JZ∘Jz2) fun L => by exact qx (y := (⟨cp, cr, gA, gc, gs, lA, lc, cl, uA, uc, cu, tA, tc, ts, some ⟨gsA, 0, none⟩, sc, rs⟩ : Stm)) 1 L rfl hlns ((if_neg (nf (decide_eq_true hd15))).trans ((if_neg (nf (decide_eq_true hd21))).trans ((if_neg (by show ¬ ¬ (0 ≤ o.group ∧ o.group < ((rs.map Rw.l).length : Nat)); rw [List.length_map]; exact not_not_intro hd26)).trans ((if_neg (qdy hcn hd40)).trans ((if_neg (by show ¬ 0 ≤ fidx ts o.task; omega)).trans (if_pos (qns rfl hcc om))))))))
 intro a I L
 have hd66 := ne_of_beq_false hb66
 obtain ⟨em, hem⟩ : ∃ l, zh (⟨cp, cr, gA, gc, gs, lA, lc, cl, uA, uc, cu, tA, tc, ts, some ⟨gsA, 0, none⟩, sc, rs⟩ : Stm).sta g c = l := ⟨_, rfl⟩
 have hemm := fun h hh => qi1 (x := (⟨cp, cr, gA, gc, gs, lA, lc, cl, uA, uc, cu, tA, tc, ts, some ⟨gsA, 0, none⟩, sc, rs⟩ : Stm)) hx (by omega : g < ns) hem h hh
 have hemn := qgu (x := (⟨cp, cr, gA, gc, gs, lA, lc, cl, uA, uc, cu, tA, tc, ts, some ⟨gsA, 0, none⟩, sc, rs⟩ : Stm)) hx (by omega : g < ns) hem
 obtain ⟨⟨yA, yc, yl⟩, hy⟩ : ∃ y, rs.getD g Rw.zero = y := ⟨_, rfl⟩
 have hys := hsp g om; rw [hy] at hys
 have hyl : (yl.length : Int) = cp := hys.1
 revert L; revert a; repeat (first | clear I | clear L)
 intro a I L
 obtain ⟨gy, rfl⟩ := L.rwSome 7 rfl om hy om
 obtain ⟨yz, hyz⟩ : ∃ z, yl[c]? = some z := ⟨_, List.getElem?_eq_getElem om⟩
 have hyo := hys.2 yz (List.mem_of_getElem? hyz)
 have hyv := hyo.1.v; have hyr := hyo.1.r; have hyf := hyo.1.floor
 obtain ⟨t1, ht1⟩ : ∃ t, (⟨o.task, o.group, 0, o.cpu, o.mask, true, 0, 0⟩ : Tk).put (⟨yz.floor, 0, z⟩ : En) = t := ⟨_, rfl⟩
 have ht1i : t1.id = o.task := by rw [← ht1]; rfl
 refine Jb I L ((JF∘JS'∘JP∘Jp 1∘Jf 3∘Jc O0∘Jo (vI g) (by rw [hgg])∘Jf 1∘Jc O0∘Jo (vI c) (by rw [hcc])∘JK (h:=by exact fun L => qi0 1 L rfl hx (by show ((c : Nat) : Int) < cp; omega) om hem)) fun A79 c79 w79 hc79 => (Jp 1∘Jd6∘Jr∘Jg 2 O1∘Jg 3 O1∘Jg 1 O1∘Jg 7 O1∘Jy (v := .agg #[vI o.task, vI o.group, vI 0, vI o.cpu, vQ o.mask, .bool true, vQ 0, vW 0]) (h:=by exact Yl.build (vs := [(0, vI o.task), (1, vI o.group), (3, vI o.cpu), (4, vQ o.mask), (5, .bool true)]) rfl kr kr)∘JA #[vI 0, vI 0, vI 0, vI 0, vQ 0, .bool false, vQ 0, vW 0]) fun w8 g8 => (JV si_tk O0') fun w15_10 => (Jd5∘Jj) fun a I L => ?_)
 refine qz (fun aS wS => ∃ (g9 : Nat), Fr aS 139 [] [(9, vP g9 0), (8, vP g8 0), (7, .slice A79 em.length c79), (66, .bool false), (60, .bool false), (40, .bool false), (26, .bool false), (21, .bool false), (15, .bool false), (6, vP gm 0), (5, vI 0), (4, vI 0), (3, vP g3 0), (0, vP gm 0)] ∧ Mem W wS (.blk g9 ((⟨yz.floor, 0, z⟩ : En).cells) 117 :: .blk g8 #[vI o.task, vI o.group, vI 0, vI o.cpu, vQ o.mask, .bool true, vQ 0, vW 0] 81 :: .row (.slice A79 em.length c79) em.length (em.map I64v) 3 1 :: .blk g3 o.cells 52 :: fM gm cp cr gA ng gc lA nl lc uA nu uc tA nt tc (some ⟨gsA, 0, none⟩) ns sc :: fG gA ng gc gs :: fI lA nl lc cl :: fI uA nu uc cu :: fT tA nt tc ts :: fS (some ⟨gsA, 0, none⟩) ns sc rs :: (fR rs ++ (T)))) ?_ ?_
 ·
  refine Jb I L ((Vs .n [20]) fun wd16 => (Vp [0]∘Vf 4 3∘Vf 8 1∘Vf 13 4∘Vn 1∘Vf 2 6∘Vc 3 O3∘Vc 5 O2∘Vo (vI g) (by rw [hgg])∘Vy 6 (h:=by exact Yl.ix0 gsA g 1 rfl rfl rfl)∘Vy 7 (v := .slice ((rs.getD g Rw.zero).A) ((rs.getD g Rw.zero).l.length) ((rs.getD g Rw.zero).c)) (h:=by exact Yl.r1 8 g Rw.zero om rfl rfl rfl)∘Vo (vS gy yl.length yc) (by rw [hy])∘Vc 9 O2∘Vo (vI c) (by rw [hcc])∘Vy 10 (h:=by exact Yl.ix0 gy c 3 rfl rfl rfl)∘Vf 11 2∘Vy 12 (v := vQ yz.floor) (h:=by exact Yl.qh rfl rfl kr (fun _ h => h.qa1 9 (j := 2) rfl om hy (hyz) rfl))∘Vc 14 O2∘Vo (vI z) (by rw [hoz])) fun a I L HS => ?_)
  refine qj [15, 19] kr rfl ?_
  refine all_cons ?_ ?_
  ·refine qe I (i := 15) rfl rfl ?_
   refine e_is I L [vQ yz.floor, vI z] (.tuple #[.agg ((⟨yz.floor, 0, z⟩ : En).cells), vI 0]) rfl rfl (qnf yz.floor z hyf hz _) fun w105 hbw L a I => ?_
   refine keepS (L.pt 9 [0, 1, 2, 3, 4, 5, 6, 7, 8]) (fun HS => ?_)
   refine Vb I L HS ((Vp [16]∘Vx 17∘Vx 18∘VA 19 .n #[vQ 0, vW 0, vW 0]) fun w9 g9 => fun a I L HS => ?_)
   refine s_on I 20 rfl (e_sa I L 0 rfl rfl rfl rfl rfl qs rfl rfl (q9 (⟨yz.floor, 0, z⟩ : En)) ?_)
   clear L; intro w16_20 L
   refine noS kr ?_
   refine ap I (pastS kr) [21] (bt 22 []) [] fun a I => ?_
   refine qb kr ?_
   exact ⟨g9, I.sub kr, L.pt 10 [0, 1, 2, 3, 4, 5, 6, 7, 8, 9]⟩
  refine all_cons ?_ all_nil
  refine qe I (i := 19) rfl rfl ?_
  refine s_ea I L #[vQ 0, vW 0, vW 0] ?_
  clear I L; intro a w9 g9 I L
  refine keepS (L.pt 10 [1, 2, 3, 4, 5, 6, 7, 8, 9]) (fun HS => ?_)
  refine Vb I L HS ((VI 15 (.f .n) (h:=by exact fun L => qnf yz.floor z hyf hz _)) fun w105 hbw => (Vp [16]∘Vx 17∘Vx 18) fun a I L HS => ?_)
  refine s_on I 20 rfl (e_sa I L 0 rfl rfl rfl rfl rfl qs rfl rfl (q9 (⟨yz.floor, 0, z⟩ : En)) ?_)
  clear L; intro w16_20 L
  refine noS kr ?_
  refine ap I (pastS kr) [21] (bt 22 []) [] fun a I => ?_
  refine qb kr ?_
  exact ⟨g9, I.sub kr, L.pt 10 [0, 1, 2, 3, 4, 5, 6, 7, 8, 9]⟩
 clear I L; rintro a w16 ⟨g9, I, L⟩
 refine Jb I L ((JP∘Jy (v := .agg ((⟨yz.floor, 0, z⟩ : En).cells)) (h:=by exact Yl.loadS rfl rfl qs rfl (fun _ h => qa (h.blk (i := 0) rfl)))∘JO (h:=by exact fun L => qwq (⟨o.task, o.group, 0, o.cpu, o.mask, true, 0, 0⟩ : Tk) t1 (⟨yz.floor, 0, z⟩ : En) ht1 O1' L (qrb hyf hz))) fun w109 => (Jt2∘Jr∘Jp 1∘Jn∘Jg 5 O4∘Jy (h:=by exact Yl.makeFunc (fst := []) (caps := [vP g8 0]) rfl rfl rfl)∘JL (h:=by exact fun L => qr7 hlt (L.rd (i := 8) rfl) hfts (L.blk (i := 1) rfl))) ?_)
 rintro L _ w115 ⟨⟨ii, rfl, hins, hi1, hi2⟩, hbw⟩
 refine ⟨_, rfl, _, L.call hbw, ?_⟩
 refine (Jp 1∘Jd5∘Jj∘JQ∘JP∘Jp 2∘Jd1∘Jj) (Ju (fun hb117 => ?_) fun hb117 => ?_)
 ·
  intro a I L
  have hd117 := of_decide_eq_true hb117
  obtain ⟨ix, hix⟩ : ∃ n, qcg ts t1.id = n := ⟨_, rfl⟩
  have hixl := qkn ts t1.id
  rw [hix] at hins hixl
  rw [if_pos om] at hins
  refine Jb I L ((JT∘JR∘Jp 1∘Jn∘Jg 5 O4∘Jl∘Jo (vI ix) (by rw [show nt = ix by omega])∘Jp 1∘Jd4∘Jj) fun a I L => ?_)
  refine wp_seq ?_
  refine Jb I L ((Vs (.t (.t (.t (.t (.t (.t (.t (.t (.f .n))))))))) [11]) fun wd21 => (Vp [0, 1, 5]∘Vn 2∘Vf 3 5∘Vc 4 O4∘Vy 6 (v := .agg t1.cells) (h:=by exact Yl.loadS rfl rfl si_tk rfl (fun _ h => qa (h.blk (i := 1) rfl)))) fun a I L HS => ?_)
  refine s_on I 7 rfl (s_el I L ei_tk [(0, .agg t1.cells)] t1.cells ?_)
  clear I L; intro a w130 g130 I L
  refine keepS (L.pt 11 [1, 2, 3, 4, 5, 6, 7, 8, 10]) (fun HS => ?_)
  refine s_on I 8 rfl ?_
  refine e_cl I [.slice tA nt tc, vI ix, vS g130 1 1] rfl rfl (qky (i := ix) (l := ts) t1 9 (fun _ _ => O9') O0 L hlt om om) ?_
  rintro _ w131 ⟨A131, c131, rfl, hc131, HM2⟩
  refine ⟨_, rfl, ?_⟩
  replace L := HM2
  clear I; intro a I
  refine keepS (L.pt 11 [1, 2, 3, 4, 5, 6, 7, 8, 10]) (fun HS => ?_)
  refine Vb I L HS ((Vn 9∘Vf 10 5) fun a I L HS => ?_)
  refine s_on I 11 rfl (s_es I L 5 ?_)
  clear L; intro w21_11 L
  refine noS kr ?_
  refine qb kr ?_
  refine Jb I L ((JP∘Jp 2∘Jf 1∘Jc O4∘Jo (vI c) (by rw [hcc])∘JL (h:=by exact fun L => qi2 5 L rfl (j := 3) rfl de (qkz (tA' := A131) (tc' := c131) (ts' := insT ts ix t1) (nt' := nt + 1) hlns (by rw [qeo om]; omega)) (hemm) (hemn) hgs hrg hsp hcr hcp2 (by show ((c : Nat) : Int) < cp; omega))) ?_)
  rintro L _ w138 ⟨rs2, rfl, hl2, hsp2, hst2, HM2⟩
  refine ⟨_, rfl, _, (show Mem W w138 (.blk g130 t1.cells 81 :: .blk g9 ((⟨yz.floor, 0, z⟩ : En).cells) 117 :: .blk g8 t1.cells 81 :: .row (.slice A79 em.length c79) em.length (em.map I64v) 3 1 :: .blk g3 o.cells 52 :: fM gm cp cr gA ng gc lA nl lc uA nu uc A131 (nt + 1) c131 (some ⟨gsA, 0, none⟩) ns sc :: fG gA ng gc gs :: fI lA nl lc cl :: fI uA nu uc cu :: fT A131 (nt + 1) c131 (insT ts ix t1) :: fS (some ⟨gsA, 0, none⟩) ns sc rs2 :: (fR rs2 ++ (T))) from HM2), ?_⟩
  exact (Jt6∘Jr∘Jp 2∘Jj∘JZ∘Jz2) fun L => by exact qx (y := (⟨cp, cr, gA, gc, gs, lA, lc, cl, uA, uc, cu, A131, c131, (insT ts ix t1), some ⟨gsA, 0, none⟩, sc, rs2⟩ : Stm)) 5 L rfl (qnh (qkz (tA' := A131) (tc' := c131) (ts' := insT ts ix t1) (nt' := nt + 1) hlns (by rw [qeo om]; omega)) hl2) ((qgo (x := (⟨cp, cr, gA, gc, gs, lA, lc, cl, uA, uc, cu, tA, tc, ts, some ⟨gsA, 0, none⟩, sc, rs⟩ : Stm)) (t1 := t1) (decide_eq_true hd15) (decide_eq_true hd21) hd26 (qdy hcn hd40) (by show fidx ts o.task < 0; omega) (qgv hcc om) hgg hcc (congrArg Sp.floor (qan (x := (⟨cp, cr, gA, gc, gs, lA, lc, cl, uA, uc, cu, tA, tc, ts, some ⟨gsA, 0, none⟩, sc, rs⟩ : Stm)) (by show g < rs.length; omega) hy hyz)) (by rw [← ht1, hoz]; rfl) hem).trans (by rw [show qcg ts o.task = ix by rw [← ht1i]; exact hix]; exact congrArg (fun s => (s, (0 : Int), 0)) hst2.symm))
 intro a I L
 have hd117 := of_decide_eq_false hb117
 obtain ⟨ix, hix⟩ : ∃ n, qcg ts t1.id = n := ⟨_, rfl⟩
 have hixl := qkn ts t1.id
 rw [hix] at hins hixl
 rw [if_neg om] at hins
 replace I := I.sp 11 (vI ix) rfl (by rw [show ii = (ix : Int) by omega])
 refine Jb I L ((JF∘JS') fun a I L => ?_)
 refine wp_seq ?_
 refine Jb I L ((Vs (.t (.t (.t (.t (.t (.t (.t (.t (.f .n))))))))) [11]) fun wd21 => (Vp [0, 1, 5]∘Vn 2∘Vf 3 5∘Vc 4 O4∘Vy 6 (v := .agg t1.cells) (h:=by exact Yl.loadS rfl rfl si_tk rfl (fun _ h => qa (h.blk (i := 1) rfl)))) fun a I L HS => ?_)
 refine s_on I 7 rfl (s_el I L ei_tk [(0, .agg t1.cells)] t1.cells ?_)
 clear I L; intro a w130 g130 I L
 refine keepS (L.pt 11 [1, 2, 3, 4, 5, 6, 7, 8, 10]) (fun HS => ?_)
 refine s_on I 8 rfl ?_
 refine e_cl I [.slice tA nt tc, vI ix, vS g130 1 1] rfl rfl (qky (i := ix) (l := ts) t1 9 (fun _ _ => O9') O0 L hlt om om) ?_
 rintro _ w131 ⟨A131, c131, rfl, hc131, HM2⟩
 refine ⟨_, rfl, ?_⟩
 replace L := HM2
 clear I; intro a I
 refine keepS (L.pt 11 [1, 2, 3, 4, 5, 6, 7, 8, 10]) (fun HS => ?_)
 refine Vb I L HS ((Vn 9∘Vf 10 5) fun a I L HS => ?_)
 refine s_on I 11 rfl (s_es I L 5 ?_)
 clear L; intro w21_11 L
 refine noS kr ?_
 refine qb kr ?_
 refine Jb I L ((JP∘Jp 2∘Jf 1∘Jc O4∘Jo (vI c) (by rw [hcc])∘JL (h:=by exact fun L => qi2 5 L rfl (j := 3) rfl de (qkz (tA' := A131) (tc' := c131) (ts' := insT ts ix t1) (nt' := nt + 1) hlns (by rw [qeo om]; omega)) (hemm) (hemn) hgs hrg hsp hcr hcp2 (by show ((c : Nat) : Int) < cp; omega))) ?_)
 rintro L _ w138 ⟨rs2, rfl, hl2, hsp2, hst2, HM2⟩
 refine ⟨_, rfl, _, (show Mem W w138 (.blk g130 t1.cells 81 :: .blk g9 ((⟨yz.floor, 0, z⟩ : En).cells) 117 :: .blk g8 t1.cells 81 :: .row (.slice A79 em.length c79) em.length (em.map I64v) 3 1 :: .blk g3 o.cells 52 :: fM gm cp cr gA ng gc lA nl lc uA nu uc A131 (nt + 1) c131 (some ⟨gsA, 0, none⟩) ns sc :: fG gA ng gc gs :: fI lA nl lc cl :: fI uA nu uc cu :: fT A131 (nt + 1) c131 (insT ts ix t1) :: fS (some ⟨gsA, 0, none⟩) ns sc rs2 :: (fR rs2 ++ (T))) from HM2), ?_⟩
 exact (Jt6∘Jr∘Jp 2∘Jj∘JZ∘Jz2) fun L => by exact qx (y := (⟨cp, cr, gA, gc, gs, lA, lc, cl, uA, uc, cu, A131, c131, (insT ts ix t1), some ⟨gsA, 0, none⟩, sc, rs2⟩ : Stm)) 5 L rfl (qnh (qkz (tA' := A131) (tc' := c131) (ts' := insT ts ix t1) (nt' := nt + 1) hlns (by rw [qeo om]; omega)) hl2) ((qgo (x := (⟨cp, cr, gA, gc, gs, lA, lc, cl, uA, uc, cu, tA, tc, ts, some ⟨gsA, 0, none⟩, sc, rs⟩ : Stm)) (t1 := t1) (decide_eq_true hd15) (decide_eq_true hd21) hd26 (qdy hcn hd40) (by show fidx ts o.task < 0; omega) (qgv hcc om) hgg hcc (congrArg Sp.floor (qan (x := (⟨cp, cr, gA, gc, gs, lA, lc, cl, uA, uc, cu, tA, tc, ts, some ⟨gsA, 0, none⟩, sc, rs⟩ : Stm)) (by show g < rs.length; omega) hy hyz)) (by rw [← ht1, hoz]; rfl) hem).trans (by rw [show qcg ts o.task = ix by rw [← ht1i]; exact hix]; exact congrArg (fun s => (s, (0 : Int), 0)) hst2.symm))
theorem ei_fn : EI Tryz.prog 84 59 .nilFunc 1 8 := ⟨by kernel_rfl, by kernel_rfl, rfl, by omega⟩
def stepF (k : Nat) : FuncId := [31, 32, 33, 33, 34, 35, 36, 37, 38, 39].getD k 0
theorem fewer {k : Nat} (h : k < 10) : k = 0 ∨ k = 1 ∨ k = 2 ∨ k = 3 ∨ k = 4 ∨ k = 5 ∨ k = 6 ∨ k = 7 ∨ k = 8 ∨ k = 9 := by omega
theorem qo5 {k : Nat} (h : k < 10) : callable Tryz.prog (stepF k) = true := by
 rcases fewer h with rfl | rfl | rfl | rfl | rfl | rfl | rfl | rfl | rfl | rfl <;> kernel_rfl
theorem qwr (gm : Nat) {k : Nat} (h : k < 10) : (#[.func (.func 31) #[vP gm 0] #[], .func (.func 32) #[vP gm 0] #[], .func (.func 33) #[vP gm 0] #[], .func (.func 33) #[vP gm 0] #[], .func (.func 34) #[vP gm 0] #[], .func (.func 35) #[vP gm 0] #[], .func (.func 36) #[vP gm 0] #[], .func (.func 37) #[vP gm 0] #[], .func (.func 38) #[vP gm 0] #[], .func (.func 39) #[vP gm 0] #[]] : Array Value)[k]? = some (.func (.func (stepF k)) #[vP gm 0] #[]) := by
 rcases fewer h with rfl | rfl | rfl | rfl | rfl | rfl | rfl | rfl | rfl | rfl <;> rfl
section
variable {W w : World} {F T : List Fact} {x y : Stm} {ng nl nu nt ns gm : Nat} {o : Op30}
theorem qo6 {k : Nat} (n : Nat) (L : Mem W w F) (he : F.drop n = mdA gm x ng nl nu nt ns ++ T) (hx : MdOk x ng nl nu nt ns) (hG : GoodS x.sta) (ho : o.Ok) (h : k < 10) (hk : o.kind = k + 1) : Calls Tryz.prog (stepF k) #[vP gm 0, .agg o.cells] w (OpIs W gm (F.take n ++ T) (stepS x.sta o)) := by
 have HM2 := L.front n he
 have hcur := (ql3 hG.sh.sort).2 hG.cur
 unfold stepS
 rcases fewer h with rfl | rfl | rfl | rfl | rfl | rfl | rfl | rfl | rfl | rfl <;> rw [hk]
 ·exact ql6 W w x gm ng nl nu nt ns hx o ho _ HM2
 ·exact ql4 W w x gm ng nl nu nt ns hx o ho _ HM2
 ·exact qgw W w x gm ng nl nu nt ns hx o ho _ HM2 hcur
 ·exact qgw W w x gm ng nl nu nt ns hx o ho _ HM2 hcur
 ·exact qoz W w x gm ng nl nu nt ns hx o ho _ HM2 hcur
 ·exact qoy W w x gm ng nl nu nt ns hx o ho _ HM2
 ·exact qhi W w x gm ng nl nu nt ns hx o ho _ HM2
 ·exact qi4 W w x gm ng nl nu nt ns hx o ho _ HM2
 ·exact qi6 W w x gm ng nl nu nt ns hx o ho _ HM2
 ·exact qi7 W w x gm ng nl nu nt ns hx o ho _ HM2
theorem qxz (L : Mem W w (mdB gm y ++ T)) (hy : GoodS y.sta) : Calls Tryz.prog 40 #[vP gm 0] w (fun r w' => ∃ z : Stm, r = .returned (.tuple #[]) ∧ z.sta = riseS y.sta ∧ Mem W w' (mdB gm z ++ T)) :=
 (qox W w y gm _ _ _ _ _ (qap hy.sh) T L).mono fun r w' ⟨rs2, e, hl, _, hs, hm⟩ => ⟨{ y with rs := rs2 }, e, hs, Mem.toB hm ⟨rfl, rfl, rfl, rfl, hl⟩⟩
def FailS (s : Sta) (out : Out30) : Prop := out.2.2 ≠ 0 → out.1 = s ∧ out.2.1 = 0
theorem qo7 (s : Sta) (o : Op30) : FailS s (stepS s o) := by
 have key : ∀ e : Nat, FailS s (s, 0, e) := fun e _ => ⟨rfl, rfl⟩
 have key2 : ∀ (t : Sta) (g : Int), FailS s (t, g, 0) := fun t g h => absurd rfl h
 unfold stepS
 split
 ·unfold qcd; repeat' split
  all_goals first | exact key _ | exact key2 _ _
 ·unfold qce; repeat' split
  all_goals first | exact key _ | exact key2 _ _
 ·unfold qar; repeat' split
  all_goals first | exact key _ | exact key2 _ _
 ·unfold qar; repeat' split
  all_goals first | exact key _ | exact key2 _ _
 ·unfold tickS; repeat' split
  all_goals first | exact key _ | exact key2 _ _ | (dsimp only; split <;> exact key2 _ _)
 ·unfold pickS; repeat' split
  all_goals first | exact key _ | exact key2 _ _
 ·unfold zx; repeat' split
  all_goals first | exact key _ | exact key2 _ _
 ·unfold qad; repeat' split
  all_goals first | exact key _ | exact key2 _ _
 ·unfold qaj; repeat' split
  all_goals first | exact key _ | exact key2 _ _
 ·unfold qaa; repeat' split
  all_goals first | exact key _ | exact key2 _ _
 ·exact key _
theorem qr8 {s : Sta} (h : (stepS s o).2.2 ≠ 0) : (stepS s o).1 = s ∧ (stepS s o).2.1 = 0 := qo7 s o h
theorem qr9 {s : Sta} (h : o.kind < 1 ∨ 10 < o.kind) : doS s o = (s, 0, 2) := by
 have e : stepS s o = (s, 0, 2) := by
  unfold stepS
  split <;> first | rfl | omega
 unfold doS
 rw [e]
 rfl
theorem qgx {s : Sta} (h : (stepS s o).2.2 ≠ 0) : doS s o = (s, 0, (stepS s o).2.2) := by unfold doS; rw [if_pos h]
theorem qi9 {s : Sta} (h : (stepS s o).2.2 = 0) : doS s o = (riseS (stepS s o).1, (stepS s o).2.1, 0) := by unfold doS; rw [if_neg om]
end
theorem qul (W w : World) (x : Stm) (gm : Nat) (ng nl nu nt ns : Nat) (hx : MdOk x ng nl nu nt ns) (hG : GoodS x.sta) (o : Op30) (ho : o.Ok) (T : List Fact) (L : Mem W w (mdA gm x ng nl nu nt ns ++ T)) :
    Calls Tryz.prog 13 #[vP gm 0, .agg o.cells] w (OpIs W gm T (doS x.sta o)) := by
 obtain ⟨cp, cr, gA, gc, gs, lA, lc, cl, uA, uc, cu, tA, tc, ts, sA, sc, rs⟩ := x
 replace L : Mem W w (fM gm cp cr gA ng gc lA nl lc uA nu uc tA nt tc sA ns sc :: fG gA ng gc gs :: fI lA nl lc cl :: fI uA nu uc cu :: fT tA nt tc ts :: fS sA ns sc rs :: (fR rs ++ (T))) := L
 obtain ⟨hlg, hll, hlu, hlt, hls⟩ := hx.ln
 replace hlg : gs.length = ng := hlg; replace hll : cl.length = nl := hll; replace hlu : cu.length = nu := hlu; replace hlt : ts.length = nt := hlt; replace hls : rs.length = ns := hls
 have hok8 := ho.kind
 refine (Jin2 L Tryz.func13 67) ?_
 refine (JP∘JE) fun w3 g3 => (Jp 2∘Jj∘JQ∘JP∘Jp 1∘Jy (v := .bool false) (h:=by exact Yl.qbk rfl rfl rfl)∘Jp 2∘Jn∘Jg 7 O1∘Jp 2∘Jd6∘Jj∘JF∘JS'∘JP∘Jp 1∘Jy (h:=by exact Yl.makeFunc (fst := [vP gm 0]) (caps := []) rfl rfl rfl)∘Jp 1∘Jy (h:=by exact Yl.makeFunc (fst := [vP gm 0]) (caps := []) rfl rfl rfl)∘Jp 1∘Jy (h:=by exact Yl.makeFunc (fst := [vP gm 0]) (caps := []) rfl rfl rfl)∘Jp 1∘Jy (h:=by exact Yl.makeFunc (fst := [vP gm 0]) (caps := []) rfl rfl rfl)∘Jp 1∘Jy (h:=by exact Yl.makeFunc (fst := [vP gm 0]) (caps := []) rfl rfl rfl)∘Jp 1∘Jy (h:=by exact Yl.makeFunc (fst := [vP gm 0]) (caps := []) rfl rfl rfl)∘Jp 1∘Jy (h:=by exact Yl.makeFunc (fst := [vP gm 0]) (caps := []) rfl rfl rfl)∘Jp 1∘Jy (h:=by exact Yl.makeFunc (fst := [vP gm 0]) (caps := []) rfl rfl rfl)∘Jp 1∘Jy (h:=by exact Yl.makeFunc (fst := [vP gm 0]) (caps := []) rfl rfl rfl)∘Jp 1∘Jy (h:=by exact Yl.makeFunc (fst := [vP gm 0]) (caps := []) rfl rfl rfl)∘JU ei_fn #[.func (.func 31) #[vP gm 0] #[], .func (.func 32) #[vP gm 0] #[], .func (.func 33) #[vP gm 0] #[], .func (.func 33) #[vP gm 0] #[], .func (.func 34) #[vP gm 0] #[], .func (.func 35) #[vP gm 0] #[], .func (.func 36) #[vP gm 0] #[], .func (.func 37) #[vP gm 0] #[], .func (.func 38) #[vP gm 0] #[], .func (.func 39) #[vP gm 0] #[]]) fun w38 g38 => (Jp 1∘Jd6∘Jj∘JQ∘JP∘Jg 0 O1∘Jp 2) (Ji (fun hd42 => ?_) fun hd42 => ?_)
 ·
  exact (Jp 7∘Jd6∘Jj∘JT∘JP∘Jp 2∘Jj∘JZ∘Jz2) fun L => by exact qx (y := (⟨cp, cr, gA, gc, gs, lA, lc, cl, uA, uc, cu, tA, tc, ts, sA, sc, rs⟩ : Stm)) 2 L rfl hx.ln (qr9 om)
 refine (Jg 0 O1∘Jw .i64∘Jp 1∘Jl∘Jp 2∘Jd6∘Jj) (Ju (fun hb49 => ?_) fun hb49 => ?_)
 ·
  intro a I L
  have hd49 := of_decide_eq_true hb49
  exact Jb I L ((JT∘JP∘Jp 2∘Jj∘JZ∘Jz2) fun L => by exact qx (y := (⟨cp, cr, gA, gc, gs, lA, lc, cl, uA, uc, cu, tA, tc, ts, sA, sc, rs⟩ : Stm)) 2 L rfl hx.ln (qr9 om))
 intro a I L
 have hd49 := of_decide_eq_false hb49
 obtain ⟨k, hkk⟩ : ∃ k : Nat, o.kind = k + 1 := ⟨o.kind - 1, by omega⟩
 have hk10 : k < 10 := by omega
 refine Jb I L ((JF∘JS') fun a I L => ?_)
 refine wp_seq ?_
 refine qfd L [.blk g38 #[.func (.func 31) #[vP gm 0] #[], .func (.func 32) #[vP gm 0] #[], .func (.func 33) #[vP gm 0] #[], .func (.func 33) #[vP gm 0] #[], .func (.func 34) #[vP gm 0] #[], .func (.func 35) #[vP gm 0] #[], .func (.func 36) #[vP gm 0] #[], .func (.func 37) #[vP gm 0] #[], .func (.func 38) #[vP gm 0] #[], .func (.func 39) #[vP gm 0] #[]] 59, .blk g3 o.cells 52] [0, 1] [] fun L HS => ?_
 refine ap I (fun _ => HS) [0, 1] (bf 13 [0, 1]) [(52, vP g3 0), (51, vS g38 10 10)] fun a I => ?_
 refine s_ac I HS 2 1 (v := vB o.kind) fun a I => ?_
 refine za I (fun _ => HS) (i := 3) rfl rfl (d := 54) rfl de kr (fun _ _ _ h => h) (v := vB (IntKind.u8.wrap ((o.kind : Int) - 1))) (fun _ => Yl.pure kr) fun a I => ?_
 replace I := I.sp 54 (vB k) rfl (by rw [IntKind.wrap_u8]; congr 1; omega)
 refine s_az I HS 4 rfl (v := vP g38 (k * 1)) (Yl.ix0 g38 k 1 rfl rfl rfl) fun a I => ?_
 refine s_az I HS 5 rfl (v := .func (.func (stepF k)) #[vP gm 0] #[]) (Yl.qh rfl rfl kr (fun _ h => h.cell (i := 0) rfl (by rw [Nat.mul_one]; exact qwr gm hk10))) fun a I => ?_
 refine s_az I HS 6 rfl (v := .agg o.cells) (Yl.loadS rfl rfl si_op rfl (fun _ h => qa (h.blk (i := 1) rfl))) fun a I => ?_
 refine s_on I 7 rfl ?_
 refine qb0 I (f := (stepF k)) (vs := [.agg o.cells]) (fst := [vP gm 0]) (caps := []) rfl rfl rfl (qo5 hk10) rfl de (qo6 2 L rfl hx hG ho hk10 hkk) ?_
 rintro _ w58 ⟨y, rfl, hyq, HM2⟩
 refine ⟨_, rfl, ?_⟩
 replace L := (show Mem W w58 (.blk g38 #[.func (.func 31) #[vP gm 0] #[], .func (.func 32) #[vP gm 0] #[], .func (.func 33) #[vP gm 0] #[], .func (.func 33) #[vP gm 0] #[], .func (.func 34) #[vP gm 0] #[], .func (.func 35) #[vP gm 0] #[], .func (.func 36) #[vP gm 0] #[], .func (.func 37) #[vP gm 0] #[], .func (.func 38) #[vP gm 0] #[], .func (.func 39) #[vP gm 0] #[]] 59 :: .blk g3 o.cells 52 :: (mdB gm y ++ (T))) from HM2.back)
 clear I; intro a I
 refine keepS (L.pk [0, 1]) (fun HS => ?_)
 refine ap I (fun _ => HS) [8, 9, 10, 11, 12] (bt 13 []) [(8, vI ((stepS (⟨cp, cr, gA, gc, gs, lA, lc, cl, uA, uc, cu, tA, tc, ts, sA, sc, rs⟩ : Stm).sta o).2.2)), (7, vI ((stepS (⟨cp, cr, gA, gc, gs, lA, lc, cl, uA, uc, cu, tA, tc, ts, sA, sc, rs⟩ : Stm).sta o).2.1))] fun a I => ?_
 refine qb kr ?_
 refine Jb I L ((JQ∘JP∘Jp 2∘Jd1∘Jj) (Ju (fun hb62 => ?_) fun hb62 => ?_))
 ·
  intro a I L
  have hd62 := bne_iff_ne.1 hb62
  replace hd62 : (stepS (⟨cp, cr, gA, gc, gs, lA, lc, cl, uA, uc, cu, tA, tc, ts, sA, sc, rs⟩ : Stm).sta o).2.2 ≠ 0 := by omega
  exact Jb I L ((JT∘JP∘Jp 3∘Jj∘JZ∘Jz2) fun L => by rw [qgx hd62]; exact ⟨y, rfl, hyq.trans (qr8 hd62).1, L.dropN 2 rfl⟩)
 intro a I L
 have hd62 := bne_eq_false_iff_eq.1 hb62
 replace hd62 : (stepS (⟨cp, cr, gA, gc, gs, lA, lc, cl, uA, uc, cu, tA, tc, ts, sA, sc, rs⟩ : Stm).sta o).2.2 = 0 := by omega
 have hse := hd62
 have hyg : GoodS y.sta := by rw [hyq]; exact qgt ho hG hse
 refine Jb I L ((JF∘JS'∘JP∘Jp 1∘JL (h:=by exact fun L => qxz (L.dropN 2 rfl) hyg)) ?_)
 rintro L _ w65 ⟨z, rfl, hzq, HM2⟩
 refine ⟨_, rfl, _, HM2, ?_⟩
 exact (Jt2∘Jr∘Jp 3∘Jj∘JZ∘Jz2) fun L => by rw [qi9 hse]; exact ⟨z, rfl, hzq.trans (by rw [hyq]), L⟩
def qk0 (w : World) (e : TypeId) (sz n : Nat) (xs : List Value) (r : Ending) (w' : World) : Prop :=
 (∃ A c, r = .returned (.slice A n c) ∧ w'.ownsRow w.heap.size e sz (.slice A n c) n xs ∧ n ≤ c) ∧ Below w.heap.size w w'
theorem qda {w w' : World} {e : TypeId} {sz n : Nat} {xs : List Value} {A : Option Addr} (hr : Rd w w.heap.size sz A n xs) (h : A.isNone = true) (hb : Below w.heap.size w w') : qk0 w e sz n xs (.returned (.slice none 0 0)) w' := by
 have hn : n = 0 := by
  rcases Nat.eq_zero_or_pos n with h0 | h0
  ·exact h0
  ·obtain ⟨ad, rfl, _⟩ := hr.row h0
   cases h
 subst hn
 have hx : xs = [] := List.length_eq_zero_iff.1 (by rw [hr.len]; omega)
 subst hx
 exact ⟨⟨none, 0, rfl, World.ownsRow_nil _ _ _ _, Nat.le_refl _⟩, hb⟩
def rwUp (z : List Rw) (m : Nat) : List Rw := z ++ List.replicate m Rw.zero
theorem qnu (z : List Rw) (m : Nat) : (rwUp z m).length = z.length + m := by unfold rwUp; rw [List.length_append, List.length_replicate]
theorem qnv {α : Type} (F : α → Value) (z : α) (m : Nat) : (madeCells #[F z] (m * 1)).toList = (List.replicate m z).map F := by
 rw [Nat.mul_one]
 unfold madeCells
 refine List.ext_getElem (by simp) fun i h1 h2 => ?_
 simp [Nat.mod_one]
theorem qsa (m : Nat) : (madeCells #[.slice none 0 0] (m * 1)).toList = (rwUp [] m).map Rw.val := qnv Rw.val Rw.zero m
theorem qo8 (m : Nat) : (madeCells (Value.slice none 0 0).cells (m * 1)).toList = (rwUp [] m).map Rw.val := qsa m
theorem qum {z : List Rw} {m : Nat} (y : Rw) (h : 0 < m) : (rwUp z m).set z.length y = rwUp (z ++ [y]) (m - 1) := by
 obtain ⟨k, rfl⟩ : ∃ k, m = k + 1 := ⟨m - 1, by omega⟩
 unfold rwUp
 rw [List.set_append, if_neg om, Nat.sub_self, List.replicate_succ, List.set_cons_zero, List.append_assoc]
 rfl
theorem qsb (z : List Rw) : rwUp z 0 = z := by unfold rwUp; rw [List.replicate_zero, List.append_nil]
theorem qsc {w w' : World} {x : Stm} {z : List Rw} {n i g gc lc uc tc : Nat} {gA lA uA tA : Option Addr} (hz : z.length = i) (hi : i = n) (h1 : x.gs.length ≤ gc) (h2 : x.cl.length ≤ lc) (h3 : x.cu.length ≤ uc) (h4 : x.ts.length ≤ tc) (h5 : ∀ q ∈ z, q.l.length ≤ q.c) (h6 : x.rs.map Rw.l = z.map Rw.l)
  (hm : Mem w w' (.row (.slice gA x.gs.length gc) x.gs.length (x.gs.flatMap grL) 50 2 :: .row (.slice lA x.cl.length lc) x.cl.length (x.cl.map I64i) 3 1 :: .row (.slice uA x.cu.length uc) x.cu.length (x.cu.map I64i) 3 1 :: .row (.slice tA x.ts.length tc) x.ts.length (x.ts.flatMap tkL) 81 8 :: .row (.slice (some ⟨g, 0, none⟩) n n) n ((rwUp z (n - i)).map Rw.val) 63 1 :: rwF 83 z)) :
  qka w x (.returned (.agg #[.int .i64 x.cpus, .int .u64 (x.credit : Int), .slice gA x.gs.length gc, .slice lA x.cl.length lc, .slice uA x.cu.length uc, .slice tA x.ts.length tc, .slice (some ⟨g, 0, none⟩) n n])) w' := by
 subst hz
 subst hi
 rw [Nat.sub_self, qsb] at hm
 exact ⟨⟨x.cpus, x.credit, gA, gc, x.gs, lA, lc, x.cl, uA, uc, x.cu, tA, tc, x.ts, some ⟨g, 0, none⟩, z.length, z⟩, rfl, ⟨⟨rfl, rfl, rfl⟩, rfl, rfl, rfl, h6⟩, ⟨h1, h2, h3, h4, Nat.le_refl _, h5⟩, hm⟩
end Go.Proofs.YtannicghedpdpaaGreat
