/- Parts. -/
import Derived.Test.YtannicghedpdpaaQdChv
import Derived.Test.YtannicghedpdpaaQdZ2
set_option linter.all false
set_option maxRecDepth 100000
set_option maxHeartbeats 1000000
namespace Go.Proofs.Ytannicghedpdpaa
open Go.RowKit
theorem qsc {P : Program} {x : Code} {Q : Exit → Act → World → Prop} {a : Act} {w : World} (R : Act → World → Prop) (h : x.wp P (Exit.then R Q) a w) (k : ∀ a w, R a w → Q .normal a w) : x.wp P Q a w :=
 Code.wp_mono (fun e a w hq => by cases e <;> first | exact k _ _ hq | exact hq) h
def zf (o : Op30) (got : Int) : Int := if o.kind = 1 ∨ o.kind = 2 ∨ o.kind = 7 ∨ o.kind = 9 then o.task else got
structure Twin (k : Nat) (t u : Tk) : Prop where
 id : u.id = t.id
 group : u.group = t.group
 mask : u.mask = t.mask
 weight : k ≠ 7 → u.weight = t.weight
 cpu : k < 9 → u.cpu = t.cpu
 vr : k = 3 ∨ k = 6 → u.v = t.v ∧ u.r = t.r
theorem Twin.refl (k : Nat) (t : Tk) : Twin k t t := ⟨rfl, rfl, rfl, fun _ => rfl, fun _ => rfl, fun _ => ⟨rfl, rfl⟩⟩
structure OneTs (k : Nat) (ab : Int) (l l' : List Tk) : Prop where
 other : ∀ t ∈ l, t.id ≠ ab → t ∈ l'
 same : ∀ t ∈ l, t.id = ab → k ≠ 4 → ∃ u ∈ l', Twin k t u
section
variable {s : Sta} {o : Op30} {k i : Nat} {ab : Int} {l l' : List Tk} {t t' : Tk}
theorem qoj (h : ∀ t ∈ l, t ∈ l') : OneTs k ab l l' := ⟨fun t ht _ => h t ht, fun t ht _ _ => ⟨t, h t ht, Twin.refl k t⟩⟩
theorem qgs : OneTs k ab l l := qoj fun _ h => h
theorem one_set (hs : SortT l) (ht : l[i]? = some t) (hid : t.id = ab) (hw : Twin k t t') : OneTs k ab l (l.set i t') := by
 have hi := (List.getElem?_eq_some_iff.1 ht).1
 refine ⟨fun u hu hn => ?_, fun u hu hid2 _ => ?_⟩
 ·obtain ⟨j, hj, rfl⟩ := qy Tk.zero hu
  have hij : i ≠ j := fun e => hn (by subst e; rw [q4 Tk.zero ht]; exact hid)
  exact List.mem_of_getElem? (i := j) (by rw [List.getElem?_set_ne hij]; exact getD_at Tk.zero hj)
 ·obtain rfl := qm7 hs hu (List.mem_of_getElem? ht) (hid2.trans hid.symm)
  exact ⟨t', List.mem_of_getElem? (List.getElem?_set_self hi), hw⟩
theorem qok (ht : l[i]? = some t) (hid : t.id = ab) : OneTs 4 ab l ((l.set i t').eraseIdx i) :=
 ⟨fun u hu hn => by
  obtain ⟨j, hj, rfl⟩ := qy Tk.zero hu
  have hij : i ≠ j := fun e => hn (by subst e; rw [q4 Tk.zero ht]; exact hid)
  exact List.mem_eraseIdx_iff_getElem?.2 ⟨j, fun e => hij e.symm, by rw [List.getElem?_set_ne hij]; exact getD_at Tk.zero hj⟩, fun _ _ _ h => absurd rfl h⟩
theorem qi3 (l : List Nat) (c : Nat) (s : Sta) : (wakeS s l c).ts = s.ts := (zc c l s).ts
theorem qol (c d f g : Nat) (s : Sta) : (q6 c d f g s).ts = s.ts := (qas c d f g s).ts
theorem qj9 (h : GoodS s) (ht : s.ts[i]? = some t) (hid : t.id = ab) (hk : 9 ≤ k) (to : Int) : OneTs k ab s.ts (moveS s i to).ts := by
 obtain ⟨hg, ho⟩ := qbv h.sh ht
 have hen := qb5 hg ho
 have hm := En.qgv hen.1 (s.spot t.group.toNat t.cpu.toNat).floor (s.spot t.group.toNat to.toNat).floor (qap h.sh.ok _ _).floor
 have key : OneTs k ab s.ts (s.ts.set i { t.put (t.en.moved (s.spot t.group.toNat t.cpu.toNat).floor (s.spot t.group.toNat to.toNat).floor) with cpu := to }) :=
  one_set h.sh.sort ht hid ⟨rfl, rfl, rfl, fun _ => by
   show ((t.en.moved (s.spot t.group.toNat t.cpu.toNat).floor (s.spot t.group.toNat to.toNat).floor).w : Int) = t.weight
   rw [hm.2]; exact hen.2, fun h1 => by omega, fun h1 => by omega⟩
 unfold moveS
 rw [q4 Tk.zero ht]
 dsimp only
 split
 ·rw [qi3]; exact key
 ·exact key
theorem qka (h : GoodS s) (hk : o.kind = 3 ∨ o.kind = 4) (he : (zk s o).2.2 = 0) : OneTs o.kind (zf o (zk s o).2.1) s.ts (zk s o).1.ts := by
 have hab : ∀ g, zf o g = g := fun g => by unfold zf; rw [if_neg om]
 rw [hab]
 unfold zk at he ⊢
 split at he
 ·cases he
 ·split at he
  ·cases he
  ·rename_i h1 h2
   rw [if_neg h1, if_neg h2]
   have hc := qbe h1
   dsimp only
   rcases h.cur o.cpu.toNat (by have := h.sh.cu; omega) with h5 | ⟨t, htm, hid, hr, hcp⟩
   ·exact absurd h5 h2
   ·obtain ⟨j, hj, rfl⟩ := qy Tk.zero htm
    have hf := qga h.sh.sort hj
    have ht := getD_at Tk.zero hj
    obtain ⟨t, hte⟩ : ∃ t, s.ts.getD j Tk.zero = t := ⟨_, rfl⟩
    rw [hte] at hid hf ht
    rw [← hid, hf, Int.toNat_natCast, hte]
    split
    ·rename_i h4
     rw [h4]
     exact qok ht rfl
    ·rename_i h4
     exact one_set h.sh.sort ht rfl ⟨rfl, rfl, rfl, fun _ => rfl, fun _ => rfl, fun _ => ⟨rfl, rfl⟩⟩
theorem qsd (h : GoodS s) (hk : o.kind = 5) (he : (tickS s o).2.2 = 0) : OneTs o.kind (zf o (tickS s o).2.1) s.ts (tickS s o).1.ts := by
 have hab : ∀ g, zf o g = g := fun g => by unfold zf; rw [if_neg om]
 rw [hab]
 unfold tickS at he ⊢
 split at he
 ·cases he
 ·split at he
  ·cases he
  ·split at he
   ·cases he
   ·rename_i h1 h2 h3
    rw [if_neg h1, if_neg h2, if_neg h3]
    have hc := qbe h1
    dsimp only at he ⊢
    by_cases h4 : s.cu.getD o.cpu.toNat 0 = 0
    ·rw [if_pos h4]; exact qgs
    ·rw [if_neg h4]
     rcases h.cur o.cpu.toNat (by have := h.sh.cu; omega) with h5 | ⟨t, htm, hid, hr, hcp⟩
     ·exact absurd h5 h4
     ·obtain ⟨j, hj, rfl⟩ := qy Tk.zero htm
      have hf := qga h.sh.sort hj
      have ht := getD_at Tk.zero hj
      obtain ⟨t, hte⟩ : ∃ t, s.ts.getD j Tk.zero = t := ⟨_, rfl⟩
      rw [hte] at hid hf ht
      obtain ⟨hg, ho⟩ := qbv h.sh ht
      have hen := qb5 hg ho
      have ha := En.qh3 hen.1 o.ticks.toNat
      rw [qol, ← hid, hf, qaq hf ht, Int.toNat_natCast]
      exact one_set h.sh.sort ht rfl ⟨rfl, rfl, rfl, fun _ => by
       show ((t.en.add o.ticks.toNat).w : Int) = t.weight
       rw [ha.2]; exact hen.2, fun _ => rfl, fun h1 => by omega⟩
theorem qse (h : GoodS s) (he : (stepS s o).2.2 = 0) : OneTs o.kind (zf o (stepS s o).2.1) s.ts (stepS s o).1.ts := by
 unfold stepS at he ⊢
 split at he
 ·rename_i hk
  rw [hk]
  unfold qbp at he ⊢
  split at he
  ·cases he
  ·split at he
   ·cases he
   ·split at he
    ·cases he
    ·split at he
     ·cases he
     ·split at he
      ·cases he
      ·split at he
       ·cases he
       ·rename_i h1 h2 h3 h4 h5 h6
        rw [if_neg h1, if_neg h2, if_neg h3, if_neg h4, if_neg h5, if_neg h6, qi3]
        exact qoj fun t ht => qis.2 (.inr ht)
 ·rename_i hk
  have hab : ∀ g, zf o g = o.task := fun g => by unfold zf; rw [if_pos om]
  rw [hk, hab]
  unfold qbq at he ⊢
  split at he
  ·cases he
  ·split at he
   ·cases he
   ·rename_i h1 h2
    rw [if_neg h1, if_neg h2]
    split at he
    ·cases he
    ·rename_i h3
     rw [if_neg h3]
     obtain ⟨j, t, hj, ht, hid, htk⟩ := qb6 h2
     obtain ⟨hg, ho⟩ := qbv h.sh ht
     have hen := qb5 hg ho
     have hw := En.qc6 hen.1 (s.spot t.group.toNat t.cpu.toNat).floor s.credit (qap h.sh.ok _ _).floor
     dsimp only
     rw [qi3]
     simp only [htk, hj, Int.toNat_natCast]
     exact one_set h.sh.sort ht hid ⟨rfl, rfl, rfl, fun _ => by
      show ((t.en.woken (s.spot t.group.toNat t.cpu.toNat).floor s.credit).w : Int) = t.weight
      rw [hw.2]; exact hen.2, fun _ => rfl, fun h1 => by omega⟩
 ·rename_i hk
  exact qka h (.inl hk) he
 ·rename_i hk
  exact qka h (.inr hk) he
 ·rename_i hk
  exact qsd h hk he
 ·rename_i hk
  unfold pickS at he ⊢
  split at he
  ·cases he
  ·rename_i h1
   rw [if_neg h1]
   exact qgs
 ·rename_i hk
  have hab : ∀ g, zf o g = o.task := fun g => by unfold zf; rw [if_pos om]
  rw [hk, hab]
  unfold zb at he ⊢
  split at he
  ·cases he
  ·split at he
   ·cases he
   ·split at he
    ·cases he
    ·rename_i h1 h2 h3
     rw [if_neg h1, if_neg h2, if_neg h3]
     obtain ⟨j, t, hj, ht, hid, htk⟩ := qb6 h3
     simp only [htk, hj, Int.toNat_natCast]
     exact one_set h.sh.sort ht hid ⟨rfl, rfl, rfl, fun h1 => absurd rfl h1, fun _ => rfl, fun h1 => by omega⟩
 ·rename_i hk
  unfold zp at he ⊢
  split at he
  ·cases he
  ·split at he
   ·cases he
   ·rename_i h1 h2
    rw [if_neg h1, if_neg h2]
    exact qgs
 ·rename_i hk
  have hab : ∀ g, zf o g = o.task := fun g => by unfold zf; rw [if_pos om]
  rw [hk, hab]
  unfold zq at he ⊢
  split at he
  ·cases he
  ·split at he
   ·cases he
   ·split at he
    ·cases he
    ·split at he
     ·cases he
     ·split at he
      ·cases he
      ·split at he
       ·cases he
       ·rename_i h1 h2 h3 h4 h5 h6
        rw [if_neg h1, if_neg h2, if_neg h3, if_neg h4, if_neg h5, if_neg h6]
        obtain ⟨j, t, hj, ht, hid, htk⟩ := qb6 h3
        rw [hj, Int.toNat_natCast]
        exact qj9 h ht hid (Nat.le_refl _) _
 ·rename_i hk
  have hab : ∀ g, zf o g = g := fun g => by unfold zf; rw [if_neg om]
  rw [hk, hab]
  unfold zd at he ⊢
  split at he
  ·cases he
  ·rename_i h1
   rw [if_neg h1]
   cases hb : bestF s o s.ts.length with
   | none => rw [hb] at he; cases he
   | some b => exact qj9 h (getD_at Tk.zero (qc2 hb)) rfl de _
 ·cases he
structure OneCl (o : Op30) (s s' : Sta) : Prop where
 cl : ∀ c : Nat, c < s.cl.length → s'.cl.getD c 0 = if o.kind = 5 ∧ (c : Int) = o.cpu then s.cl.getD c 0 + o.ticks else s.cl.getD c 0
 cul : s'.cu.length = s.cu.length
 cu : ∀ c : Nat, ¬ ((o.kind = 6 ∨ o.kind = 3 ∨ o.kind = 4) ∧ (c : Int) = o.cpu) → s'.cu.getD c 0 = s.cu.getD c 0
theorem cl_eq {s' : Sta} (h1 : s'.cl = s.cl) (h2 : s'.cu = s.cu) (hk : o.kind ≠ 5) : OneCl o s s' := ⟨fun c _ => by rw [h1, if_neg om], by rw [h2], fun c _ => by rw [h2]⟩
theorem qgt (i : Nat) (to : Int) : (moveS s i to).cl = s.cl ∧ (moveS s i to).cu = s.cu := by
 unfold moveS
 dsimp only
 split
 ·exact ⟨(zc _ _ _).cl, (zc _ _ _).cu⟩
 ·exact ⟨rfl, rfl⟩
theorem qom {v : Int} {s' : Sta} (h1 : s'.cl = s.cl) (h2 : s'.cu = s.cu.set o.cpu.toNat v) (hc : 0 ≤ o.cpu) (hk : o.kind = 6 ∨ o.kind = 3 ∨ o.kind = 4) : OneCl o s s' := ⟨fun c _ => by rw [h1, if_neg om], by rw [h2, List.length_set], fun c hn => by
 rw [h2, getD_set_ne _ _ (fun e => hn ⟨hk, by omega⟩)]⟩
theorem qsf (he : (stepS s o).2.2 = 0) : OneCl o s (stepS s o).1 := by
 unfold stepS at he ⊢
 split at he
 ·rename_i hk
  unfold qbp; repeat' split
  all_goals first | exact cl_eq rfl rfl om | exact cl_eq (zc _ _ _).cl (zc _ _ _).cu om
 ·rename_i hk
  unfold qbq; repeat' split
  all_goals first | exact cl_eq rfl rfl om | exact cl_eq (zc _ _ _).cl (zc _ _ _).cu om
 ·rename_i hk
  unfold zk at he ⊢
  split at he
  ·cases he
  ·split at he
   ·cases he
   ·rename_i h1 h2
    rw [if_neg h1, if_neg h2]
    dsimp only
    split <;> exact qom rfl rfl (qbe h1).1 om
 ·rename_i hk
  unfold zk at he ⊢
  split at he
  ·cases he
  ·split at he
   ·cases he
   ·rename_i h1 h2
    rw [if_neg h1, if_neg h2]
    dsimp only
    split <;> exact qom rfl rfl (qbe h1).1 om
 ·rename_i hk
  unfold tickS at he ⊢
  split at he
  ·cases he
  ·split at he
   ·cases he
   ·split at he
    ·cases he
    ·rename_i h1 h2 h3
     rw [if_neg h1, if_neg h2, if_neg h3]
     have hc := qbe h1
     have key : ∀ s' : Sta, s'.cl = s.cl.set o.cpu.toNat (s.cl.getD o.cpu.toNat 0 + o.ticks) → s'.cu = s.cu → OneCl o s s' := fun s' e1 e2 => ⟨fun c hcl => by
      rw [e1]
      by_cases e : o.cpu.toNat = c
      ·subst e
       rw [qf _ _ hcl, if_pos ⟨hk, by omega⟩]
      ·rw [getD_set_ne _ _ e, if_neg (fun h => e om)], by rw [e2], fun c _ => by rw [e2]⟩
     dsimp only
     split
     ·exact key _ rfl rfl
     ·exact key _ (qas _ _ _ _ _).cl (qas _ _ _ _ _).cu
 ·rename_i hk
  unfold pickS at he ⊢
  split at he
  ·cases he
  ·rename_i h1
   rw [if_neg h1]
   exact qom rfl rfl (qbe h1).1 om
 ·rename_i hk
  unfold zb; repeat' split
  all_goals exact cl_eq rfl rfl om
 ·rename_i hk
  unfold zp; repeat' split
  all_goals exact cl_eq rfl rfl om
 ·rename_i hk
  unfold zq; repeat' split
  all_goals first | exact cl_eq rfl rfl om | exact cl_eq (qgt _ _).1 (qgt _ _).2 om
 ·rename_i hk
  unfold zd; repeat' split
  all_goals first | exact cl_eq rfl rfl om | exact cl_eq (qgt _ _).1 (qgt _ _).2 om
 ·cases he
theorem do_ok (he : (doS s o).2.2 = 0) : (stepS s o).2.2 = 0 := by
 by_cases h : (stepS s o).2.2 = 0
 ·exact h
 ·rw [qe3 h] at he; exact absurd he h
theorem do_ts (h : GoodS s) (he : (doS s o).2.2 = 0) : OneTs o.kind (zf o (doS s o).2.1) s.ts (doS s o).1.ts := by
 have h1 := do_ok he
 rw [qdk h1]
 exact qse h h1
theorem do_cl (he : (doS s o).2.2 = 0) : OneCl o s (doS s o).1 := by
 have h1 := do_ok he
 rw [qdk h1]
 have k := qsf h1
 exact ⟨k.cl, k.cul, k.cu⟩
theorem qon (hs : SortT l) (ht : t ∈ l) : atT l t.id = (t, true) := by
 obtain ⟨i, hi, rfl⟩ := qy Tk.zero ht
 exact qjz hi rfl fun j hj => by have := hs j i hj hi; omega
theorem qoo {s' : Sta} (hs : SortT s'.ts) (h : OneTs k ab l s'.ts) (ht : t ∈ l) : (t.id ≠ ab ∧ atT s'.ts t.id = (t, true)) ∨ (t.id = ab ∧ k ≠ 4 ∧ ∃ u, atT s'.ts t.id = (u, true) ∧ Twin k t u) ∨ (t.id = ab ∧ k = 4) := by
 by_cases h1 : t.id = ab
 ·by_cases h2 : k = 4
  ·exact .inr (.inr ⟨h1, h2⟩)
  ·obtain ⟨u, hu, hw⟩ := h.same t ht h1 h2
   exact .inr (.inl ⟨h1, h2, u, by rw [← hw.id]; exact qon hs hu, hw⟩)
 ·exact .inl ⟨h1, qon hs (h.other t ht h1)⟩
theorem at_is {x : Stm} {id : Int} {u : Tk} {b : Bool} {w : World} (h : atT x.ts id = (u, b)) (ht : Rd w w.heap.size 8 x.tA x.ts.length (x.ts.flatMap tkL)) (hn : x.ts.length ≤ 1000000) : Calls Try.prog 14 #[.agg x.cells, .int .i64 id] w (Is w (.tuple #[.agg u.cells, .bool b])) := by
 have := qs3 x id w ht hn
 rwa [h] at this
end
theorem qop (n : Nums) (hn : n.Ok) (A : Option Addr) (c_ : Nat) (l : List Sml) (hl : ∀ x ∈ l, x.Ok) (hc : l.length ≤ c_) (hnl : l.length ≤ 9223372036854775807) (w : World) (hr : Rd w w.heap.size 8 A l.length (l.flatMap sml)) :
    Calls Try.prog 3 #[.agg n.cells, .slice A l.length c_] w (Is w (.bool true)) := by
 have hsl := qod l 80
 refine (JN2 Try.func3 274) ?_
 refine (JP∘JE) fun w2 g2 => (Jp 1∘Jr∘Jy (v := .agg n.cells) (h:=by exact Yl.loadS rfl rfl qr5 (qoe hn) (fun _ h => qa (h.blk (i := 0) rfl)))∘JK (h:=by exact fun I => qlj n hn _)) fun A25 c25 w25 hc25 => (JL (h:=by exact fun I => qn9 (Nums.cfg hn) (I.rd (i := 0) rfl))) ?_
 rintro I _ w26 ⟨gm, x, rfl, hx, hm⟩
 refine ⟨_, rfl, _, (show Mem w w26 ((mdB gm x ++ ([]))) from by have h := Mem.alone I hm; rw [← List.append_nil (mdB gm x)] at h; exact h), ?_⟩
 refine (Jp 1∘Jx∘Jx∘Jp 2∘Jj∘JQ∘JP∘Jv 4 [(32, vP gm 0), (31, .bool false)]∘Jy (v := .bool false) (h:=by exact Yl.qkb rfl rfl rfl)∘Jp 1∘Jd4∘Jj∘JF∘JS'∘JP∘Jp 1∘JL (h:=by exact fun I => qoc 0 I rfl hx (Nums.good hn).1)) ?_
 rintro I _ w37 ⟨p, rfl, hp, hcapp, hm⟩
 refine ⟨_, rfl, _, (show Mem w w37 ((stF p ++ (mdB gm x ++ ([])))) from I.joinF (T := (mdB gm x ++ ([]))) 0 hm rfl), ?_⟩
 refine (Jp 1∘Jx∘Jx∘JA #[vI 0, vQ 0, vN, vN, vN, vN, vN]) fun w7 g7 => (JV si_st O0' (h1:=by exact qf4 p)) fun w4_6 => (Jp 1∘Jt1∘Jj∘JQ∘JP∘Jp 1∘JK (h:=by exact fun I => qlk A c_ l 80 _ hl (I.old hr) hc hnl de)) fun A41 c41 w41 hc41 => (Jl∘Jp 1∘Jj∘JB) fun a Z I => ?_
 refine qp (fun mS aS wS => ∃ (k : Nat) (x : Stm) (p : Stm) (s : Sta), (k ≤ (qb l 80).length) ∧ (x.sta = s) ∧ (p.sta = s) ∧ (GoodS s) ∧ mS = (qb l 80).length - k ∧ Fr aS 274 [] [(43, vI k), (42, vI ((qb l 80).length : Nat)), (41, .slice A41 ((qb l 80).length) c41), (7, vP g7 0), (34, .bool false), (5, vP gm 0), (4, .bool false)] ∧ Mem w wS (.row (.slice A41 ((qb l 80).length) c41) ((qb l 80).length) ((qb l 80).flatMap opL) 48 8 :: .blk g7 p.cells 42 :: (stF p ++ (mdB gm x ++ ([]))))) (m := (qb l 80).length - 0) ⟨0, x, p, n.new, Nat.zero_le _, hx, hp, (Nums.good hn).1, rfl, Z.sub kr, I.pt 2 [0, 1]⟩ ?_
 clear Z I; rintro mS a w_ ⟨k, x, p, s, hk, hx, hp, hG, rfl, Z, I⟩
 refine Jb Z I ((JP∘Jp 1∘Jj∘JQ) (Ju (fun hb44 => ?_) fun hb44 => ?_))
 ·
  intro a Z I
  have hd44 := of_decide_eq_true hb44
  have hkl : k < (qb l 80).length := by omega
  obtain ⟨o, ho⟩ : ∃ z, (qb l 80).getD k Op30.zero = z := ⟨_, rfl⟩
  have hoo : o.Ok := by rw [← ho]; exact qn4 hl _ (qk Op30.zero hkl)
  have hG' := qj0 hoo hG
  have hfp := few_s hp hG
  have hok8 := hoo.kind; have hoc := hoo.cpu; have hot := hoo.ticks; unfold I64 at hoc hot
  refine Jb Z I ((JT∘JS'∘JQ∘JB∘JP) ?_)
  repeat (first | clear Z | clear I)
  intro a Z I
  obtain ⟨gA41, rfl⟩ := ql (I.own (i := 0) rfl) (Nat.lt_of_le_of_lt (Nat.zero_le _) (show k < (qb l 80).length from by omega))
  refine Jb Z I ((Jy (h:=by exact Yl.ix0 gA41 k 8 rfl rfl rfl)∘Jy (v := .agg (((qb l 80).getD k Op30.zero).cells)) (h:=by exact Yl.loadS rfl rfl si_op rfl (fun _ h => h.qc5 qr3 (i := 0) rfl ((getD_at Op30.zero hkl))))∘Jo (.agg o.cells) (by rw [ho])∘JA #[vB 0, vI 0, vI 0, vI 0, vI 0, vI 0, vI 0, vQ 0]) fun w10 g10 => (JV si_op O0' (h1:=by exact qqo o)) fun w7_3 => (Jd2∘Jr∘Jp 1∘Jy (v := .agg o.cells) (h:=by exact Yl.loadS rfl rfl si_op rfl (fun _ h => qa (h.blk (i := 0) rfl)))∘JL (h:=by exact fun I => do_s 3 (show Mem w w7_3 (.blk g10 o.cells 48 :: .row (vS gA41 ((qb l 80).length) c41) ((qb l 80).length) ((qb l 80).flatMap opL) 48 8 :: .blk g7 p.cells 42 :: (mdB gm x ++ (stF p ++ ([])))) from Mem.swapT (A := stF p) (B := mdB gm x) 3 I rfl) rfl hx hG hoo)) ?_)
  rintro I _ w50 ⟨y, rfl, hy, HM2⟩
  refine ⟨_, rfl, _, (show Mem w w50 (.blk g10 o.cells 48 :: .row (vS gA41 ((qb l 80).length) c41) ((qb l 80).length) ((qb l 80).flatMap opL) 48 8 :: .blk g7 p.cells 42 :: (stF p ++ (mdB gm y ++ ([])))) from Mem.swapT (A := mdB gm y) (B := stF p) 3 (show Mem w w50 (.blk g10 o.cells 48 :: .row (vS gA41 ((qb l 80).length) c41) ((qb l 80).length) ((qb l 80).flatMap opL) 48 8 :: .blk g7 p.cells 42 :: (mdB gm y ++ (stF p ++ ([])))) from HM2.back) rfl), ?_⟩
  refine (Jp 1∘Jx∘Jx∘Jp 2∘Jr∘Jp 1∘JL (h:=by exact fun I => qoc 3 (show Mem w w50 (.blk g10 o.cells 48 :: .row (vS gA41 ((qb l 80).length) c41) ((qb l 80).length) ((qb l 80).flatMap opL) 48 8 :: .blk g7 p.cells 42 :: (mdB gm y ++ ([]))) from Mem.dropT (A := stF p) 3 I rfl) rfl hy hG')) ?_
  rintro I _ w55 ⟨q, rfl, hq, hcapq, hm⟩
  refine ⟨_, rfl, _, (show Mem w w55 (.blk g10 o.cells 48 :: .row (vS gA41 ((qb l 80).length) c41) ((qb l 80).length) ((qb l 80).flatMap opL) 48 8 :: .blk g7 p.cells 42 :: (stF q ++ (stF p ++ (mdB gm y ++ ([]))))) from I.joinF (T := (stF p ++ (mdB gm y ++ ([])))) 3 hm rfl), ?_⟩
  refine (Jp 1∘Jx∘Jx∘JA #[vI 0, vQ 0, vN, vN, vN, vN, vN]) fun w13 g13 => (JV si_st O0' (h1:=by exact qf4 q)) fun w9_6 => (Jp 1∘Jj∘JQ∘JP∘Jv 2 [(59, .bool false)]∘Jj∘JF∘JS'∘JQ∘JP∘Jp 2∘Jd1∘Jj) (Ju (fun hb61 => ?_) fun hb61 => ?_)
  ·
   intro a Z I
   have hd61 := bne_iff_ne.1 hb61
   replace I := (show Mem w _ (.blk g13 q.cells 42 :: .blk g10 o.cells 48 :: .row (vS gA41 ((qb l 80).length) c41) ((qb l 80).length) ((qb l 80).flatMap opL) 48 8 :: .blk g7 p.cells 42 :: (stF p ++ (mdB gm y ++ ([])))) from Mem.dropT (A := stF q) 4 I rfl)
   refine Jb Z I ((JT∘JX∘JG∘JR∘JaK 1∘Jp 1∘Jd1∘Jq) fun a Z I => ?_)
   exact ⟨_, om, k + 1, y, p, s, by omega, hy.trans (qsb om), hp, hG, rfl, Z.sub kr, I.pt 4 [2, 3]⟩
  intro a Z I
  have hd61 := bne_eq_false_iff_eq.1 hb61
  have he0 : (doS s o).2.2 = 0 := by omega
  have hts := do_ts hG he0
  have hocl := do_cl he0
  have hgw := qsa (s := s) (o := o)
  have hfq := few_s hq hG'
  have hlc : q.cl.length = p.cl.length := by rw [qc3 hp, qc3 hq]; exact hgw.cl
  have hlu : q.cu.length = p.cl.length := by have h1 := hG'.sh.cu; have h2 := hG.sh.cl; have h3 := hgw.cpus; rw [qj7 hq, qc3 hp]; omega
  have hlu2 : p.cu.length = p.cl.length := by have h1 := hG.sh.cu; have h2 := hG.sh.cl; rw [qj7 hp, qc3 hp]; omega
  have hfl := hfp.l; have hft := hfp.t
  refine Jb Z I ((JF∘JS'∘JP∘Jp 2∘Jd1∘Jj∘JQ∘JP∘Jg 0 O1∘Jj) fun a Z I => ?_)
  refine qsc (fun aS wS => ∃ (ab : Int), (ab = zf o (doS s o).2.1) ∧ Fr aS 274 [] [(64, vB o.kind), (15, vI ab), (61, .bool false), (59, .bool false), (14, vI 0), (13, vP g13 0), (12, vI ((doS s o).2.2)), (11, vI ((doS s o).2.1)), (10, vP g10 0), (44, .bool true), (43, vI k), (42, vI ((qb l 80).length : Nat)), (41, vS gA41 ((qb l 80).length) c41), (7, vP g7 0), (34, .bool false), (5, vP gm 0), (4, .bool false)] ∧ Mem w wS (.blk g13 q.cells 42 :: .blk g10 o.cells 48 :: .row (vS gA41 ((qb l 80).length) c41) ((qb l 80).length) ((qb l 80).flatMap opL) 48 8 :: .blk g7 p.cells 42 :: (stF q ++ (stF p ++ (mdB gm y ++ ([])))))) ?_ ?_
  ·
   refine Jb Z I ((JB∘JQ∘JP∘Jp 2∘Jd1∘Jj) (Je (fun hd65 => ?_) fun hd65 => ?_))
   ·
    refine (JT∘JS'∘JT∘JR∘Jg 2 O1∘Jp 1∘Jd1∘Jq) fun a Z I => ?_
    exact ⟨o.task, by unfold zf; rw [if_pos om], Z.sub kr, I.pt 4 [0, 1, 2, 3]⟩
   refine (JF∘JP∘Jp 2∘Jd1∘Jj) (Je (fun hd65 => ?_) fun hd65 => ?_)
   ·
    refine (JT∘JS'∘JT∘JR∘Jg 2 O1∘Jp 1∘Jd1∘Jq) fun a Z I => ?_
    exact ⟨o.task, by unfold zf; rw [if_pos om], Z.sub kr, I.pt 4 [0, 1, 2, 3]⟩
   refine (JF∘JP∘Jp 2∘Jd1∘Jj) (Je (fun hd65 => ?_) fun hd65 => ?_)
   ·
    refine (JT∘JS'∘JT∘JR∘Jg 2 O1∘Jp 1∘Jd1∘Jq) fun a Z I => ?_
    exact ⟨o.task, by unfold zf; rw [if_pos om], Z.sub kr, I.pt 4 [0, 1, 2, 3]⟩
   refine (JF∘JR∘Jp 2∘Jd1∘Jj) (Je (fun hd65 => ?_) fun hd65 => ?_)
   ·
    refine (JT∘JR∘Jg 2 O1∘Jp 1∘Jd1∘Jq) fun a Z I => ?_
    exact ⟨o.task, by unfold zf; rw [if_pos om], Z.sub kr, I.pt 4 [0, 1, 2, 3]⟩
   refine (JF∘JS) fun a Z I => ?_
   exact ⟨((doS s o).2.1), by unfold zf; rw [if_neg om], Z.sub kr, I.pt 4 [0, 1, 2, 3]⟩
  clear Z I; rintro a w_ ⟨ab, hab, Z, I⟩
  refine Jb Z I ((JG∘JQ∘JP∘Jg 5 O3∘Jl∘Jp 1∘Jj∘JB) fun a Z I => ?_)
  refine qp (fun mS aS wS => ∃ (i : Nat), (i ≤ p.ts.length) ∧ mS = p.ts.length - i ∧ Fr aS 274 [] [(75, vI i), (74, vI p.ts.length), (73, .slice p.tA p.ts.length p.tc), (64, vB o.kind), (15, vI ab), (61, .bool false), (59, .bool false), (14, vI 0), (13, vP g13 0), (12, vI ((doS s o).2.2)), (11, vI ((doS s o).2.1)), (10, vP g10 0), (44, .bool true), (43, vI k), (42, vI ((qb l 80).length : Nat)), (41, vS gA41 ((qb l 80).length) c41), (7, vP g7 0), (34, .bool false), (5, vP gm 0), (4, .bool false)] ∧ Mem w wS (.blk g13 q.cells 42 :: .blk g10 o.cells 48 :: .row (vS gA41 ((qb l 80).length) c41) ((qb l 80).length) ((qb l 80).flatMap opL) 48 8 :: .blk g7 p.cells 42 :: (stF q ++ (stF p ++ (mdB gm y ++ ([])))))) (m := p.ts.length - 0) ⟨0, Nat.zero_le _, rfl, Z.sub kr, I.pt 4 [0, 1, 2, 3]⟩ ?_
  clear Z I; rintro mS a w_ ⟨i, hzi, rfl, Z, I⟩
  refine Jb Z I ((JP∘Jp 1∘Jj∘JQ) (Ju (fun hb76 => ?_) fun hb76 => ?_))
  ·
   intro a Z I
   have hd76 := of_decide_eq_true hb76
   have hi1 : i < p.ts.length := by omega
   obtain ⟨gpt, opt, hgpt, _⟩ := ((I.st2 4 rfl).t).qu (show 0 < p.ts.length by omega) de
   obtain ⟨t, ht⟩ : ∃ z, p.ts.getD i Tk.zero = z := ⟨_, rfl⟩
   have htm : t ∈ s.ts := by rw [← ht, ← qj8 hp]; exact qk Tk.zero hi1
   replace Z := Z.sp 73 (.slice (some ⟨gpt, opt, none⟩) p.ts.length p.tc) rfl (by rw [hgpt])
   refine Jb Z I ((JT∘JS'∘JQ∘JB∘JP∘Jy (h:=by exact Yl.ix gpt opt i 8 rfl rfl rfl)∘Jy (v := .agg ((p.ts.getD i Tk.zero).cells)) (h:=by exact Yl.loadS rfl rfl si_tk rfl (fun _ h => ((Mem.st2 4 h rfl).t.to hgpt).qaa qg ((getD_at Tk.zero hi1))))∘Jo (.agg t.cells) (by rw [ht])∘JA #[vI 0, vI 0, vI 0, vI 0, vQ 0, .bool false, vQ 0, vW 0]) fun w17 g17 => (JV si_tk O0' (h1:=by exact qcv t)) fun w22_3 => (Jd2∘Jj∘JQ) fun a Z I => ?_)
   rcases qoo hG'.sh.sort hts htm with ⟨hne, hat⟩ | ⟨hid, hk4, u, hat, htw⟩ | ⟨hid, hk4⟩
   ·
    refine Jb Z I ((JR∘Jy (v := .agg q.cells) (h:=by exact Yl.loadS rfl rfl si_st rfl (fun _ h => qa (h.blk (i := 1) rfl)))∘Jg 0 O0∘JI (h:=by exact fun I => at_is (u := t) (b := true) (by rw [qj8 hq]; exact hat) (I.st1 5 rfl).t hfq.t)) fun w83 hbw => (Jp 1∘Jx∘Jx∘JA #[vI 0, vI 0, vI 0, vI 0, vQ 0, .bool false, vQ 0, vW 0]) fun w18 g18 => (JV si_tk O0' (h1:=by exact qcv t)) fun w23_8 => (Jp 1∘Jj∘JQ) fun a Z I => ?_)
    refine s_fs1 ?_
    refine Jb Z I ((Jg 0 O1∘Jp 2∘Jo (.bool true) (by rw [← hab] at hne; simp [hne])∘Jp 4∘Jy (v := .agg t.cells) (h:=by exact Yl.loadS rfl rfl si_tk rfl (fun _ h => qa (h.blk (i := 0) rfl)))∘Jy (v := .agg t.cells) (h:=by exact Yl.loadS rfl rfl si_tk rfl (fun _ h => qa (h.blk (i := 1) rfl)))∘Jy (v := .bool (!(decide (t = t)))) (h:=by exact Yl.qqw rfl rfl rfl (qo7 t t))∘Jo (.bool false) (by simp)∘Jp 2∘Jd6∘Jq∘JF∘JS'∘JQ) fun a Z I => ?_)
    refine s_fs1 ?_
    refine Jb Z I ((Jg 0 O1∘Jp 2∘Jo (.bool false) (by rw [← hab] at hne; simp [hne])∘Jv 47 [(149, .bool false)]∘Jd3∘Jq∘JF∘JS') fun a Z I => ?_)
    refine qt (fun aS wS => Fr aS 274 [] [(73, .slice p.tA p.ts.length p.tc), (171, .bool false), (149, .bool false), (98, .bool false), (19, .bool true), (18, vP g18 0), (17, vP g17 0), (76, .bool true), (75, vI i), (74, vI p.ts.length), (64, vB o.kind), (15, vI ab), (61, .bool false), (59, .bool false), (14, vI 0), (13, vP g13 0), (12, vI ((doS s o).2.2)), (11, vI ((doS s o).2.1)), (10, vP g10 0), (44, .bool true), (43, vI k), (42, vI ((qb l 80).length : Nat)), (41, vS gA41 ((qb l 80).length) c41), (7, vP g7 0), (34, .bool false), (5, vP gm 0), (4, .bool false)] ∧ Mem w wS (.blk g18 t.cells 52 :: .blk g17 t.cells 52 :: .blk g13 q.cells 42 :: .blk g10 o.cells 48 :: .row (vS gA41 ((qb l 80).length) c41) ((qb l 80).length) ((qb l 80).flatMap opL) 48 8 :: .blk g7 p.cells 42 :: (stF q ++ (stF p ++ (mdB gm y ++ ([])))))) ?_ ?_
    ·
     refine qw ?_
     refine Jb Z I ((Jg 0 O3∘Jp 2) (Je (fun hd153 => ?_) fun hd153 => ?_))
     ·
      refine (Jp 5∘Jg 6 O0∘Jg 6 O1∘Jp 1∘Jo (.bool false) (by simp)∘Jp 1∘Jg 7 O0∘Jg 7 O1∘Jp 1∘Jo (.bool false) (by simp)∘Jp 2∘Jd6∘Jq) fun a Z I => ?_
      replace Z := Z.sp 73 (.slice p.tA p.ts.length p.tc) rfl (by rw [hgpt])
      have Z := Z.sp 171 (.bool false) rfl (rfl)
      exact ⟨Z.sub kr, I.pt 6 [0, 1, 2, 3, 4, 5]⟩
     refine (Jg 0 O3∘Jp 3) (Je (fun hd158 => ?_) fun hd158 => ?_)
     ·
      refine (Jg 6 O0∘Jg 6 O1∘Jp 1∘Jo (.bool false) (by simp)∘Jp 1∘Jg 7 O0∘Jg 7 O1∘Jp 1∘Jo (.bool false) (by simp)∘Jp 2∘Jd6∘Jq) fun a Z I => ?_
      replace Z := Z.sp 73 (.slice p.tA p.ts.length p.tc) rfl (by rw [hgpt])
      have Z := Z.sp 171 (.bool false) rfl (rfl)
      exact ⟨Z.sub kr, I.pt 6 [0, 1, 2, 3, 4, 5]⟩
     refine (Jv 13 [(171, .bool false)]∘Jd6∘Jq) fun a Z I => ?_
     replace Z := Z.sp 73 (.slice p.tA p.ts.length p.tc) rfl (by rw [hgpt])
     have Z := Z.sp 171 (.bool false) rfl (rfl)
     exact ⟨Z.sub kr, I.pt 6 [0, 1, 2, 3, 4, 5]⟩
    clear Z I; rintro a w28 ⟨Z, I⟩
    refine Jb Z I ((JF∘JS'∘JR∘JaK 1∘Jp 1∘Jd1∘Jq) fun a Z I => ?_)
    exact ⟨_, om, i + 1, by omega, rfl, Z.sub kr, I.pt 6 [2, 3, 4, 5]⟩
   ·
    refine Jb Z I ((JR∘Jy (v := .agg q.cells) (h:=by exact Yl.loadS rfl rfl si_st rfl (fun _ h => qa (h.blk (i := 1) rfl)))∘Jg 0 O0∘JI (h:=by exact fun I => at_is (u := u) (b := true) (by rw [qj8 hq]; exact hat) (I.st1 5 rfl).t hfq.t)) fun w83 hbw => (Jp 1∘Jx∘Jx∘JA #[vI 0, vI 0, vI 0, vI 0, vQ 0, .bool false, vQ 0, vW 0]) fun w18 g18 => (JV si_tk O0' (h1:=by exact qcv u)) fun w23_8 => (Jp 1∘Jj∘JQ) fun a Z I => ?_)
    refine s_fs1 ?_
    refine Jb Z I ((Jg 0 O1∘Jp 2∘Jo (.bool false) (by rw [← hab] at hid; simp [hid])∘Jv 9 [(98, .bool false)]∘Jd3∘Jq∘JF∘JS'∘JQ) fun a Z I => ?_)
    refine qt (fun aS wS => Fr aS 274 [] [(149, .bool false), (98, .bool false), (19, .bool true), (18, vP g18 0), (17, vP g17 0), (73, .slice (some ⟨gpt, opt, none⟩) p.ts.length p.tc), (76, .bool true), (75, vI i), (74, vI p.ts.length), (64, vB o.kind), (15, vI ab), (61, .bool false), (59, .bool false), (14, vI 0), (13, vP g13 0), (12, vI ((doS s o).2.2)), (11, vI ((doS s o).2.1)), (10, vP g10 0), (44, .bool true), (43, vI k), (42, vI ((qb l 80).length : Nat)), (41, vS gA41 ((qb l 80).length) c41), (7, vP g7 0), (34, .bool false), (5, vP gm 0), (4, .bool false)] ∧ Mem w wS (.blk g18 u.cells 52 :: .blk g17 t.cells 52 :: .blk g13 q.cells 42 :: .blk g10 o.cells 48 :: .row (vS gA41 ((qb l 80).length) c41) ((qb l 80).length) ((qb l 80).flatMap opL) 48 8 :: .blk g7 p.cells 42 :: (stF q ++ (stF p ++ (mdB gm y ++ ([])))))) ?_ ?_
    ·
     refine qw ?_
     refine Jb Z I ((Jg 0 O1∘Jp 2∘Jo (.bool true) (by rw [← hab] at hid; simp [hid])∘Jp 1∘Jg 0 O3∘Jp 1∘Jo (.bool true) (by simp; omega)∘Jp 5∘Jg 1 O0∘Jg 1 O1∘Jp 1∘Jo (.bool false) (by simp [htw.group])∘Jp 2∘Jg 4 O0∘Jg 4 O1∘Jp 1∘Jo (.bool false) (by simp [htw.mask])∘Jp 2∘Jg 0 O3∘Jp 2) (Jh (fun hd129 => ?_) fun hd129 => ?_))
     ·
      refine (Jg 2 O0∘Jg 2 O1∘Jp 1∘Jo (.bool false) (by simp [htw.weight om])∘Jp 3∘Jg 0 O3∘Jp 2) (Ji (fun hd141 => ?_) fun hd141 => ?_)
      ·
       refine (Jg 3 O0∘Jg 3 O1∘Jp 1∘Jo (.bool false) (by simp [htw.cpu om])∘Jp 3∘Jd6∘Jq) fun a Z I => ?_
       have Z := Z.sp 149 (.bool false) rfl (rfl)
       exact ⟨Z.sub kr, I.pt 6 [0, 1, 2, 3, 4, 5]⟩
      refine (Jv 8 [(149, .bool false)]∘Jd6∘Jq) fun a Z I => ?_
      have Z := Z.sp 149 (.bool false) rfl (rfl)
      exact ⟨Z.sub kr, I.pt 6 [0, 1, 2, 3, 4, 5]⟩
     refine (Jv 8 [(137, .bool false)]∘Jg 0 O3∘Jp 2) (Ji (fun hd141 => ?_) fun hd141 => ?_)
     ·
      refine (Jg 3 O0∘Jg 3 O1∘Jp 1∘Jo (.bool false) (by simp [htw.cpu om])∘Jp 3∘Jd6∘Jq) fun a Z I => ?_
      have Z := Z.sp 149 (.bool false) rfl (rfl)
      exact ⟨Z.sub kr, I.pt 6 [0, 1, 2, 3, 4, 5]⟩
     refine (Jv 8 [(149, .bool false)]∘Jd6∘Jq) fun a Z I => ?_
     have Z := Z.sp 149 (.bool false) rfl (rfl)
     exact ⟨Z.sub kr, I.pt 6 [0, 1, 2, 3, 4, 5]⟩
    clear Z I; rintro a w26 ⟨Z, I⟩
    refine Jb Z I ((JF∘JS') fun a Z I => ?_)
    refine qt (fun aS wS => Fr aS 274 [] [(73, .slice p.tA p.ts.length p.tc), (171, .bool false), (149, .bool false), (98, .bool false), (19, .bool true), (18, vP g18 0), (17, vP g17 0), (76, .bool true), (75, vI i), (74, vI p.ts.length), (64, vB o.kind), (15, vI ab), (61, .bool false), (59, .bool false), (14, vI 0), (13, vP g13 0), (12, vI ((doS s o).2.2)), (11, vI ((doS s o).2.1)), (10, vP g10 0), (44, .bool true), (43, vI k), (42, vI ((qb l 80).length : Nat)), (41, vS gA41 ((qb l 80).length) c41), (7, vP g7 0), (34, .bool false), (5, vP gm 0), (4, .bool false)] ∧ Mem w wS (.blk g18 u.cells 52 :: .blk g17 t.cells 52 :: .blk g13 q.cells 42 :: .blk g10 o.cells 48 :: .row (vS gA41 ((qb l 80).length) c41) ((qb l 80).length) ((qb l 80).flatMap opL) 48 8 :: .blk g7 p.cells 42 :: (stF q ++ (stF p ++ (mdB gm y ++ ([])))))) ?_ ?_
    ·
     refine qw ?_
     refine Jb Z I ((Jg 0 O3∘Jp 2) (Je (fun hd153 => ?_) fun hd153 => ?_))
     ·
      refine (Jp 5∘Jg 6 O0∘Jg 6 O1∘Jp 1∘Jo (.bool false) (by simp [(htw.vr om).1])∘Jp 1∘Jg 7 O0∘Jg 7 O1∘Jp 1∘Jo (.bool false) (by simp [(htw.vr om).2])∘Jp 2∘Jd6∘Jq) fun a Z I => ?_
      replace Z := Z.sp 73 (.slice p.tA p.ts.length p.tc) rfl (by rw [hgpt])
      have Z := Z.sp 171 (.bool false) rfl (rfl)
      exact ⟨Z.sub kr, I.pt 6 [0, 1, 2, 3, 4, 5]⟩
     refine (Jg 0 O3∘Jp 3) (Je (fun hd158 => ?_) fun hd158 => ?_)
     ·
      refine (Jg 6 O0∘Jg 6 O1∘Jp 1∘Jo (.bool false) (by simp [(htw.vr om).1])∘Jp 1∘Jg 7 O0∘Jg 7 O1∘Jp 1∘Jo (.bool false) (by simp [(htw.vr om).2])∘Jp 2∘Jd6∘Jq) fun a Z I => ?_
      replace Z := Z.sp 73 (.slice p.tA p.ts.length p.tc) rfl (by rw [hgpt])
      have Z := Z.sp 171 (.bool false) rfl (rfl)
      exact ⟨Z.sub kr, I.pt 6 [0, 1, 2, 3, 4, 5]⟩
     refine (Jv 13 [(171, .bool false)]∘Jd6∘Jq) fun a Z I => ?_
     replace Z := Z.sp 73 (.slice p.tA p.ts.length p.tc) rfl (by rw [hgpt])
     have Z := Z.sp 171 (.bool false) rfl (rfl)
     exact ⟨Z.sub kr, I.pt 6 [0, 1, 2, 3, 4, 5]⟩
    clear Z I; rintro a w28 ⟨Z, I⟩
    refine Jb Z I ((JF∘JS'∘JR∘JaK 1∘Jp 1∘Jd1∘Jq) fun a Z I => ?_)
    exact ⟨_, om, i + 1, by omega, rfl, Z.sub kr, I.pt 6 [2, 3, 4, 5]⟩
   ·
    obtain ⟨⟨u, ub⟩, hat⟩ : ∃ z, atT (doS s o).1.ts t.id = z := ⟨_, rfl⟩
    refine Jb Z I ((JR∘Jy (v := .agg q.cells) (h:=by exact Yl.loadS rfl rfl si_st rfl (fun _ h => qa (h.blk (i := 1) rfl)))∘Jg 0 O0∘JI (h:=by exact fun I => at_is (u := u) (b := ub) (by rw [qj8 hq]; exact hat) (I.st1 5 rfl).t hfq.t)) fun w83 hbw => (Jp 1∘Jx∘Jx∘JA #[vI 0, vI 0, vI 0, vI 0, vQ 0, .bool false, vQ 0, vW 0]) fun w18 g18 => (JV si_tk O0' (h1:=by exact qcv u)) fun w23_8 => (Jp 1∘Jj∘JQ) fun a Z I => ?_)
    refine s_fs1 ?_
    refine Jb Z I ((Jg 0 O1∘Jp 2∘Jo (.bool false) (by rw [← hab] at hid; simp [hid])∘Jv 9 [(98, .bool false)]∘Jd3∘Jq∘JF∘JS'∘JQ) fun a Z I => ?_)
    refine s_fs1 ?_
    refine Jb Z I ((Jg 0 O1∘Jp 2∘Jo (.bool true) (by rw [← hab] at hid; simp [hid])∘Jp 1∘Jg 0 O3∘Jp 1∘Jo (.bool false) (by simp; omega)∘Jv 43 [(149, .bool false)]∘Jd6∘Jq∘JF∘JS') fun a Z I => ?_)
    refine qt (fun aS wS => Fr aS 274 [] [(73, .slice p.tA p.ts.length p.tc), (171, .bool false), (149, .bool false), (98, .bool false), (19, .bool ub), (18, vP g18 0), (17, vP g17 0), (76, .bool true), (75, vI i), (74, vI p.ts.length), (64, vB o.kind), (15, vI ab), (61, .bool false), (59, .bool false), (14, vI 0), (13, vP g13 0), (12, vI ((doS s o).2.2)), (11, vI ((doS s o).2.1)), (10, vP g10 0), (44, .bool true), (43, vI k), (42, vI ((qb l 80).length : Nat)), (41, vS gA41 ((qb l 80).length) c41), (7, vP g7 0), (34, .bool false), (5, vP gm 0), (4, .bool false)] ∧ Mem w wS (.blk g18 u.cells 52 :: .blk g17 t.cells 52 :: .blk g13 q.cells 42 :: .blk g10 o.cells 48 :: .row (vS gA41 ((qb l 80).length) c41) ((qb l 80).length) ((qb l 80).flatMap opL) 48 8 :: .blk g7 p.cells 42 :: (stF q ++ (stF p ++ (mdB gm y ++ ([])))))) ?_ ?_
    ·
     refine qw ?_
     refine Jb Z I ((Jg 0 O3∘Jp 2) (Je (fun hd153 => ?_) fun hd153 => ?_))
     ·
      refine (Jp 5∘Jg 6 O0∘Jg 6 O1∘Jp 1∘Jo (.bool false) (by exact absurd hk4 om)∘Jp 1∘Jg 7 O0∘Jg 7 O1∘Jp 1∘Jo (.bool false) (by exact absurd hk4 om)∘Jp 2∘Jd6∘Jq) fun a Z I => ?_
      replace Z := Z.sp 73 (.slice p.tA p.ts.length p.tc) rfl (by rw [hgpt])
      have Z := Z.sp 171 (.bool false) rfl (rfl)
      exact ⟨Z.sub kr, I.pt 6 [0, 1, 2, 3, 4, 5]⟩
     refine (Jg 0 O3∘Jp 3) (Je (fun hd158 => ?_) fun hd158 => ?_)
     ·
      refine (Jg 6 O0∘Jg 6 O1∘Jp 1∘Jo (.bool false) (by exact absurd hk4 om)∘Jp 1∘Jg 7 O0∘Jg 7 O1∘Jp 1∘Jo (.bool false) (by exact absurd hk4 om)∘Jp 2∘Jd6∘Jq) fun a Z I => ?_
      replace Z := Z.sp 73 (.slice p.tA p.ts.length p.tc) rfl (by rw [hgpt])
      have Z := Z.sp 171 (.bool false) rfl (rfl)
      exact ⟨Z.sub kr, I.pt 6 [0, 1, 2, 3, 4, 5]⟩
     refine (Jv 13 [(171, .bool false)]∘Jd6∘Jq) fun a Z I => ?_
     replace Z := Z.sp 73 (.slice p.tA p.ts.length p.tc) rfl (by rw [hgpt])
     have Z := Z.sp 171 (.bool false) rfl (rfl)
     exact ⟨Z.sub kr, I.pt 6 [0, 1, 2, 3, 4, 5]⟩
    clear Z I; rintro a w28 ⟨Z, I⟩
    refine Jb Z I ((JF∘JS'∘JR∘JaK 1∘Jp 1∘Jd1∘Jq) fun a Z I => ?_)
    exact ⟨_, om, i + 1, by omega, rfl, Z.sub kr, I.pt 6 [2, 3, 4, 5]⟩
  intro a Z I
  have hd76 := of_decide_eq_false hb76
  refine Jb Z I ((JF∘JX∘JG∘JQ∘JP∘Jg 3 O3∘Jl∘Jp 1∘Jj∘JB) fun a Z I => ?_)
  refine qp (fun mS aS wS => ∃ (c : Nat), (c ≤ p.cl.length) ∧ mS = p.cl.length - c ∧ Fr aS 274 [] [(176, vI c), (175, vI p.cl.length), (76, .bool false), (75, vI i), (74, vI p.ts.length), (73, .slice p.tA p.ts.length p.tc), (64, vB o.kind), (15, vI ab), (61, .bool false), (59, .bool false), (14, vI 0), (13, vP g13 0), (12, vI ((doS s o).2.2)), (11, vI ((doS s o).2.1)), (10, vP g10 0), (44, .bool true), (43, vI k), (42, vI ((qb l 80).length : Nat)), (41, vS gA41 ((qb l 80).length) c41), (7, vP g7 0), (34, .bool false), (5, vP gm 0), (4, .bool false)] ∧ Mem w wS (.blk g13 q.cells 42 :: .blk g10 o.cells 48 :: .row (vS gA41 ((qb l 80).length) c41) ((qb l 80).length) ((qb l 80).flatMap opL) 48 8 :: .blk g7 p.cells 42 :: (stF q ++ (stF p ++ (mdB gm y ++ ([])))))) (m := p.cl.length - 0) ⟨0, Nat.zero_le _, rfl, Z.sub kr, I.pt 4 [0, 1, 2, 3]⟩ ?_
  clear Z I; rintro mS a w_ ⟨c, hzc, rfl, Z, I⟩
  refine Jb Z I ((JP∘Jp 1∘Jj∘JQ) (Ju (fun hb177 => ?_) fun hb177 => ?_))
  ·
   intro a Z I
   have hd177 := of_decide_eq_true hb177
   have hc1 : c < p.cl.length := by omega
   have hc2 : c < q.cl.length := by omega
   obtain ⟨gp, op, hgp, _⟩ := ((I.st2 4 rfl).l).qu (show 0 < p.cl.length by omega) de
   obtain ⟨gq, oq, hgq, _⟩ := ((I.st1 4 rfl).l).qu (show 0 < q.cl.length by omega) de
   obtain ⟨gpu, opu, hgpu, _⟩ := ((I.st2 4 rfl).u).qu (show 0 < p.cu.length by omega) de
   obtain ⟨gqu, oqu, hgqu, _⟩ := ((I.st1 4 rfl).u).qu (show 0 < q.cu.length by omega) de
   have hqc := hocl.cl c (by rw [← qc3 hp]; exact hc1)
   rw [← qc3 hp, ← qc3 hq] at hqc
   have hqu := hocl.cu c
   rw [← qj7 hp, ← qj7 hq] at hqu
   have hqb := hG'.sh.cls c (by rw [← qc3 hq]; exact hc2)
   rw [← qc3 hq] at hqb
   replace hqb : 0 ≤ q.cl.getD c 0 ∧ q.cl.getD c 0 ≤ 281474976710656 := of_decide_eq_true hqb
   refine Jb Z I ((JT∘JS'∘JQ∘JB∘JP∘Jp 2∘Jd1∘Jj) fun a Z I => ?_)
   refine qt (fun aS wS => Fr aS 274 [] [(21, .bool (decide (o.kind = 5 ∧ (c : Int) = o.cpu))), (20, vI c), (177, .bool true), (176, vI c), (175, vI p.cl.length), (76, .bool false), (75, vI i), (74, vI p.ts.length), (73, .slice p.tA p.ts.length p.tc), (64, vB o.kind), (15, vI ab), (61, .bool false), (59, .bool false), (14, vI 0), (13, vP g13 0), (12, vI ((doS s o).2.2)), (11, vI ((doS s o).2.1)), (10, vP g10 0), (44, .bool true), (43, vI k), (42, vI ((qb l 80).length : Nat)), (41, vS gA41 ((qb l 80).length) c41), (7, vP g7 0), (34, .bool false), (5, vP gm 0), (4, .bool false)] ∧ Mem w wS (.blk g13 q.cells 42 :: .blk g10 o.cells 48 :: .row (vS gA41 ((qb l 80).length) c41) ((qb l 80).length) ((qb l 80).flatMap opL) 48 8 :: .blk g7 p.cells 42 :: (stF q ++ (stF p ++ (mdB gm y ++ ([])))))) ?_ ?_
   ·
    refine qw ?_
    refine Jb Z I ((Jg 0 O1∘Jp 2) (Je (fun hd182 => ?_) fun hd182 => ?_))
    ·
     refine (Jp 1∘Jg 1 O1∘Jp 3∘Jd6∘Jq) fun a Z I => ?_
     have Z := Z.sp 21 (.bool (decide (o.kind = 5 ∧ (c : Int) = o.cpu))) rfl (congrArg Value.bool (by rw [Bool.eq_iff_iff]; simp; omega))
     exact ⟨Z.sub kr, I.pt 4 [0, 1, 2, 3]⟩
    refine (Jp 6∘Jd6∘Jq) fun a Z I => ?_
    have Z := Z.sp 21 (.bool (decide (o.kind = 5 ∧ (c : Int) = o.cpu))) rfl (congrArg Value.bool (by rw [Bool.eq_iff_iff]; simp; omega))
    exact ⟨Z.sub kr, I.pt 4 [0, 1, 2, 3]⟩
   clear Z I; rintro a w34 ⟨Z, I⟩
   refine Jb Z I ((JQ) fun a Z I => ?_)
   refine qt (fun aS wS => Fr aS 274 [] [(228, .bool false), (21, .bool (decide (o.kind = 5 ∧ (c : Int) = o.cpu))), (20, vI c), (177, .bool true), (176, vI c), (175, vI p.cl.length), (76, .bool false), (75, vI i), (74, vI p.ts.length), (73, .slice p.tA p.ts.length p.tc), (64, vB o.kind), (15, vI ab), (61, .bool false), (59, .bool false), (14, vI 0), (13, vP g13 0), (12, vI ((doS s o).2.2)), (11, vI ((doS s o).2.1)), (10, vP g10 0), (44, .bool true), (43, vI k), (42, vI ((qb l 80).length : Nat)), (41, vS gA41 ((qb l 80).length) c41), (7, vP g7 0), (34, .bool false), (5, vP gm 0), (4, .bool false)] ∧ Mem w wS (.blk g13 q.cells 42 :: .blk g10 o.cells 48 :: .row (vS gA41 ((qb l 80).length) c41) ((qb l 80).length) ((qb l 80).flatMap opL) 48 8 :: .blk g7 p.cells 42 :: (stF q ++ (stF p ++ (mdB gm y ++ ([])))))) ?_ ?_
   ·
    refine Jb Z I ((Vs .n []) fun wd35 => (Vp [0]∘Vf 1 3∘Vc 2 O0∘Vl 3∘Vo (vI p.cl.length) (by rw [hlc])∘Vq [4] [(192, .bool (decide ((c : Int) ≥ (p.cl.length : Int))))]∘Vo (.bool false) (by simp; omega)∘Vp [5, 6, 7, 8]) fun a Z I HS => ?_)
    rcases Z.tf 196 rfl with ⟨hb196, Z⟩ | ⟨hb196, Z⟩
    ·
     have hd196 := of_decide_eq_false ((Bool.not_eq_true' _).mp hb196)
     refine Vb Z I HS ((Vf 9 3∘Vp [11]∘Vf 14 3∘Vp [16]∘Vc 10 O0∘Vo (.slice (some ⟨gq, oq, none⟩) q.cl.length q.lc) (by rw [hgq])∘Vy 12 (h:=by exact Yl.ix gq oq c 1 rfl rfl rfl)∘Vy 13 (v := vI (q.cl.getD c 0)) (h:=by exact Yl.qj rfl rfl kr (fun _ h => ((Mem.st1 4 h rfl).l.to hgq).qbf (k := c) (zm (F := I64i) (k := c) (x := (q.cl.getD c 0)) ((getD_at 0 hc2)))))∘Vc 15 O3∘Vo (.slice (some ⟨gp, op, none⟩) p.cl.length p.lc) (by rw [hgp])∘Vy 17 (h:=by exact Yl.ix gp op c 1 rfl rfl rfl)∘Vy 18 (v := vI (p.cl.getD c 0)) (h:=by exact Yl.qj rfl rfl kr (fun _ h => ((Mem.st2 4 h rfl).l.to hgp).qbf (k := c) (zm (F := I64i) (k := c) (x := (p.cl.getD c 0)) ((getD_at 0 hc1)))))∘Vq [19] [(207, .bool (((q.cl.getD c 0) : Int) != ((p.cl.getD c 0) : Int)))]∘Vo (.bool false) (by rw [hqc, if_neg om]; simp)∘Vp [20, 21, 22, 23, 24]) fun a Z I HS => ?_)
     rcases Z.tf 212 rfl with ⟨hb212, Z⟩ | ⟨hb212, Z⟩
     ·
      have hd212 := of_decide_eq_true hb212
      refine Vb Z I HS ((Vf 25 3∘Vp [27]∘Vf 30 3∘Vp [32]∘Vf 35 6∘Vc 26 O0∘Vo (.slice (some ⟨gq, oq, none⟩) q.cl.length q.lc) (by rw [hgq])∘Vy 28 (h:=by exact Yl.ix gq oq c 1 rfl rfl rfl)∘Vy 29 (v := vI (q.cl.getD c 0)) (h:=by exact Yl.qj rfl rfl kr (fun _ h => ((Mem.st1 4 h rfl).l.to hgq).qbf (k := c) (zm (F := I64i) (k := c) (x := (q.cl.getD c 0)) ((getD_at 0 hc2)))))∘Vc 31 O3∘Vo (.slice (some ⟨gp, op, none⟩) p.cl.length p.lc) (by rw [hgp])∘Vy 33 (h:=by exact Yl.ix gp op c 1 rfl rfl rfl)∘Vy 34 (v := vI (p.cl.getD c 0)) (h:=by exact Yl.qj rfl rfl kr (fun _ h => ((Mem.st2 4 h rfl).l.to hgp).qbf (k := c) (zm (F := I64i) (k := c) (x := (p.cl.getD c 0)) ((getD_at 0 hc1)))))∘Vc 36 O1∘Vp [37]∘Vo (vI ((p.cl.getD c 0) + o.ticks)) (by exact qdo ⟨by omega, by omega⟩)∘Vq [38] [(226, .bool (((q.cl.getD c 0) : Int) != ((p.cl.getD c 0) + o.ticks : Int)))]∘Vo (.bool false) (by rw [hqc, if_pos om]; simp)∘Vp [39, 40]∘Vd∘Jd6) fun a Z I => ?_)
      have Z := Z.sp 228 (.bool false) rfl (rfl)
      exact ⟨Z.sub kr, I.pt 4 [0, 1, 2, 3]⟩
     have hd212 := of_decide_eq_false hb212
     refine ap Z (fun _ => HS) [25, 26, 27, 28, 29, 30, 31, 32, 33, 34, 35, 36, 37, 38, 39, 40] (bt 41 []) [(228, .bool false)] fun a Z => ?_
     refine qd kr ?_
     have Z := Z.sp 228 (.bool false) rfl (rfl)
     exact ⟨Z.sub kr, I.pt 4 [0, 1, 2, 3]⟩
    have hd196 := of_decide_eq_true ((Bool.not_eq_false' _).mp hb196)
    refine ap Z (fun _ => HS) [9, 10, 11, 12, 13, 14, 15, 16, 17, 18, 19, 20, 21, 22, 23, 24] (bt 41 [25, 26, 27, 28, 29, 30, 31, 32, 33, 34, 35, 36, 37, 38, 39, 40]) [(212, .bool (decide (o.kind = 5 ∧ (c : Int) = o.cpu))), (210, .bool false)] fun a Z => ?_
    refine Jb Z I (Ji (fun hd212 => ?_) fun hd212 => ?_)
    ·
     intro a Z I
     refine ap Z (fun _ => HS) [25, 27, 30, 32, 35] (bt 41 [26, 28, 29, 31, 33, 34, 36, 37, 38, 39, 40]) [(223, vP g10 6), (220, vI c), (218, vP g7 3), (215, vI c), (213, vP g13 3)] fun a Z => ?_
     refine s_ac Z HS 26 0 (v := .slice q.lA q.cl.length q.lc) fun a Z => ?_
     replace Z := Z.sp 214 (.slice (some ⟨gq, oq, none⟩) q.cl.length q.lc) rfl (by rw [hgq])
     refine s_az Z HS 28 rfl (v := vP gq (oq + c * 1)) (Yl.ix gq oq c 1 rfl rfl rfl) fun a Z => ?_
     refine s_az Z HS 29 rfl (v := vI (q.cl.getD c 0)) (Yl.qj rfl rfl kr (fun _ h => ((Mem.st1 4 h rfl).l.to hgq).qbf (k := c) (zm (F := I64i) (k := c) (x := (q.cl.getD c 0)) ((getD_at 0 hc2))))) fun a Z => ?_
     refine s_ac Z HS 31 3 (v := .slice p.lA p.cl.length p.lc) fun a Z => ?_
     replace Z := Z.sp 219 (.slice (some ⟨gp, op, none⟩) p.cl.length p.lc) rfl (by rw [hgp])
     refine s_az Z HS 33 rfl (v := vP gp (op + c * 1)) (Yl.ix gp op c 1 rfl rfl rfl) fun a Z => ?_
     refine s_az Z HS 34 rfl (v := vI (p.cl.getD c 0)) (Yl.qj rfl rfl kr (fun _ h => ((Mem.st2 4 h rfl).l.to hgp).qbf (k := c) (zm (F := I64i) (k := c) (x := (p.cl.getD c 0)) ((getD_at 0 hc1))))) fun a Z => ?_
     refine s_ac Z HS 36 1 (v := vI o.ticks) fun a Z => ?_
     refine qah Z (fun _ => HS) (i := 37) rfl rfl (d := 225) rfl de kr (fun _ _ _ h => h) (v := vI (IntKind.i64.wrap ((p.cl.getD c 0) + o.ticks))) (fun _ => Yl.pure kr) fun a Z => ?_
     replace Z := Z.sp 225 (vI ((p.cl.getD c 0) + o.ticks)) rfl (qdo ⟨by omega, by omega⟩)
     refine qah Z (fun _ => HS) (i := 38) rfl rfl (d := 226) rfl de kr (fun _ _ _ h => h) (v := .bool (((q.cl.getD c 0) : Int) != ((p.cl.getD c 0) + o.ticks : Int))) (fun _ => Yl.pure kr) fun a Z => ?_
     replace Z := Z.sp 226 (.bool false) rfl (by rw [hqc, if_pos om]; simp)
     refine ap Z (fun _ => HS) [39, 40] (bt 41 []) [(228, .bool false)] fun a Z => ?_
     refine qd kr ?_
     have Z := Z.sp 228 (.bool false) rfl (rfl)
     exact ⟨Z.sub kr, I.pt 4 [0, 1, 2, 3]⟩
    intro a Z I
    refine ap Z (fun _ => HS) [25, 26, 27, 28, 29, 30, 31, 32, 33, 34, 35, 36, 37, 38, 39, 40] (bt 41 []) [(228, .bool false)] fun a Z => ?_
    refine qd kr ?_
    have Z := Z.sp 228 (.bool false) rfl (rfl)
    exact ⟨Z.sub kr, I.pt 4 [0, 1, 2, 3]⟩
   clear Z I; rintro a w35 ⟨Z, I⟩
   refine Jb Z I ((JF∘JS') fun a Z I => ?_)
   refine qt (fun aS wS => Fr aS 274 [] [(22, .bool (decide (o.kind = 6 ∨ o.kind = 3 ∨ o.kind = 4))), (228, .bool false), (21, .bool (decide (o.kind = 5 ∧ (c : Int) = o.cpu))), (20, vI c), (177, .bool true), (176, vI c), (175, vI p.cl.length), (76, .bool false), (75, vI i), (74, vI p.ts.length), (73, .slice p.tA p.ts.length p.tc), (64, vB o.kind), (15, vI ab), (61, .bool false), (59, .bool false), (14, vI 0), (13, vP g13 0), (12, vI ((doS s o).2.2)), (11, vI ((doS s o).2.1)), (10, vP g10 0), (44, .bool true), (43, vI k), (42, vI ((qb l 80).length : Nat)), (41, vS gA41 ((qb l 80).length) c41), (7, vP g7 0), (34, .bool false), (5, vP gm 0), (4, .bool false)] ∧ Mem w wS (.blk g13 q.cells 42 :: .blk g10 o.cells 48 :: .row (vS gA41 ((qb l 80).length) c41) ((qb l 80).length) ((qb l 80).flatMap opL) 48 8 :: .blk g7 p.cells 42 :: (stF q ++ (stF p ++ (mdB gm y ++ ([])))))) ?_ ?_
   ·
    refine qw ?_
    refine Jb Z I ((Jg 0 O1∘Jp 2) (Je (fun hd232 => ?_) fun hd232 => ?_))
    ·
     refine (Jv 10 [(22, .bool true)]∘Jd3∘Jq) fun a Z I => ?_
     have Z := Z.sp 22 (.bool (decide (o.kind = 6 ∨ o.kind = 3 ∨ o.kind = 4))) rfl (congrArg Value.bool (by rw [Bool.eq_iff_iff]; simp; omega))
     exact ⟨Z.sub kr, I.pt 4 [0, 1, 2, 3]⟩
    refine (Jg 0 O1∘Jp 3) (Je (fun hd237 => ?_) fun hd237 => ?_)
    ·
     refine (Jp 5∘Jd6∘Jq) fun a Z I => ?_
     have Z := Z.sp 22 (.bool (decide (o.kind = 6 ∨ o.kind = 3 ∨ o.kind = 4))) rfl (congrArg Value.bool (by rw [Bool.eq_iff_iff]; simp; omega))
     exact ⟨Z.sub kr, I.pt 4 [0, 1, 2, 3]⟩
    refine (Jg 0 O1∘Jp 3∘Jd6∘Jq) fun a Z I => ?_
    have Z := Z.sp 22 (.bool (decide (o.kind = 6 ∨ o.kind = 3 ∨ o.kind = 4))) rfl (congrArg Value.bool (by rw [Bool.eq_iff_iff]; simp; omega))
    exact ⟨Z.sub kr, I.pt 4 [0, 1, 2, 3]⟩
   clear Z I; rintro a w37 ⟨Z, I⟩
   refine qt (fun aS wS => Fr aS 274 [] [(269, .bool false), (22, .bool (decide (o.kind = 6 ∨ o.kind = 3 ∨ o.kind = 4))), (228, .bool false), (21, .bool (decide (o.kind = 5 ∧ (c : Int) = o.cpu))), (20, vI c), (177, .bool true), (176, vI c), (175, vI p.cl.length), (76, .bool false), (75, vI i), (74, vI p.ts.length), (73, .slice p.tA p.ts.length p.tc), (64, vB o.kind), (15, vI ab), (61, .bool false), (59, .bool false), (14, vI 0), (13, vP g13 0), (12, vI ((doS s o).2.2)), (11, vI ((doS s o).2.1)), (10, vP g10 0), (44, .bool true), (43, vI k), (42, vI ((qb l 80).length : Nat)), (41, vS gA41 ((qb l 80).length) c41), (7, vP g7 0), (34, .bool false), (5, vP gm 0), (4, .bool false)] ∧ Mem w wS (.blk g13 q.cells 42 :: .blk g10 o.cells 48 :: .row (vS gA41 ((qb l 80).length) c41) ((qb l 80).length) ((qb l 80).flatMap opL) 48 8 :: .blk g7 p.cells 42 :: (stF q ++ (stF p ++ (mdB gm y ++ ([])))))) ?_ ?_
   ·
    refine Jb Z I ((Vs .n []) fun wd38 => (Vp [0]∘Vf 1 4∘Vc 2 O0∘Vl 3∘Vo (vI p.cl.length) (by rw [hlu])∘Vq [4] [(246, .bool (decide ((c : Int) ≥ (p.cl.length : Int))))]∘Vo (.bool false) (by simp; omega)∘Vp [5, 6, 7]) fun a Z I HS => ?_)
    rcases Z.tf 249 rfl with ⟨hb249, Z⟩ | ⟨hb249, Z⟩
    ·
     have hd249 := of_decide_eq_true hb249
     refine Vb Z I HS ((Vp [8]∘Vf 9 1∘Vc 10 O1∘Vp [11, 12, 13, 14]) fun a Z I HS => ?_)
     rcases Z.tf 256 rfl with ⟨hb256, Z⟩ | ⟨hb256, Z⟩
     ·
      have hd256 := hb256
      simp at hd256
      refine Vb Z I HS ((Vf 15 4∘Vp [17]∘Vf 20 4∘Vp [22]∘Vc 16 O0∘Vo (.slice (some ⟨gqu, oqu, none⟩) q.cu.length q.uc) (by rw [hgqu])∘Vy 18 (h:=by exact Yl.ix gqu oqu c 1 rfl rfl rfl)∘Vy 19 (v := vI (q.cu.getD c 0)) (h:=by exact Yl.qj rfl rfl kr (fun _ h => ((Mem.st1 4 h rfl).u.to hgqu).qbf (k := c) (zm (F := I64i) (k := c) (x := (q.cu.getD c 0)) ((getD_at 0 om)))))∘Vc 21 O3∘Vo (.slice (some ⟨gpu, opu, none⟩) p.cu.length p.uc) (by rw [hgpu])∘Vy 23 (h:=by exact Yl.ix gpu opu c 1 rfl rfl rfl)∘Vy 24 (v := vI (p.cu.getD c 0)) (h:=by exact Yl.qj rfl rfl kr (fun _ h => ((Mem.st2 4 h rfl).u.to hgpu).qbf (k := c) (zm (F := I64i) (k := c) (x := (p.cu.getD c 0)) ((getD_at 0 om)))))∘Vq [25] [(267, .bool (((q.cu.getD c 0) : Int) != ((p.cu.getD c 0) : Int)))]∘Vo (.bool false) (by rw [hqu om]; simp)∘Vp [26, 27]∘Vd∘Jd6) fun a Z I => ?_)
      have Z := Z.sp 269 (.bool false) rfl (rfl)
      exact ⟨Z.sub kr, I.pt 4 [0, 1, 2, 3]⟩
     refine ap Z (fun _ => HS) [15, 16, 17, 18, 19, 20, 21, 22, 23, 24, 25, 26, 27] (bt 28 []) [(269, .bool false)] fun a Z => ?_
     refine qd kr ?_
     have Z := Z.sp 269 (.bool false) rfl (rfl)
     exact ⟨Z.sub kr, I.pt 4 [0, 1, 2, 3]⟩
    have hd249 := of_decide_eq_false hb249
    refine ap Z (fun _ => HS) [8, 9, 10, 11, 12, 13, 14, 15, 17, 20, 22] (bt 28 [16, 18, 19, 21, 23, 24, 25, 26, 27]) [(264, vI c), (262, vP g7 4), (259, vI c), (257, vP g13 4), (256, .bool true)] fun a Z => ?_
    refine s_ac Z HS 16 0 (v := .slice q.uA q.cu.length q.uc) fun a Z => ?_
    replace Z := Z.sp 258 (.slice (some ⟨gqu, oqu, none⟩) q.cu.length q.uc) rfl (by rw [hgqu])
    refine s_az Z HS 18 rfl (v := vP gqu (oqu + c * 1)) (Yl.ix gqu oqu c 1 rfl rfl rfl) fun a Z => ?_
    refine s_az Z HS 19 rfl (v := vI (q.cu.getD c 0)) (Yl.qj rfl rfl kr (fun _ h => ((Mem.st1 4 h rfl).u.to hgqu).qbf (k := c) (zm (F := I64i) (k := c) (x := (q.cu.getD c 0)) ((getD_at 0 om))))) fun a Z => ?_
    refine s_ac Z HS 21 3 (v := .slice p.uA p.cu.length p.uc) fun a Z => ?_
    replace Z := Z.sp 263 (.slice (some ⟨gpu, opu, none⟩) p.cu.length p.uc) rfl (by rw [hgpu])
    refine s_az Z HS 23 rfl (v := vP gpu (opu + c * 1)) (Yl.ix gpu opu c 1 rfl rfl rfl) fun a Z => ?_
    refine s_az Z HS 24 rfl (v := vI (p.cu.getD c 0)) (Yl.qj rfl rfl kr (fun _ h => ((Mem.st2 4 h rfl).u.to hgpu).qbf (k := c) (zm (F := I64i) (k := c) (x := (p.cu.getD c 0)) ((getD_at 0 om))))) fun a Z => ?_
    refine qah Z (fun _ => HS) (i := 25) rfl rfl (d := 267) rfl de kr (fun _ _ _ h => h) (v := .bool (((q.cu.getD c 0) : Int) != ((p.cu.getD c 0) : Int))) (fun _ => Yl.pure kr) fun a Z => ?_
    replace Z := Z.sp 267 (.bool false) rfl (by rw [hqu om]; simp)
    refine ap Z (fun _ => HS) [26, 27] (bt 28 []) [(269, .bool false)] fun a Z => ?_
    refine qd kr ?_
    have Z := Z.sp 269 (.bool false) rfl (rfl)
    exact ⟨Z.sub kr, I.pt 4 [0, 1, 2, 3]⟩
   clear Z I; rintro a w38 ⟨Z, I⟩
   refine Jb Z I ((JF∘JS'∘JR∘JaK 1∘Jp 1∘Jd1∘Jq) fun a Z I => ?_)
   exact ⟨_, om, c + 1, by omega, rfl, Z.sub kr, I.pt 4 [0, 1, 2, 3]⟩
  intro a Z I
  have hd177 := of_decide_eq_false hb177
  refine Jb Z I ((JF∘JX∘JG∘JR∘Jy (v := .agg q.cells) (h:=by exact Yl.loadS rfl rfl si_st rfl (fun _ h => qa (h.blk (i := 0) rfl)))∘JV si_st O3' (h1:=by exact qf4 q)) fun w41_1 => (Jt1∘Jq) fun a Z I => ?_)
  replace I := (show Mem w _ (.blk g13 q.cells 42 :: .blk g10 o.cells 48 :: .row (vS gA41 ((qb l 80).length) c41) ((qb l 80).length) ((qb l 80).flatMap opL) 48 8 :: .blk g7 q.cells 42 :: (stF q ++ (mdB gm y ++ ([])))) from Mem.dropT (A := stF p) 4 (show Mem w _ (.blk g13 q.cells 42 :: .blk g10 o.cells 48 :: .row (vS gA41 ((qb l 80).length) c41) ((qb l 80).length) ((qb l 80).flatMap opL) 48 8 :: .blk g7 q.cells 42 :: (stF p ++ (stF q ++ (mdB gm y ++ ([]))))) from Mem.swapT (A := stF q) (B := stF p) 4 I rfl) rfl)
  refine Jb Z I ((JG∘JR∘JaK 1∘Jp 1∘Jd1∘Jq) fun a Z I => ?_)
  exact ⟨_, om, k + 1, y, q, (doS s o).1, by omega, hy, hq, hG', rfl, Z.sub kr, I.pt 4 [2, 3]⟩
 intro a Z I
 have hd44 := of_decide_eq_false hb44
 exact Jb Z I ((JF∘JX∘JG∘JP∘JI (h:=by exact fun I => qi2 _)) fun w273 hbw => (Jp 1∘Jd1∘Jj∘JZ) JY1)
end Go.Proofs.Ytannicghedpdpaa
