/- Parts. -/
import Derived.Test.YtcajpeiobkcliaaGreatDoorQpChv
import Derived.Test.YtcajpeiobkcliaaGreatDoorQpZ1
set_option linter.all false
set_option maxRecDepth 100000
set_option maxHeartbeats 1000000
namespace Go.Proofs.YtcajpeiobkcliaaGreatDoor
open Go.RowKit
theorem lapp {α : Type} {a b : List α} {n : Nat} (h : b.length = n) : a.length + n = (a ++ b).length := by rw [List.length_append, h]
section
variable {s : Sta} {c g : Nat}
theorem qpc {f : Nat} (hp : ∀ i, 0 < i → i ≤ g → ParB s.gs i) (h : g ≤ f) : qb1 s c f g = qb1 s c g g := by
 have key : ∀ (g f f' : Nat), (∀ i, 0 < i → i ≤ g → ParB s.gs i) → g ≤ f → g ≤ f' → qb1 s c f g = qb1 s c f' g := by
  intro g
  induction g using Nat.strongRecOn with
  | _ g ih =>
   intro f f' hp h1 h2
   by_cases h0 : g = 0
   ·subst h0
    cases f <;> cases f' <;> simp [qb1]
   ·obtain ⟨f, rfl⟩ : ∃ k, f = k + 1 := ⟨f - 1, by omega⟩
    obtain ⟨f', rfl⟩ : ∃ k, f' = k + 1 := ⟨f' - 1, by omega⟩
    have hg := hp g om (Nat.le_refl _)
    unfold ParB at hg
    simp only [qb1, if_neg h0]
    have e : (s.par g).toNat < g := by show (s.gs.getD g Gr.zero).parent.toNat < g; omega
    rw [ih (s.par g).toNat e f f' (fun i hi hl => hp i hi om) om om]
 exact key g f g hp h (Nat.le_refl _)
theorem qii (hp : ∀ i, 0 < i → i ≤ g → ParB s.gs i) (h0 : 0 < g) (hm : memS s g c = []) : zi s g c = g :: zi s (s.gs.getD g Gr.zero).parent.toNat c := by
 obtain ⟨k, rfl⟩ : ∃ k, g = k + 1 := ⟨g - 1, by omega⟩
 have hg := hp (k + 1) h0 (Nat.le_refl _)
 unfold ParB at hg
 show qb1 s c (k + 1) (k + 1) = _
 rw [qb1, if_neg om, if_pos (by rw [hm]; rfl)]
 show (k + 1) :: qb1 s c k (s.gs.getD (k + 1) Gr.zero).parent.toNat = _
 rw [qpc (fun i hi hl => hp i hi om) om]
 rfl
theorem qpd : zi s 0 c = [] := rfl
theorem qij (hm : memS s g c ≠ []) : zi s g c = [] := by
 cases g with
 | zero => rfl
 | succ k =>
  show qb1 s c (k + 1) (k + 1) = _
  rw [qb1, if_neg om, if_neg (by simpa using hm)]
theorem qj1 (hp : ∀ i, 0 < i → i ≤ g → ParB s.gs i) : ∀ h ∈ zi s g c, 0 < h ∧ h ≤ g ∧ memS s h c = [] := by
 induction g using Nat.strongRecOn with
 | _ g ih =>
  intro h hh
  rcases Nat.eq_zero_or_pos g with h0 | h0
  ·subst h0; cases hh
  ·by_cases hm : memS s g c = []
   ·rw [qii hp h0 hm] at hh
    have hg := hp g h0 (Nat.le_refl _)
    unfold ParB at hg
    rcases List.mem_cons.1 hh with rfl | hh
    ·exact ⟨h0, Nat.le_refl _, hm⟩
    ·have := ih (s.gs.getD g Gr.zero).parent.toNat om (fun i hi hl => hp i hi om) h hh
     exact ⟨this.1, by omega, this.2.2⟩
   ·rw [qij hm] at hh; cases hh
theorem qq2 : ∀ (l : List Mb) (b : Mb), bestM b l = b ∨ bestM b l ∈ l
 | [], b => .inl rfl
 | m :: r, b => by
  show bestM (if m.lt b then m else b) r = b ∨ bestM (if m.lt b then m else b) r ∈ m :: r
  rcases qq2 r (if m.lt b then m else b) with h | h
  ·rw [h]
   split
   ·exact .inr (List.mem_cons_self ..)
   ·exact .inl rfl
  ·exact .inr (List.mem_cons_of_mem _ h)
theorem q0y {l : List Mb} (hn : l ≠ []) (ht : ∀ m ∈ l, m.lt topM = true) : bestM topM l ∈ l := by
 cases l with
 | nil => exact absurd rfl hn
 | cons m r =>
  show bestM (if m.lt topM then m else topM) r ∈ m :: r
  rw [if_pos (ht m (List.mem_cons_self ..))]
  rcases qq2 r m with h | h
  ·rw [h]; exact List.mem_cons_self ..
  ·exact List.mem_cons_of_mem _ h
theorem qec {m : Mb} (hm : m ∈ memS s g c) : (∃ t ∈ s.ts, t.here g c = true ∧ m = ⟨t.v, 0, t.id.toNat⟩) ∨ (∃ h, g < h ∧ h < s.sp.length ∧ s.par h = g ∧ memS s h c ≠ [] ∧ m = ⟨(s.spot h c).v, 1, h⟩) := by
 rw [qk1] at hm
 rcases List.mem_append.1 hm with h | h
 ·obtain ⟨t, ht, h1⟩ := List.mem_filterMap.1 h
  unfold tkM at h1
  split at h1
  ·rename_i hh; injection h1 with h1; exact .inl ⟨t, ht, hh, h1.symm⟩
  ·cases h1
 ·obtain ⟨k, hk, h1⟩ := List.mem_filterMap.1 h
  unfold grpM at h1
  split at h1
  ·rename_i hh
   injection h1 with h1
   obtain ⟨i, hi, hik⟩ := List.getElem_of_mem hk
   rw [List.getElem_drop, List.getElem_range] at hik
   have hlen : i < s.sp.length - (g + 1) := by simpa using hi
   exact .inr ⟨k, by omega, by omega, hh.1, hh.2, h1.symm⟩
  ·cases h1
theorem qdc (hok : s.Ok) (g c : Nat) : (s.spot g c).Ok := by
 unfold Sta.spot
 rcases Nat.lt_or_ge g s.sp.length with h | h
 ·rcases Nat.lt_or_ge c (s.sp.getD g []).length with h2 | h2
  ·exact hok.sp _ (qg [] h) _ (qg Sp.zero h2)
  ·rw [List.getD_eq_getElem?_getD (l := s.sp.getD g []), List.getElem?_eq_none h2]
   exact ⟨by decide, by decide, by decide⟩
 ·rw [List.getD_eq_getElem?_getD (l := s.sp), List.getElem?_eq_none h]
  have e : (Option.none.getD ([] : List Sp)).getD c Sp.zero = Sp.zero := rfl
  rw [e]
  exact ⟨by decide, by decide, by decide⟩
theorem q0z (hok : s.Ok) : ∀ m ∈ memS s g c, m.lt topM = true := by
 intro m hm
 unfold Mb.lt
 rw [decide_eq_true_eq]
 show m.v < 18446744073709551615 ∨ m.v = 18446744073709551615 ∧ (m.k < 18446744073709551615 ∨ _)
 rcases qec hm with ⟨t, ht, _, rfl⟩ | ⟨h, _, _, _, _, rfl⟩
 ·have := (hok.ts t ht).v
  show t.v < _ ∨ t.v = _ ∧ (0 < _ ∨ _)
  omega
 ·have := (qdc hok h c).v
  show (s.spot h c).v < _ ∨ (s.spot h c).v = _ ∧ (1 < _ ∨ _)
  omega
theorem qpe (hok : s.Ok) (hn : memS s g c ≠ []) : bestM topM (memS s g c) ∈ memS s g c := q0y hn (q0z hok)
theorem qed (hok : s.Ok) (hn : memS s g c ≠ []) : ((bestM topM (memS s g c)).k = 0 ∧ ∃ t ∈ s.ts, t.here g c = true ∧ bestM topM (memS s g c) = ⟨t.v, 0, t.id.toNat⟩) ∨ ((bestM topM (memS s g c)).k = 1 ∧ ∃ h, (bestM topM (memS s g c)).id = h ∧ g < h ∧ h < s.sp.length ∧ s.par h = g ∧ memS s h c ≠ [] ∧ (bestM topM (memS s g c)).v = (s.spot h c).v) := by
 rcases qec (qpe hok hn) with ⟨t, ht, h1, h2⟩ | ⟨h, h1, h2, h3, h4, h5⟩
 ·exact .inl ⟨by rw [h2], t, ht, h1, h2⟩
 ·exact .inr ⟨by rw [h5], h, by rw [h5], h1, h2, h3, h4, by rw [h5]⟩
theorem qpf (hok : s.Ok) : ∀ (n f f' g : Nat), g < s.sp.length → s.sp.length - g ≤ n → n ≤ f → n ≤ f' → qem s c f g = qem s c f' g := by
 intro n
 induction n with
 | zero => intro f f' g hg hn; omega
 | succ n ih =>
  intro f f' g hg hn h1 h2
  obtain ⟨f, rfl⟩ : ∃ k, f = k + 1 := ⟨f - 1, by omega⟩
  obtain ⟨f', rfl⟩ : ∃ k, f' = k + 1 := ⟨f' - 1, by omega⟩
  rw [qem, qem]
  by_cases hm : memS s g c = []
  ·rw [if_pos (by rw [hm]; rfl), if_pos (by rw [hm]; rfl)]
  ·have hi : ¬ ((memS s g c).isEmpty = true) := by simpa using hm
   rw [if_neg hi, if_neg hi]
   rcases qed hok hm with ⟨h, _⟩ | ⟨h, k, h3, h4, h5, _⟩
   ·rw [if_pos h, if_pos h]
   ·rw [if_neg om, if_neg om, h3]
    exact ih f f' k h5 om om om
def qdv (s : Sta) (c g : Nat) : Nat := qem s c (s.sp.length - g) g
theorem qws : qag s c = qdv s c 0 := rfl
theorem qik (hg : g < s.sp.length) (hm : memS s g c = []) : qdv s c g = 0 := by
 unfold qdv
 obtain ⟨k, hk⟩ : ∃ k, s.sp.length - g = k + 1 := ⟨s.sp.length - g - 1, by omega⟩
 rw [hk, qem, if_pos (by rw [hm]; rfl)]
theorem qil (hg : g < s.sp.length) (hm : memS s g c ≠ []) (h0 : (bestM topM (memS s g c)).k = 0) : qdv s c g = (bestM topM (memS s g c)).id := by
 unfold qdv
 obtain ⟨k, hk⟩ : ∃ k, s.sp.length - g = k + 1 := ⟨s.sp.length - g - 1, by omega⟩
 rw [hk, qem, if_neg (by simpa using hm), if_pos h0]
theorem qim (hok : s.Ok) (hg : g < s.sp.length) (hm : memS s g c ≠ []) (h0 : (bestM topM (memS s g c)).k ≠ 0) : qdv s c g = qdv s c (bestM topM (memS s g c)).id ∧ g < (bestM topM (memS s g c)).id ∧ (bestM topM (memS s g c)).id < s.sp.length := by
 rcases qed hok hm with ⟨h, _⟩ | ⟨h, j, h3, h4, h5, _⟩
 ·exact absurd h h0
 ·rw [h3]
  refine ⟨?_, h4, h5⟩
  unfold qdv
  obtain ⟨k, hk⟩ : ∃ k, s.sp.length - g = k + 1 := ⟨s.sp.length - g - 1, by omega⟩
  rw [hk, qem, if_neg (by simpa using hm), if_neg h0, h3]
  exact qpf hok (s.sp.length - j) _ _ j h5 (Nat.le_refl _) om (Nat.le_refl _)
def loadN (l : List Tk) (c : Nat) : Int := (l.map fun t => if t.ready && decide (t.cpu = (c : Int)) then t.weight else (0 : Int)).sum
theorem qth {l : List Tk} {k : Nat} (h : k < l.length) : loadN (l.take (k + 1)) c = loadN (l.take k) c + (if (l.getD k Tk.zero).ready && decide ((l.getD k Tk.zero).cpu = (c : Int)) then (l.getD k Tk.zero).weight else (0 : Int)) := by
 unfold loadN
 rw [qfn Tk.zero h, List.map_append, List.sum_append]
 simp
theorem qin {l : List Tk} (hw : ∀ t ∈ l, 1 ≤ t.weight ∧ t.weight ≤ 65536) : 0 ≤ loadN l c ∧ loadN l c ≤ 65536 * l.length := by
 induction l with
 | nil => exact ⟨Int.le_refl _, Int.le_refl _⟩
 | cons t r ih =>
  have h1 := ih fun x hx => hw x (List.mem_cons_of_mem _ hx)
  have h2 := hw t (List.mem_cons_self ..)
  have e : loadN (t :: r) c = (if t.ready && decide (t.cpu = (c : Int)) then t.weight else (0 : Int)) + loadN r c := rfl
  rw [e, List.length_cons]
  split <;> omega
theorem qj2 {l : List Tk} (hw : ∀ t ∈ l, 1 ≤ t.weight ∧ t.weight ≤ 65536) (k : Nat) : 0 ≤ loadN (l.take k) c ∧ loadN (l.take k) c ≤ 65536 * l.length := by
 have h1 := qin (c := c) (l := l.take k) fun t ht => hw t (List.mem_of_mem_take ht)
 rw [List.length_take] at h1
 have : min k l.length ≤ l.length := Nat.min_le_right ..
 omega
theorem qti {l : List Nat} {k : Nat} (h : k < l.length) : wakeS s (l.take (k + 1)) c = wake1 c (wakeS s (l.take k) c) (l.getD k 0) := by
 unfold wakeS
 rw [qfn 0 h, List.foldl_append]
 rfl
end
def SpsOk (gs : List Gr) (cp : Int) (rs : List Rw) : Prop := ∀ g, g < rs.length → ((rs.getD g Rw.zero).l.length : Int) = cp ∧ ∀ z ∈ (rs.getD g Rw.zero).l, z.Ok ∧ entOk z.v z.r (gs.getD g Gr.zero).weight = true
section
variable {x : Stm} {ng nl nu nt ns g c : Nat}
theorem MdOk.spots (h : MdOk x ng nl nu nt ns) : SpsOk x.gs x.cpus x.rs := fun g hg => by
 have h1 := qh9 hg (h.sh.row g hg)
 refine ⟨h1.1, fun z hz => ?_⟩
 obtain ⟨c, hc, rfl⟩ := List.getElem_of_mem hz
 have e : (x.rs.getD g Rw.zero).l.getD c Sp.zero = (x.rs.getD g Rw.zero).l[c] := by rw [List.getD_eq_getElem?_getD, List.getElem?_eq_getElem hc]; rfl
 refine ⟨h.ok.sp _ (by rw [← rs_at hg]; exact qg [] (by rw [zo]; exact hg)) _ (List.getElem_mem hc), ?_⟩
 have h2 := h1.2 c hc
 rw [e] at h2
 unfold spOk at h2
 rw [Bool.and_eq_true] at h2
 exact h2.1
theorem SpsOk.put {gs : List Gr} {cp : Int} {rs : List Rw} (h : SpsOk gs cp rs) (z : Sp) (hz : z.Ok) (he : entOk z.v z.r (gs.getD g Gr.zero).weight = true) : SpsOk gs cp (rsPut rs g c z) := fun k hk => by
 rw [q6] at hk
 by_cases hg : g = k
 ·subst hg
  rw [qeb hk]
  refine ⟨by show (((rs.getD g Rw.zero).l.set c z).length : Int) = cp; rw [List.length_set]; exact (h g hk).1, fun y hy => ?_⟩
  rcases List.mem_or_eq_of_mem_set hy with h1 | rfl
  ·exact (h g hk).2 y h1
  ·exact ⟨hz, he⟩
 ·rw [qfs hg]; exact h k hk
theorem qpg {z : Sp} (hg : g < x.rs.length) : ({ x with rs := rsPut x.rs g c z } : Stm).sta = x.sta.qjb g c z := by
 unfold Stm.sta Sta.qjb
 simp only [q42 hg]
theorem qcm {yA : Option Addr} {yc : Nat} {yl : List Sp} {z : Sp} (hg : g < x.rs.length) (hy : x.rs.getD g Rw.zero = ⟨yA, yc, yl⟩) (hz : yl[c]? = some z) : x.sta.spot g c = z := by
 rw [qo4 hg, hy, List.getD_eq_getElem?_getD, hz]
 rfl
theorem qq3 {rs : List Rw} {yA : Option Addr} {yc : Nat} {yl : List Sp} {z : Sp} (hg : g < rs.length) (hy : rs.getD g Rw.zero = ⟨yA, yc, yl⟩) : (rsPut rs g c z).getD g Rw.zero = ⟨yA, yc, yl.set c z⟩ := by rw [qeb hg, hy]
theorem qwt {p wt : Nat} {z pz : Sp} {yA pA : Option Addr} {yc pc : Nat} {yl pl : List Sp} {e : En} (hg : g < x.rs.length) (hy : x.rs.getD g Rw.zero = ⟨yA, yc, yl⟩) (hz : yl[c]? = some z) (hp : (x.gs.getD g Gr.zero).parent = (p : Int)) (hpl : p < x.rs.length) (hpy : x.rs.getD p Rw.zero = ⟨pA, pc, pl⟩) (hpz : pl[c]? = some pz) (hw : (x.gs.getD g Gr.zero).weight = (wt : Int)) (he : (⟨z.v, z.r, wt⟩ : En).woken pz.floor x.credit = e) :
  ({ x with rs := rsPut x.rs g c { z with v := e.v, r := e.r } } : Stm).sta = wake1 c x.sta g := by
 rw [qpg hg]
 unfold wake1 Sta.qjc
 have e1 : x.sta.spEn g c = ⟨z.v, z.r, wt⟩ := by
  unfold Sta.spEn
  rw [qcm hg hy hz, show (x.sta.gs.getD g Gr.zero).weight = (wt : Int) from hw]
  rfl
 have e2 : (x.sta.par g).toNat = p := by rw [show x.sta.par g = (p : Int) from hp]; rfl
 rw [e1, e2, qcm hg hy hz, qcm hpl hpy hpz, show x.sta.credit = x.credit from rfl, he]
theorem qph {wt d : Nat} {z : Sp} {yA : Option Addr} {yc : Nat} {yl : List Sp} {e : En} (hg : g < x.rs.length) (hy : x.rs.getD g Rw.zero = ⟨yA, yc, yl⟩) (hz : yl[c]? = some z) (hw : (x.gs.getD g Gr.zero).weight = (wt : Int)) (he : (⟨z.v, z.r, wt⟩ : En).add d = e) :
  ({ x with rs := rsPut x.rs g c { z with v := e.v, r := e.r } } : Stm).sta = x.sta.qjc g c ((x.sta.spEn g c).add d) := by
 rw [qpg hg]
 unfold Sta.qjc
 have e1 : x.sta.spEn g c = ⟨z.v, z.r, wt⟩ := by
  unfold Sta.spEn
  rw [qcm hg hy hz, show (x.sta.gs.getD g Gr.zero).weight = (wt : Int) from hw]
  rfl
 rw [e1, qcm hg hy hz, he]
theorem En.qsw {e : En} (h : e.Ok) (d : Nat) : (e.add d).Ok ∧ (e.add d).w = e.w := by
 have h1 : 1 ≤ e.w ∧ e.w ≤ 65536 ∧ e.r < e.w ∧ (e.v < 18446744073709551615 ∨ e.r = 0) := by
  have := h.1
  unfold entOk at this
  rw [decide_eq_true_eq] at this
  omega
 have hv := h.2
 have hm := Nat.mod_lt (d * 1048576 + e.r) (show e.w > 0 by omega)
 unfold En.add
 have hE : endV = 18446744073709551615 := rfl
 split
 ·refine ⟨⟨?_, by show endV < _; omega⟩, rfl⟩
  unfold entOk; rw [decide_eq_true_eq]
  exact ⟨by show (1 : Int) ≤ (e.w : Int); omega, by show (e.w : Int) ≤ _; omega, by show ((0 : Nat) : Int) < (e.w : Int); omega, .inr rfl⟩
 ·refine ⟨⟨?_, by show e.v + _ < _; omega⟩, rfl⟩
  unfold entOk; rw [decide_eq_true_eq]
  exact ⟨by show (1 : Int) ≤ (e.w : Int); omega, by show (e.w : Int) ≤ _; omega, by show (((d * 1048576 + e.r) % e.w : Nat) : Int) < (e.w : Int); omega, .inl (by show e.v + _ < _; omega)⟩
theorem En.qho {e : En} (h : e.Ok) (fl cr : Nat) (hf : fl < 18446744073709551616) : (e.woken fl cr).Ok ∧ (e.woken fl cr).w = e.w := by
 unfold En.woken
 split
 ·refine ⟨⟨?_, by show fl - cr < _; omega⟩, rfl⟩
  have h1 := h.1
  unfold entOk at h1 ⊢
  rw [decide_eq_true_eq] at h1 ⊢
  exact ⟨h1.1, h1.2.1, by show ((0 : Nat) : Int) < (e.w : Int); omega, .inr rfl⟩
 ·exact ⟨h, rfl⟩
theorem En.qsx {e : En} (h : e.Ok) (fr to : Nat) (hto : to < 18446744073709551616) : (e.moved fr to).Ok ∧ (e.moved fr to).w = e.w := by
 have h1 := h.1
 unfold entOk at h1
 rw [decide_eq_true_eq] at h1
 have hv := h.2
 have hE : endV = 18446744073709551615 := rfl
 have hm : qcv e.v fr to < 18446744073709551616 := by
  unfold qcv
  split
  ·have : min (e.v - fr) (endV - to) ≤ endV - to := Nat.min_le_right ..
   omega
  ·omega
 refine ⟨⟨?_, hm⟩, rfl⟩
 unfold entOk
 rw [decide_eq_true_eq]
 show (1 : Int) ≤ (e.w : Int) ∧ (e.w : Int) ≤ 65536 ∧ (((if qcv e.v fr to = endV then 0 else e.r : Nat) : Int)) < (e.w : Int) ∧ (qcv e.v fr to < 18446744073709551615 ∨ (if qcv e.v fr to = endV then 0 else e.r) = 0)
 split
 ·exact ⟨h1.1, h1.2.1, by omega, .inr rfl⟩
 ·exact ⟨h1.1, h1.2.1, h1.2.2.1, .inl om⟩
theorem qcx {l : List Gr} (h : gsOk l = true) (hg : g < l.length) : ∃ w : Nat, (l.getD g Gr.zero).weight = (w : Int) ∧ 1 ≤ w ∧ w ≤ 65536 := by
 have := wt_at h hg
 exact ⟨(l.getD g Gr.zero).weight.toNat, by omega, by omega, by omega⟩
end
theorem qj3 {s s' : Sta} {c : Nat} (ht : s.ts = s'.ts) (hg : s.gs = s'.gs) (hl : s.sp.length = s'.sp.length) (hv : ∀ h, (s.spot h c).v = (s'.spot h c).v) (g : Nat) : memS s g c = memS s' g c := by
 have key : ∀ f g, memF s c f g = memF s' c f g := by
  intro f
  induction f with
  | zero => intro g; show s.ts.filterMap _ = s'.ts.filterMap _; rw [ht]
  | succ f ih =>
   intro g
   rw [memF, memF, ht, hl]
   congr 1
   refine qbg fun h _ => ?_
   unfold grpM
   rw [ih h, hv h, show s.par h = s'.par h by unfold Sta.par; rw [hg]]
 unfold memS
 rw [hl]
 exact key _ g
section
variable {x : Stm} {ng nl nu nt ns g c h d : Nat} {rs2 : List Rw}
def Risen (x : Stm) (rs2 : List Rw) (g c : Nat) : Prop := rs2.length = x.rs.length ∧ (∀ h, (rs2.getD h Rw.zero).l.length = (x.rs.getD h Rw.zero).l.length) ∧ ∀ h d, h < x.rs.length → d < (x.rs.getD h Rw.zero).l.length → (rs2.getD h Rw.zero).l.getD d Sp.zero = if h < g ∨ h = g ∧ d < c then rise1 x.sta h d ((x.rs.getD h Rw.zero).l.getD d Sp.zero) else (x.rs.getD h Rw.zero).l.getD d Sp.zero
theorem qtj : Risen x x.rs 0 0 := ⟨rfl, fun _ => rfl, fun h d _ _ => by rw [if_neg om]⟩
theorem qwu (s : Sta) (g c : Nat) (z : Sp) : (rise1 s g c z).v = z.v ∧ (rise1 s g c z).r = z.r := by
 unfold rise1
 split <;> exact ⟨rfl, rfl⟩
theorem qq4 (y : Stm) (h d : Nat) : y.sta.spot h d = (y.rs.getD h Rw.zero).l.getD d Sp.zero := by
 rcases Nat.lt_or_ge h y.rs.length with h1 | h1
 ·exact qo4 h1
 ·unfold Sta.spot
  have e1 : y.sta.sp.getD h [] = [] := by rw [List.getD_eq_getElem?_getD, List.getElem?_eq_none (by rw [zo]; exact h1)]; rfl
  have e2 : y.rs.getD h Rw.zero = Rw.zero := by rw [List.getD_eq_getElem?_getD, List.getElem?_eq_none h1]; rfl
  rw [e1, e2]
  rfl
theorem q43 (hR : Risen x rs2 g c) (h d : Nat) : (({ x with rs := rs2 } : Stm).sta.spot h d).v = (x.sta.spot h d).v := by
 rw [qq4, qq4]
 show ((rs2.getD h Rw.zero).l.getD d Sp.zero).v = _
 rcases Nat.lt_or_ge h x.rs.length with h1 | h1
 ·rcases Nat.lt_or_ge d (x.rs.getD h Rw.zero).l.length with h2 | h2
  ·rw [hR.2.2 h d h1 h2]
   split
   ·exact (qwu ..).1
   ·rfl
  ·have h3 := hR.2.1 h
   rw [List.getD_eq_getElem?_getD, List.getElem?_eq_none om, List.getD_eq_getElem?_getD, List.getElem?_eq_none h2]
 ·have e1 : rs2.getD h Rw.zero = Rw.zero := by rw [List.getD_eq_getElem?_getD, List.getElem?_eq_none (by rw [hR.1]; exact h1)]; rfl
  have e2 : x.rs.getD h Rw.zero = Rw.zero := by rw [List.getD_eq_getElem?_getD, List.getElem?_eq_none h1]; rfl
  rw [e1, e2]
theorem qwv (hR : Risen x rs2 g c) (h d : Nat) : memS ({ x with rs := rs2 } : Stm).sta h d = memS x.sta h d :=
 qj3 (s := ({ x with rs := rs2 } : Stm).sta) (s' := x.sta) rfl rfl (by rw [zo, zo]; exact hR.1) (fun k => q43 hR k d) h
theorem qad {α : Type} {l : List α} {k : Nat} {u : α} (d : α) (h : l[k]? = some u) : l.getD k d = u := by rw [List.getD_eq_getElem?_getD, h]; rfl
theorem qtk (hR : Risen x rs2 g c) (hg : g < x.rs.length) (hc : c < (x.rs.getD g Rw.zero).l.length) {z z' : Sp} (hz : (rs2.getD g Rw.zero).l[c]? = some z) (hz' : rise1 x.sta g c z = z') : Risen x (rsPut rs2 g c z') g (c + 1) := by
 have h0 := hR.2.2 g c hg hc
 rw [if_neg om, qad Sp.zero hz] at h0
 refine ⟨by rw [q6]; exact hR.1, fun h => ?_, fun h d hh hd => ?_⟩
 ·by_cases e : g = h
  ·subst e
   rw [qeb (by rw [hR.1]; exact hg)]
   show ((rs2.getD g Rw.zero).l.set c z').length = _
   rw [List.length_set]; exact hR.2.1 g
  ·rw [qfs e]; exact hR.2.1 h
 ·by_cases e : g = h
  ·subst e
   rw [qeb (by rw [hR.1]; exact hg)]
   show ((rs2.getD g Rw.zero).l.set c z').getD d Sp.zero = _
   by_cases e2 : c = d
   ·subst e2
    rw [qj _ _ (by rw [hR.2.1 g]; exact hc), if_pos om, ← h0, hz']
   ·rw [getD_set_ne _ _ e2, hR.2.2 g d hh hd]
    by_cases e3 : d < c
    ·rw [if_pos om, if_pos om]
    ·rw [if_neg om, if_neg om]
  ·rw [qfs e, hR.2.2 h d hh hd]
   by_cases e3 : h < g
   ·rw [if_pos om, if_pos om]
   ·rw [if_neg om, if_neg om]
theorem qtl (hR : Risen x rs2 g c) (hm : memS x.sta g c = []) : Risen x rs2 g (c + 1) := by
 refine ⟨hR.1, hR.2.1, fun h d hh hd => ?_⟩
 rw [hR.2.2 h d hh hd]
 by_cases e : h < g ∨ h = g ∧ d < c
 ·rw [if_pos e, if_pos om]
 ·rw [if_neg e]
  by_cases e2 : h = g ∧ d = c
  ·rw [if_pos om, e2.1, e2.2]
   unfold rise1
   rw [if_pos (by rw [hm]; rfl)]
  ·rw [if_neg om]
theorem qww (hR : Risen x rs2 g c) (hc : (x.rs.getD g Rw.zero).l.length ≤ c) : Risen x rs2 (g + 1) 0 := by
 refine ⟨hR.1, hR.2.1, fun h d hh hd => ?_⟩
 rw [hR.2.2 h d hh hd]
 by_cases e : h < g ∨ h = g ∧ d < c
 ·rw [if_pos e, if_pos om]
 ·have : h ≠ g := fun e2 => e (by subst e2; exact .inr ⟨rfl, by omega⟩)
  rw [if_neg e, if_neg om]
theorem qwx (hR : Risen x rs2 g 0) (hg : x.rs.length ≤ g) : ({ x with rs := rs2 } : Stm).sta = riseS x.sta := by
 have h1 : rs2.map Rw.l = (x.rs.map Rw.l).mapIdx fun g l => l.mapIdx fun c z => rise1 x.sta g c z := by
  apply List.ext_getElem
  ·rw [List.length_map, List.length_mapIdx, List.length_map, hR.1]
  ·intro h h2 h3
   rw [List.length_map] at h2
   have hx : h < x.rs.length := by rw [← hR.1]; exact h2
   rw [List.getElem_map, List.getElem_mapIdx, List.getElem_map]
   have e1 : rs2.getD h Rw.zero = rs2[h] := by rw [List.getD_eq_getElem?_getD, List.getElem?_eq_getElem h2]; rfl
   have e2 : x.rs.getD h Rw.zero = x.rs[h] := by rw [List.getD_eq_getElem?_getD, List.getElem?_eq_getElem hx]; rfl
   have hl := hR.2.1 h
   rw [e1, e2] at hl
   apply List.ext_getElem
   ·rw [List.length_mapIdx, hl]
   ·intro d h4 h5
    have hd : d < x.rs[h].l.length := by rw [← hl]; exact h4
    rw [List.getElem_mapIdx]
    have h6 := hR.2.2 h d hx (by rw [e2]; exact hd)
    rw [if_pos om, e1, e2, List.getD_eq_getElem?_getD, List.getElem?_eq_getElem h4, List.getD_eq_getElem?_getD, List.getElem?_eq_getElem hd] at h6
    exact h6
 show (⟨x.cpus, x.credit, x.gs, x.cl, x.cu, x.ts, rs2.map Rw.l⟩ : Sta) = _
 rw [h1]
 rfl
theorem q44 (hf : StFew x) (z : Sp) : StFew ({ x with rs := rsPut x.rs g c z } : Stm) := by
 refine ⟨hf.g, hf.l, hf.u, hf.t, by show (rsPut x.rs g c z).length ≤ _; rw [q6]; exact hf.s, fun y hy => ?_⟩
 rcases Nat.lt_or_ge g x.rs.length with hg | hg
 ·rcases List.mem_or_eq_of_mem_set hy with h1 | rfl
  ·exact hf.r y h1
  ·show ((x.rs.getD g Rw.zero).l.set c z).length ≤ _
   rw [List.length_set]
   exact hf.r _ (qg Rw.zero hg)
 ·have e : rsPut x.rs g c z = x.rs := by unfold rsPut; exact List.set_eq_of_length_le hg
  have hy' : y ∈ rsPut x.rs g c z := hy
  rw [e] at hy'
  exact hf.r y hy'
theorem MdOk.put (h : MdOk x ng nl nu nt ns) (hg : g < x.rs.length) (z : Sp) (hz : z.Ok) (hs : spOk x.sta g z = true) : MdOk ({ x with rs := rsPut x.rs g c z } : Stm) ng nl nu nt ns := by
 have hst := qpg (x := x) (c := c) (z := z) hg
 have hspl : ({ x with rs := rsPut x.rs g c z } : Stm).sta.sp.length = x.sta.sp.length := by rw [zo, zo]; exact q6 ..
 refine ⟨⟨h.ok.cpus, h.ok.credit, h.ok.gs, h.ok.cl, h.ok.cu, h.ok.ts, fun l hl y hy => ?_⟩, q44 h.few z, ⟨h.sh.cfg, h.sh.cl, h.sh.cu, by show (rsPut x.rs g c z).length = _; rw [q6]; exact h.sh.rs, h.sh.cls, fun k hk => ?_, fun i hi => ?_⟩, ⟨h.ln.g, h.ln.l, h.ln.u, h.ln.t, by show (rsPut x.rs g c z).length = _; rw [q6]; exact h.ln.s⟩⟩
 ·rw [hst] at hl
  rcases List.mem_or_eq_of_mem_set (show l ∈ x.sta.sp.set g ((x.sta.sp.getD g []).set c z) from hl) with h1 | rfl
  ·exact h.ok.sp l h1 y hy
  ·rcases List.mem_or_eq_of_mem_set hy with h2 | rfl
   ·exact h.ok.sp _ (qg [] (by rw [zo]; exact hg)) y h2
   ·exact hz
 ·have hk' : k < x.rs.length := by have h1 : k < (rsPut x.rs g c z).length := hk; rwa [q6] at h1
  have h1 := qh9 hk' (h.sh.row k hk')
  refine qv4 hk ?_ fun d hd => ?_
  ·show (((rsPut x.rs g c z).getD k Rw.zero).l.length : Int) = x.cpus
   by_cases e2 : g = k
   ·subst e2
    rw [qeb hk']
    show (((x.rs.getD g Rw.zero).l.set c z).length : Int) = _
    rw [List.length_set]; exact h1.1
   ·rw [qfs e2]; exact h1.1
  ·have hd' : d < ((rsPut x.rs g c z).getD k Rw.zero).l.length := hd
   show spOk x.sta k (((rsPut x.rs g c z).getD k Rw.zero).l.getD d Sp.zero) = true
   by_cases e2 : g = k
   ·subst e2
    rw [qeb hk'] at hd' ⊢
    have hd2 : d < ((x.rs.getD g Rw.zero).l.set c z).length := hd'
    rw [List.length_set] at hd2
    show spOk x.sta g (((x.rs.getD g Rw.zero).l.set c z).getD d Sp.zero) = true
    by_cases e3 : c = d
    ·subst e3; rw [qj _ _ hd2]; exact hs
    ·rw [getD_set_ne _ _ e3]; exact h1.2 d hd2
   ·rw [qfs e2] at hd' ⊢; exact h1.2 d hd'
 ·have h1 := h.sh.tk i hi
  unfold tkAt tkOk1 at h1 ⊢
  rw [hspl]
  exact h1
end
theorem qg1 {v r w : Nat} (h : entOk v r w = true) : 1 ≤ w ∧ w ≤ 65536 ∧ r < w ∧ (v < 18446744073709551615 ∨ r = 0) := by
 unfold entOk at h
 rw [decide_eq_true_eq] at h
 omega
theorem q73 {v r w : Nat} (h : 1 ≤ w ∧ w ≤ 65536 ∧ r < w ∧ (v < 18446744073709551615 ∨ r = 0)) : entOk v r w = true := by
 unfold entOk
 rw [decide_eq_true_eq]
 omega
theorem qwy {fl z : Nat} (hf : fl < 18446744073709551616) (hz : 1 ≤ z ∧ z ≤ 65536) : (⟨fl, 0, z⟩ : En).Ok := ⟨q73 ⟨hz.1, hz.2, by show 0 < z; omega, .inr rfl⟩, hf⟩
theorem qcy (x : En) (hx : x.Ok) (w : World) : Calls Tryz.prog 124 #[.agg x.cells] w (Is w (.bool true)) := by
 have h1 := qg1 hx.1
 have h2 := qgj x.v x.r x.w hx.2 om om w
 rw [hx.1] at h2
 exact h2
theorem qtm (z : Nat) (hz : 1 ≤ z ∧ z ≤ 65536) (w : World) : Calls Tryz.prog 145 #[vI z] w (Is w (.bool true)) := by
 have h2 := qg0 z w
 rw [decide_eq_true om] at h2
 exact h2
theorem qwz (x : En) (hx : x.Ok) (d : Nat) (hd : d ≤ 4294967295) (w : World) :
    Calls Tryz.prog 144 #[.agg x.cells, vI d] w (Is w (.agg (x.add d).cells)) := by
 have hxo := qg1 hx.1
 have hxv := hx.2
 have hq1 := Nat.div_le_self (d * 1048576 + x.r) x.w
 have hq2 := Nat.mod_lt (d * 1048576 + x.r) (show x.w > 0 by omega)
 refine (JN2 Tryz.func144 42) ?_
 refine (JP∘JE) fun w2 g2 => (JA #[vQ 0, vW 0, vW 0]) fun w4 g4 => (Jr∘Jp 1∘Jw .u64∘Jp 1∘Jo (vQ (d * 1048576 : Nat)) (by exact qgf om om)∘Jg 1 O1∘Jw .u64∘Ja∘Jp 1∘Jd6∘Jj) fun a Z I => ?_
 refine wp_seq ?_
 refine Jb Z I ((Vs .n []) fun wd2 => (Vp [0]∘Vf 1 2∘Vp [5]∘Vf 6 2∘Vc 2 O1∘Vw 3 .u64∘Vy 4 (v := vQ ((d * 1048576 + x.r) / x.w : Nat)) (h:=by exact Yl.quoN (m := (d * 1048576 + x.r)) (n := x.w) rfl rfl rfl om (by show _ ≤ 18446744073709551615; omega))∘Vp [10]∘Vc 7 O1∘Vw 8 .u64∘Vy 9 (v := vQ ((d * 1048576 + x.r) % x.w : Nat)) (h:=by exact Yl.remN (m := (d * 1048576 + x.r)) (n := x.w) rfl rfl rfl om)∘Vp [11]∘Vd∘Jd3∘JQ∘JP∘Jp 1∘Jg 0 O1∘Jp 1∘Jo (vQ (18446744073709551615 - x.v : Nat)) (by exact qgf om om)∘Jp 1∘Jd3∘Jj) (Ji (fun hd29 => ?_) fun hd29 => ?_))
 ·
  refine (JT∘JP∘Jg 2 O1∘Jy (v := .agg #[vQ 18446744073709551615, vW 0, vW x.w]) (h:=by exact Yl.build (vs := [(0, vQ 18446744073709551615), (1, vW 0), (2, vW x.w)]) rfl kr kr)∘JV qk O0') fun w4_3 => (Jt2∘Jj∘JZ) fun a Z I => ?_
  exact ret1 rfl Z (.cellS (i := 0) Z I rfl rfl qk rfl) (⟨by rw [show x.add d = ⟨endV, 0, x.w⟩ from if_pos (by show 18446744073709551615 - x.v ≤ _; omega)]; rfl, I.below⟩)
 refine (JF∘JS'∘JP∘Jg 0 O1∘Jp 1∘Ja∘Jp 1∘Jv 1 [(38, vW (IntKind.u32.wrap (((d * 1048576 + x.r) % x.w : Nat) : Int)))]∘Jo (vW ((d * 1048576 + x.r) % x.w : Nat)) (by exact qcg rfl om)∘Jg 2 O1∘Jy (v := .agg #[vQ (x.v + ((d * 1048576 + x.r) / x.w) : Nat), vW ((d * 1048576 + x.r) % x.w : Nat), vW x.w]) (h:=by exact Yl.build (vs := [(0, vQ (x.v + ((d * 1048576 + x.r) / x.w) : Nat)), (1, vW ((d * 1048576 + x.r) % x.w : Nat)), (2, vW x.w)]) rfl kr kr)∘JV qk O0') fun w5_9 => (Jt6∘Jj∘JZ) fun a Z I => ?_
 exact ret1 rfl Z (.cellS (i := 0) Z I rfl rfl qk rfl) (⟨by rw [show x.add d = ⟨x.v + (d * 1048576 + x.r) / x.w, (d * 1048576 + x.r) % x.w, x.w⟩ from if_neg (by show ¬ 18446744073709551615 - x.v ≤ _; omega)]; rfl, I.below⟩)
theorem qtn (d : Int) (w : World) : Calls Tryz.prog 143 #[vI d] w (Is w (.bool (decide (0 ≤ d ∧ d ≤ 4294967295)))) := by
 refine (JN1 Tryz.func143 9) ?_
 refine (JP∘Jp 1∘Jr∘Jp 3) (Ji (fun hd5 => ?_) fun hd5 => ?_)
 ·
  exact (Jp 4∘Jd6∘Jj∘JZ∘Jz1) fun I => qh7 om I.below
 exact (Jp 4∘Jd6∘Jj∘JZ∘Jz1) fun I => is_no om I.below
theorem qto (d : Nat) (hd : d ≤ 4294967295) (w : World) : Calls Tryz.prog 143 #[vI d] w (Is w (.bool true)) := by
 have h2 := qtn d w
 rw [decide_eq_true om] at h2
 exact h2
theorem q00 (x : En) (hx : x.Ok) (d : Nat) (hd : d ≤ 4294967295) (w : World) :
    Calls Tryz.prog 114 #[.agg x.cells, vI d] w (Is w (.tuple #[.agg (x.add d).cells, vI 0])) := by
 refine (JN2 Tryz.func114 18) ?_
 refine (JP∘JE) fun w2 g2 => (JA #[vQ 0, vW 0, vW 0]) fun w4 g4 => (Jp 1∘Jj∘JQ∘JP∘Jy (v := .agg x.cells) (h:=by exact Yl.loadS rfl rfl qk rfl (fun _ h => qb (h.blk (i := 1) rfl)))∘JI (h:=by exact fun I => qcy x hx _)) fun w7 hbw => (Jp 3∘JI (h:=by exact fun I => qto d hd _)) fun w11 hbw => (Jp 2∘Jd6∘Jj∘JF∘JS'∘JP∘Jy (v := .agg x.cells) (h:=by exact Yl.loadS rfl rfl qk rfl (fun _ h => qb (h.blk (i := 1) rfl)))∘Jp 1∘JI (h:=by exact fun I => qwz x hx d hd _)) fun w17 hbw => (JV qk O0' (h1:=by exact zu (x.add d))) fun w3_3 => (Jp 1∘Jd3∘Jj∘JZ) fun a Z I => ?_
 exact ret2 rfl Z (.cellS (i := 0) Z I rfl rfl qk rfl) (.tmp Z rfl) (⟨rfl, I.below⟩)
theorem qcz (x : En) (hx : x.Ok) (z : Nat) (hz : 1 ≤ z ∧ z ≤ 65536) (w : World) :
    Calls Tryz.prog 116 #[.agg x.cells, vI z] w (Is w (.tuple #[.agg (⟨x.v, 0, z⟩ : En).cells, vI 0])) := by
 refine (JN2 Tryz.func116 20) ?_
 refine (JP∘JE) fun w2 g2 => (JA #[vQ 0, vW 0, vW 0]) fun w4 g4 => (Jp 1∘Jj∘JQ∘JP∘Jy (v := .agg x.cells) (h:=by exact Yl.loadS rfl rfl qk rfl (fun _ h => qb (h.blk (i := 1) rfl)))∘JI (h:=by exact fun I => qcy x hx _)) fun w7 hbw => (Jp 3∘JI (h:=by exact fun I => qtm z hz _)) fun w11 hbw => (Jp 2∘Jd6∘Jj∘JF∘JS'∘JP∘Jg 0 O1∘Jp 1∘Jv 1 [(18, vW (IntKind.u32.wrap (z : Int)))]∘Jo (vW z) (by exact qcg rfl om)∘Jy (v := .agg #[vQ x.v, vW 0, vW z]) (h:=by exact Yl.build (vs := [(0, vQ x.v), (1, vW 0), (2, vW z)]) rfl kr kr)∘JV qk O0') fun w3_5 => (Jp 1∘Jd4∘Jj∘JZ) fun a Z I => ?_
 exact ret2 rfl Z (.cellS (i := 0) Z I rfl rfl qk rfl) (.tmp Z rfl) (⟨rfl, I.below⟩)
theorem qq5 (a_ b_ : Nat) (ha : a_ < 18446744073709551616) (hb : b_ < 18446744073709551616) (w : World) :
    Calls Tryz.prog 142 #[vQ a_, vQ b_] w (Is w (vQ ((a_ - b_ : Nat) : Int))) := by
 refine (JN2 Tryz.func142 10) ?_
 exact (JP∘Jp 1∘Jr∘Jp 3∘Jy (v := vQ (if (b_ : Int) < (a_ : Int) then (b_ : Int) else (a_ : Int))) (h:=by exact Yl.min rfl rfl rfl)∘Jp 1∘Jo (vQ (a_ - b_ : Nat)) (by split <;> exact (qgf (m := a_ - b_) om om))∘Jp 1∘Jd5∘Jj∘JZ) JY1
theorem q45 (a_ b_ : Nat) (ha : a_ < 18446744073709551616) (hb : b_ < 18446744073709551616) (w : World) :
    Calls Tryz.prog 156 #[vQ a_, vQ b_] w (Is w (vQ ((a_ + min b_ (18446744073709551615 - a_) : Nat) : Int))) := by
 refine (JN2 Tryz.func156 11) ?_
 exact (JP∘Jp 1∘Jr∘Jp 4∘Jo (vQ (18446744073709551615 - a_ : Nat)) (by exact qgf om om)∘Jy (v := vQ (if ((18446744073709551615 - a_ : Nat) : Int) < (b_ : Int) then ((18446744073709551615 - a_ : Nat) : Int) else (b_ : Int))) (h:=by exact Yl.min rfl rfl rfl)∘Jo (vQ (min b_ (18446744073709551615 - a_) : Nat)) (by rw [Nat.min_def]; split <;> split <;> first | rfl | (congr 1; omega))∘Jp 1∘Jo (vQ (a_ + min b_ (18446744073709551615 - a_) : Nat)) (by exact qgf om om)∘Jp 1∘Jd6∘Jj∘JZ) JY1
theorem qq6 (fl z : Nat) (hf : fl < 18446744073709551616) (hz : 1 ≤ z ∧ z ≤ 65536) (w : World) :
    Calls Tryz.prog 105 #[vQ fl, vI z] w (Is w (.tuple #[.agg (⟨fl, 0, z⟩ : En).cells, vI 0])) := by
 refine (JN2 Tryz.func105 23) ?_
 refine (JP∘JA #[vQ 0, vW 0, vW 0]) fun w4 g4 => (Jp 1∘Jr∘Jp 2∘Jv 1 [(9, vW (IntKind.u32.wrap (z : Int)))]∘Jo (vW z) (by exact qcg rfl om)∘Jy (v := .agg #[vQ fl, vW 0, vW z]) (h:=by exact Yl.build (vs := [(0, vQ fl), (2, vW z)]) rfl kr kr)∘JA #[vQ 0, vW 0, vW 0]) fun w6 g6 => (JV qk O0') fun w1_5 => (Jd4∘Jj∘JQ∘JP∘Jg 2 O0∘Jw .i64∘Jp 2∘Jo (.bool false) (by simp)∘Jp 1∘Jy (v := .agg #[vQ fl, vW 0, vW z]) (h:=by exact Yl.loadS rfl rfl qk rfl (fun _ h => qb (h.blk (i := 0) rfl)))∘JI (h:=by exact fun I => qcy (⟨fl, 0, z⟩ : En) (qwy hf hz) _)) fun w18 hbw => (Jp 2∘Jd6∘Jj∘JF∘JS'∘JP∘Jy (v := .agg #[vQ fl, vW 0, vW z]) (h:=by exact Yl.loadS rfl rfl qk rfl (fun _ h => qb (h.blk (i := 0) rfl)))∘JV qk O1') fun w4_1 => (Jp 1∘Jd1∘Jj∘JZ) fun a Z I => ?_
 exact ret2 rfl Z (.cellS (i := 1) Z I rfl rfl qk rfl) (.tmp Z rfl) (⟨rfl, I.below⟩)
theorem qw0 (x : En) (hx : x.Ok) (fl cr : Nat) (hf : fl < 18446744073709551616) (hc : cr < 18446744073709551616) (w : World) :
    Calls Tryz.prog 111 #[.agg x.cells, vQ fl, vQ cr] w (Is w (.tuple #[.agg (x.woken fl cr).cells, vI 0])) := by
 have hxv := hx.2
 refine (JN3 Tryz.func111 25) ?_
 refine (JP∘JE) fun w3 g3 => (JA #[vQ 0, vW 0, vW 0]) fun w6 g6 => (Jp 1∘Jj∘JQ∘JP∘Jy (v := .agg x.cells) (h:=by exact Yl.loadS rfl rfl qk rfl (fun _ h => qb (h.blk (i := 1) rfl)))∘JI (h:=by exact fun I => qcy x hx _)) fun w10 hbw => (Jp 1∘Jd2∘Jj∘JF∘JS'∘JQ∘JP∘Jp 2∘JI (h:=by exact fun I => qq5 fl cr hf hc _)) fun w15 hbw => (Jp 1∘Jd3∘Jr∘Jp 1∘Jg 0 O1∘Jp 1∘Jd2∘Jj) (Ji (fun hd19 => ?_) fun hd19 => ?_)
 ·
  refine (JT∘JP∘Jp 1∘Jg 2 O1∘Jy (v := .agg #[vQ (fl - cr : Nat), vW 0, vW x.w]) (h:=by exact Yl.build (vs := [(0, vQ (fl - cr : Nat)), (2, vW x.w)]) rfl kr kr)∘JV qk O0') fun w5_4 => (Jp 1∘Jd3∘Jj∘JZ) fun a Z I => ?_
  exact ret2 rfl Z (.cellS (i := 0) Z I rfl rfl qk rfl) (.tmp Z rfl) (⟨by rw [show x.woken fl cr = ⟨fl - cr, 0, x.w⟩ from if_pos om]; rfl, I.below⟩)
 refine (JF∘JS'∘JP∘Jy (v := .agg x.cells) (h:=by exact Yl.loadS rfl rfl qk rfl (fun _ h => qb (h.blk (i := 1) rfl)))∘JV qk O0' (h1:=by exact zu x)) fun w6_1 => (Jp 1∘Jd1∘Jj∘JZ) fun a Z I => ?_
 exact ret2 rfl Z (.cellS (i := 0) Z I rfl rfl qk rfl) (.tmp Z rfl) (⟨by rw [show x.woken fl cr = x from if_neg om], I.below⟩)
theorem qw1 (x : En) (hx : x.Ok) (fr to : Nat) (hfr : fr < 18446744073709551616) (hto : to < 18446744073709551616) (w : World) :
    Calls Tryz.prog 147 #[.agg x.cells, vQ fr, vQ to] w (Is w (.tuple #[.agg (x.moved fr to).cells, vI 0])) := by
 have hxv := hx.2
 refine (JN3 Tryz.func147 35) ?_
 refine (JP∘JE) fun w3 g3 => (JA #[vQ 0, vW 0, vW 0]) fun w6 g6 => (Jp 1∘Jj∘JQ∘JP∘Jy (v := .agg x.cells) (h:=by exact Yl.loadS rfl rfl qk rfl (fun _ h => qb (h.blk (i := 1) rfl)))∘JI (h:=by exact fun I => qcy x hx _)) fun w9 hbw => (Jp 1∘Jd2∘Jj∘JF∘JS'∘JQ∘JP∘Jg 0 O1∘Jp 2∘Jd2∘Jj) (Ju (fun hb15 => ?_) fun hb15 => ?_)
 ·
  intro a Z I
  have hd15 := of_decide_eq_true hb15
  have hmv : qcv x.v fr to = to + min (x.v - fr) (18446744073709551615 - to) := if_pos om
  refine Jb Z I ((JT∘JR∘Jp 1∘Jg 0 O1∘Jp 1∘Js∘JI (h:=by exact fun I => q45 to (x.v - fr) hto om _)) fun w21 hbw => (Jf 0) fun a Z I => ?_)
  refine fo Z 7 rfl rfl ?_
  refine qcf Z I (i := 1) rfl rfl rfl rfl kr rfl rfl (by simp [En.cells]) ?_
  clear I; intro w4_7 I
  refine Jb Z I ((Jt6∘Jj∘JQ∘JP∘Jg 0 O1∘Jp 1∘Jd1∘Jj) (Je (fun hd32 => ?_) fun hd32 => ?_))
  ·
   refine (JT∘JR∘Jf 1∘JW O1' O1') fun w7_1 => (Jt1∘Jr∘Jy (v := .agg #[vQ (to + min (x.v - fr) (18446744073709551615 - to) : Nat), vW 0, vW x.w]) (h:=by exact Yl.loadS rfl rfl qk rfl (fun _ h => qb (h.blk (i := 1) rfl)))∘JV qk O0') fun w8_1 => (Jp 1∘Jd1∘Jj∘JZ) fun a Z I => ?_
   exact ret2 rfl Z (.cellS (i := 0) Z I rfl rfl qk rfl) (.tmp Z rfl) (⟨by rw [show x.moved fr to = ⟨qcv x.v fr to, 0, x.w⟩ from congrArg (fun r => (⟨_, r, _⟩ : En)) (if_pos (by rw [hmv]; show _ = 18446744073709551615; omega)), hmv]; rfl, I.below⟩)
  refine (JF∘JS'∘JP∘Jy (v := .agg #[vQ (to + min (x.v - fr) (18446744073709551615 - to) : Nat), vW x.r, vW x.w]) (h:=by exact Yl.loadS rfl rfl qk rfl (fun _ h => qb (h.blk (i := 1) rfl)))∘JV qk O0') fun w8_1 => (Jp 1∘Jd1∘Jj∘JZ) fun a Z I => ?_
  exact ret2 rfl Z (.cellS (i := 0) Z I rfl rfl qk rfl) (.tmp Z rfl) (⟨by rw [show x.moved fr to = ⟨qcv x.v fr to, x.r, x.w⟩ from congrArg (fun r => (⟨_, r, _⟩ : En)) (if_neg (by rw [hmv]; show ¬ _ = 18446744073709551615; omega)), hmv]; rfl, I.below⟩)
 intro a Z I
 have hd15 := of_decide_eq_false hb15
 have hmv : qcv x.v fr to = to - (fr - x.v) := (if_neg om).trans om
 refine Jb Z I ((JF∘JR∘Jp 2∘Jg 0 O1∘Js∘JI (h:=by exact fun I => qq5 to (fr - x.v) hto om _)) fun w28 hbw => (Jf 0) fun a Z I => ?_)
 refine fo Z 7 rfl rfl ?_
 refine qcf Z I (i := 1) rfl rfl rfl rfl kr rfl rfl (by simp [En.cells]) ?_
 clear I; intro w5_7 I
 refine Jb Z I ((Jt6∘Jj∘JQ∘JP∘Jg 0 O1∘Jp 1∘Jd1∘Jj) (Je (fun hd32 => ?_) fun hd32 => ?_))
 ·
  refine (JT∘JR∘Jf 1∘JW O1' O1') fun w7_1 => (Jt1∘Jr∘Jy (v := .agg #[vQ (to - (fr - x.v) : Nat), vW 0, vW x.w]) (h:=by exact Yl.loadS rfl rfl qk rfl (fun _ h => qb (h.blk (i := 1) rfl)))∘JV qk O0') fun w8_1 => (Jp 1∘Jd1∘Jj∘JZ) fun a Z I => ?_
  exact ret2 rfl Z (.cellS (i := 0) Z I rfl rfl qk rfl) (.tmp Z rfl) (⟨by rw [show x.moved fr to = ⟨qcv x.v fr to, 0, x.w⟩ from congrArg (fun r => (⟨_, r, _⟩ : En)) (if_pos (by rw [hmv]; show _ = 18446744073709551615; omega)), hmv]; rfl, I.below⟩)
 refine (JF∘JS'∘JP∘Jy (v := .agg #[vQ (to - (fr - x.v) : Nat), vW x.r, vW x.w]) (h:=by exact Yl.loadS rfl rfl qk rfl (fun _ h => qb (h.blk (i := 1) rfl)))∘JV qk O0') fun w8_1 => (Jp 1∘Jd1∘Jj∘JZ) fun a Z I => ?_
 exact ret2 rfl Z (.cellS (i := 0) Z I rfl rfl qk rfl) (.tmp Z rfl) (⟨by rw [show x.moved fr to = ⟨qcv x.v fr to, x.r, x.w⟩ from congrArg (fun r => (⟨_, r, _⟩ : En)) (if_neg (by rw [hmv]; show ¬ _ = 18446744073709551615; omega)), hmv]; rfl, I.below⟩)
theorem qeo {α : Type} {l : List α} {i : Nat} {t u : α} (h : l[i]? = some t) : (l.set i u)[i]? = some u := List.getElem?_set_self (List.getElem?_eq_some_iff.1 h).1
theorem Upd.split {α : Type} {a b : α} {l m : List α} (h : Upd a b l m) : ∃ p q, l = p ++ a :: q ∧ m = p ++ b :: q := by
 induction h with
 | z => exact ⟨[], _, rfl, rfl⟩
 | s _ ih => obtain ⟨p, q, rfl, rfl⟩ := ih; exact ⟨_ :: p, q, rfl, rfl⟩
theorem qw2 (W w : World) (g nt tc i : Nat) (ts : List Tk) (t : Tk) (ht : ts[i]? = some t) (hn : ts.length = nt) (x : En) (hx : x.Ok) (fs : List Fact) (I : Mem W w (fT (some ⟨g, 0, none⟩) nt tc ts :: fs)) :
    Calls Tryz.prog 106 #[.pointer (some ⟨g, i * 8, none⟩), .agg x.cells] w (fun r w' => r = .returned (.tuple #[]) ∧ Mem W w' (fT (some ⟨g, 0, none⟩) nt tc (ts.set i (t.put x)) :: fs)) := by
 have hil := (List.getElem?_eq_some_iff.1 ht).1
 have hxo := qg1 hx.1
 refine (Jin2 I Tryz.func106 20) ?_
 refine (JP∘JE) fun w3 g3 => (Jj∘Vs (.t (.f .n)) [18]) fun wd1 => (Vp [0, 1, 2]∘Vf 3 0∘Vf 5 1∘Vf 7 2∘Vc 4 O0∘Vc 6 O0∘Vc 8 O0∘Vw 9 .i64∘Vn 10∘Vf 11 6) fun a Z I HS => ?_
 refine s_on Z 12 rfl ?_
 refine qx Z I (i := 1) rfl rfl rfl rfl kr rfl rfl (by rw [qal tkL 8 qi]; omega) ?_
 clear I; intro w1_12 I
 replace I := I.asRow (i := 1) (ys := (ts.set i ({ t with v := x.v })).flatMap tkL) rfl (qas tkL 8 qi ts i t ({ t with v := x.v }) ht 6 de _ rfl)
 refine keepS (I.pt 2 [0]) (fun HS => ?_)
 refine Vb Z I HS ((Vn 13∘Vf 14 7) fun a Z I HS => ?_)
 refine s_on Z 15 rfl ?_
 refine qx Z I (i := 1) rfl rfl rfl rfl kr rfl rfl (by rw [qal tkL 8 qi, List.length_set]; omega) ?_
 clear I; intro w1_15 I
 replace I := I.asRow (i := 1) (ys := (ts.set i ({ t with v := x.v, r := x.r })).flatMap tkL) rfl ((qas tkL 8 qi (ts.set i ({ t with v := x.v })) i ({ t with v := x.v }) ({ t with v := x.v, r := x.r }) (qeo ht) 7 de _ rfl).trans (by rw [List.set_set]))
 refine keepS (I.pt 2 [0]) (fun HS => ?_)
 refine Vb Z I HS ((Vn 16∘Vf 17 2) fun a Z I HS => ?_)
 refine s_on Z 18 rfl ?_
 refine qx Z I (i := 1) rfl rfl rfl rfl kr rfl rfl (by rw [qal tkL 8 qi, List.length_set]; omega) ?_
 clear I; intro w1_18 I
 replace I := I.asRow (i := 1) (ys := (ts.set i (t.put x)).flatMap tkL) rfl ((qas tkL 8 qi (ts.set i ({ t with v := x.v, r := x.r })) i ({ t with v := x.v, r := x.r }) (t.put x) (qeo ht) 2 de _ rfl).trans (by rw [List.set_set]))
 refine noS kr ?_
 refine qc kr ?_
 exact norm0 rfl Z ⟨rfl, I.pt 2 [1]⟩
theorem qq7 {W w : World} {g nt tc i : Nat} {ts : List Tk} {F F' : List Fact} (t : Tk) (x : En) (O : Upd (fT (some ⟨g, 0, none⟩) nt tc ts) (fT (some ⟨g, 0, none⟩) nt tc (ts.set i (t.put x))) F F') (I : Mem W w F) (ht : ts[i]? = some t) (hn : ts.length = nt) (hx : x.Ok) :
  Calls Tryz.prog 106 #[.pointer (some ⟨g, i * 8, none⟩), .agg x.cells] w (fun r w' => r = .returned (.tuple #[]) ∧ Mem W w' F') := by
 obtain ⟨p, q, rfl, rfl⟩ := O.split
 exact (qw2 W w g nt tc i ts t ht hn x hx (p ++ q) (I.perm List.perm_middle)).mono fun r w' h => ⟨h.1, h.2.perm List.perm_middle.symm⟩
theorem qtp (W w : World) (g : Nat) (t : Tk) (x : En) (hx : x.Ok) (fs : List Fact) (I : Mem W w (.blk g t.cells 61 :: fs)) :
    Calls Tryz.prog 106 #[vP g 0, .agg x.cells] w (fun r w' => r = .returned (.tuple #[]) ∧ Mem W w' (.blk g (t.put x).cells 61 :: fs)) := by
 have hxo := qg1 hx.1
 replace I : Mem W w (.blk g #[vI t.id, vI t.group, vI t.weight, vI t.cpu, vQ t.mask, .bool t.ready, vQ t.v, vW t.r] 61 :: fs) := I
 refine (Jin2 I Tryz.func106 20) ?_
 refine (JP∘JE) fun w3 g3 => (Jj∘Vs (.t (.f .n)) [18]) fun wd1 => (Vp [0, 1, 2]∘Vf 3 0∘Vf 5 1∘Vf 7 2∘Vc 4 O0∘Vc 6 O0∘Vc 8 O0∘Vw 9 .i64∘Vn 10∘Vf 11 6) fun a Z I HS => ?_
 refine s_on Z 12 rfl (s_es Z I 1 ?_)
 clear I; intro w1_12 I
 refine keepS (I.pt 2 [0]) (fun HS => ?_)
 refine Vb Z I HS ((Vn 13∘Vf 14 7) fun a Z I HS => ?_)
 refine s_on Z 15 rfl (s_es Z I 1 ?_)
 clear I; intro w1_15 I
 refine keepS (I.pt 2 [0]) (fun HS => ?_)
 refine Vb Z I HS ((Vn 16∘Vf 17 2) fun a Z I HS => ?_)
 refine s_on Z 18 rfl (s_es Z I 1 ?_)
 clear I; intro w1_18 I
 refine noS kr ?_
 refine qc kr ?_
 exact norm0 rfl Z ⟨rfl, I.pt 2 [1]⟩
theorem q46 {W w : World} {g : Nat} {F F' : List Fact} (t : Tk) (x : En) (O : Upd (.blk g t.cells 61) (.blk g (t.put x).cells 61) F F') (I : Mem W w F) (hx : x.Ok) :
  Calls Tryz.prog 106 #[vP g 0, .agg x.cells] w (fun r w' => r = .returned (.tuple #[]) ∧ Mem W w' F') := by
 obtain ⟨p, q, rfl, rfl⟩ := O.split
 exact (qtp W w g t x hx (p ++ q) (I.perm List.perm_middle)).mono fun r w' h => ⟨h.1, h.2.perm List.perm_middle.symm⟩
theorem qhc (id : Int) (w : World) : Calls Tryz.prog 101 #[vI id] w (Is w (.bool (decide (1 ≤ id ∧ id ≤ 65535)))) := by
 refine (JN1 Tryz.func101 9) ?_
 refine (JP∘Jp 1∘Jr∘Jp 3) (Ji (fun hd5 => ?_) fun hd5 => ?_)
 ·
  exact (Jp 4∘Jd6∘Jj∘JZ∘Jz1) fun I => qh7 om I.below
 exact (Jp 4∘Jd6∘Jj∘JZ∘Jz1) fun I => is_no om I.below
theorem q47 (gm : Nat) (cp : Int) (cr : Nat) (gA : Option Addr) (ng gc : Nat) (lA : Option Addr) (nl lc : Nat) (uA : Option Addr) (nu uc : Nat) (tA : Option Addr) (nt tc : Nat) (sA : Option Addr) (ns sc : Nat) (c : Int) (w : World)
    (hm : w.heap[gm]? = some (.cells #[vI cp, vQ cr, .slice gA ng gc, .slice lA nl lc, .slice uA nu uc, .slice tA nt tc, .slice sA ns sc, .bool true] 138 (0, 0))) :
    Calls Tryz.prog 100 #[vP gm 0, vI c] w (Is w (.bool (decide (0 ≤ c ∧ c < cp)))) := by
 refine (JN2 Tryz.func100 17) ?_
 refine (JP∘Jp 1∘Jr∘Jp 3) (Ji (fun hd7 => ?_) fun hd7 => ?_)
 ·
  exact (Jp 2∘Jn∘Jf 0∘Jf 0∘Jf 0∘Jy (v := vI cp) (h:=by exact Yl.qr rfl rfl kr (fun _ h => h.qco hm rfl))∘Jp 3∘Jd6∘Jj∘JZ∘Jz1) fun I => qh7 om I.below
 exact (Jv 10 [(4, .bool false)]∘Jd3∘Jj∘JZ∘Jz1) fun I => is_no om I.below
theorem qj4 {W w : World} {F T : List Fact} {x : Stm} {ng nl nu nt ns gm : Nat} (n : Nat) (I : Mem W w F) (he : F.drop n = mdA gm x ng nl nu nt ns ++ T) (_ : MdOk x ng nl nu nt ns) (c : Int) : Calls Tryz.prog 100 #[vP gm 0, vI c] w (Is w (.bool (decide (0 ≤ c ∧ c < x.cpus)))) := by
 have h1 : fM gm x.cpus x.credit x.gA ng x.gc x.lA nl x.lc x.uA nu x.uc x.tA nt x.tc x.sA ns x.sc ∈ F := List.mem_of_mem_drop (i := n) (by rw [he]; exact List.mem_cons_self ..)
 exact q47 gm x.cpus x.credit x.gA ng x.gc x.lA nl x.lc x.uA nu x.uc x.tA nt x.tc x.sA ns x.sc c w (I.holds _ h1).2
def mdB (gm : Nat) (x : Stm) : List Fact := mdA gm x x.gs.length x.cl.length x.cu.length x.ts.length x.rs.length
def OpIs (W : World) (gm : Nat) (T : List Fact) (out : Out30) (r : Ending) (w' : World) : Prop := ∃ y : Stm, r = .returned (.tuple #[.int .i64 out.2.1, .int .i64 (out.2.2 : Int)]) ∧ y.sta = out.1 ∧ Mem W w' (mdB gm y ++ T)
section
variable {W w w' : World} {F A T fs : List Fact} {x y : Stm} {ng nl nu nt ns gm g c n : Nat}
theorem Mem.dropN (n : Nat) (h : Mem W w F) (he : F.drop n = A) : Mem W w A := he ▸ h.subl (List.drop_sublist ..)
theorem Mem.toB (h : Mem W w (mdA gm y ng nl nu nt ns ++ T)) (hl : Lns y ng nl nu nt ns) : Mem W w (mdB gm y ++ T) := by
 obtain ⟨rfl, rfl, rfl, rfl, rfl⟩ := hl
 exact h
theorem qs {out : Out30} {got : Int} {e : Nat} (n : Nat) (I : Mem W w F) (he : F.drop n = mdA gm y ng nl nu nt ns ++ T) (hl : Lns y ng nl nu nt ns) (hout : out = (y.sta, got, e)) : OpIs W gm T out (.returned (.tuple #[.int .i64 got, .int .i64 (e : Int)])) w := by
 subst hout
 exact ⟨y, rfl, rfl, (I.dropN n he).toB hl⟩
structure TkGood (t : Tk) (cp : Int) (ns : Nat) : Prop where
 id : 1 ≤ t.id ∧ t.id ≤ 65535
 group : 0 ≤ t.group ∧ t.group < ns
 cpu : 0 ≤ t.cpu ∧ t.cpu < cp
 weight : 1 ≤ t.weight ∧ t.weight ≤ 65536
 mask : qel t.mask cp = false
 bit : t.mask / 2 ^ t.cpu.toNat % 2 = 1
 ent : entOk t.v t.r t.weight = true
theorem qio {s : Sta} {t : Tk} : tkOk1 s t = true ↔ TkGood t s.cpus s.sp.length := by
 unfold tkOk1 wOk
 simp only [Bool.and_eq_true, decide_eq_true_eq, Bool.not_eq_true']
 constructor
 ·rintro ⟨⟨h1, h2, h3, h4, h5, h6⟩, h7, h8, h9, h10⟩
  exact ⟨⟨h1, h2⟩, ⟨h3, h4⟩, ⟨h5, h6⟩, h7, h8, h9, h10⟩
 ·intro h
  exact ⟨⟨h.id.1, h.id.2, h.group.1, h.group.2, h.cpu.1, h.cpu.2⟩, h.weight, h.mask, h.bit, h.ent⟩
theorem MdOk.task (h : MdOk x ng nl nu nt ns) {k : Nat} {t : Tk} (ht : x.ts[k]? = some t) : TkGood t x.cpus ns ∧ t.Ok := by
 obtain ⟨hk, rfl⟩ := List.getElem?_eq_some_iff.1 ht
 have h1 := (qia (h.sh.tk k hk)).2
 rw [List.getD_eq_getElem?_getD, List.getElem?_eq_getElem hk] at h1
 have h2 := qio.1 h1
 rw [zo, h.ln.s] at h2
 exact ⟨h2, h.ok.ts _ (List.getElem_mem hk)⟩
theorem qip {l : List Tk} {id : Int} (h : ¬ fidx l id < 0) : ∃ (k : Nat) (t : Tk), fidx l id = (k : Int) ∧ l[k]? = some t ∧ k < l.length ∧ t.id = id := by
 obtain ⟨k, h1, _, h3, h4⟩ := qq1 h
 exact ⟨k, l.getD k Tk.zero, h1, getD_at Tk.zero h3, h3, h4⟩
theorem qcn {s : Sta} {id : Int} {k : Nat} {t : Tk} (h : fidx s.ts id = (k : Int)) (ht : s.ts[k]? = some t) : tkOf s id = t := by
 unfold tkOf
 rw [h]
 exact qad Tk.zero ht
theorem En.qjm {v r w : Nat} {wi : Int} (h : entOk v r wi = true) (hw : wi = (w : Int)) (hv : v < 18446744073709551616) : (⟨v, r, w⟩ : En).Ok := ⟨by rw [hw] at h; exact h, hv⟩
theorem tk_en {t : Tk} {w : Nat} (h : t.weight = (w : Int)) : t.en = ⟨t.v, t.r, w⟩ := by unfold Tk.en; rw [h]; rfl
theorem qj5 {x : Stm} {ts' : List Tk} (h : Lns x ng nl nu nt ns) (ht : ts'.length = nt) : Lns { x with ts := ts' } ng nl nu nt ns := ⟨h.g, h.l, h.u, ht, h.s⟩
theorem qq8 {x : Stm} {rs' : List Rw} (h : Lns x ng nl nu nt ns) (ht : rs'.length = ns) : Lns { x with rs := rs' } ng nl nu nt ns := ⟨h.g, h.l, h.u, h.t, ht⟩
end
theorem nf {b : Bool} (h : b = true) : ¬ b = false := by rw [h]; decide
theorem nt' {b : Bool} (h : b = false) : ¬ b = true := by rw [h]; decide
section
variable {x : Stm} {o : Op30} {k gt ct wt c d g : Nat} {t : Tk} {e : En} {z : Sp} {em : List Nat}
theorem qm9 (h1 : idOk o.task = true) (h2 : wOk o.weight = true) (hk : fidx x.ts o.task = (k : Int)) (ht : x.ts[k]? = some t) (hw : o.weight = (wt : Int)) : qa2 x.sta o = (({ x with ts := x.ts.set k (t.put ⟨t.v, 0, wt⟩) } : Stm).sta, 0, 0) := by
 unfold qa2
 rw [if_neg (nf h1), if_neg (nf h2), if_neg (by rw [show x.sta.ts = x.ts from rfl, hk]; omega), qcn (s := x.sta) hk ht, show x.sta.ts = x.ts from rfl, hk, Int.toNat_natCast, hw]
 rfl
theorem qw3 (h1 : idOk o.task = true) (hk : fidx x.ts o.task = (k : Int)) (ht : x.ts[k]? = some t) (hr : t.ready = false) (hg : t.group = (gt : Int)) (hc : t.cpu = (ct : Int)) (hw : t.weight = (wt : Int)) (hz : x.sta.spot gt ct = z) (he : (⟨t.v, t.r, wt⟩ : En).woken z.floor x.credit = e) (hem : zi x.sta gt ct = em) :
  qfm x.sta o = (wakeS ({ x with ts := x.ts.set k { t.put e with ready := true } } : Stm).sta em ct, 0, 0) := by
 unfold qfm
 rw [if_neg (nf h1), if_neg (by rw [show x.sta.ts = x.ts from rfl, hk]; omega), qcn (s := x.sta) hk ht, if_neg (by rw [hr]; decide)]
 show (wakeS (x.sta.setT (fidx x.ts o.task).toNat { t.put (t.en.woken (x.sta.spot t.group.toNat t.cpu.toNat).floor x.credit) with ready := true }) (zi x.sta t.group.toNat t.cpu.toNat) t.cpu.toNat, (0 : Int), 0) = _
 rw [hk, Int.toNat_natCast, hg, hc, Int.toNat_natCast, Int.toNat_natCast, hz, tk_en hw, he, hem]
 rfl
theorem q01 (hc : o.cpu = (c : Int)) (hok : x.sta.qd1 o.cpu = true) : pickS x.sta o = (({ x with cu := x.cu.set c (qag x.sta c) } : Stm).sta, (qag x.sta c : Int), 0) := by
 unfold pickS
 rw [if_neg (nf hok), hc, Int.toNat_natCast]
 rfl
def qgk (c d g : Nat) (s : Sta) : Sta := qaa c d g g s
theorem qna {c d g f : Nat} {s : Sta} (hp : ∀ i, 0 < i → i ≤ g → ParB s.gs i) (h : g ≤ f) : qaa c d f g s = qaa c d g g s := by
 have key : ∀ (g f f' : Nat) (s : Sta), (∀ i, 0 < i → i ≤ g → ParB s.gs i) → g ≤ f → g ≤ f' → qaa c d f g s = qaa c d f' g s := by
  intro g
  induction g using Nat.strongRecOn with
  | _ g ih =>
   intro f f' s hp h1 h2
   by_cases h0 : g = 0
   ·subst h0
    cases f <;> cases f' <;> simp [qaa]
   ·obtain ⟨f, rfl⟩ : ∃ k, f = k + 1 := ⟨f - 1, by omega⟩
    obtain ⟨f', rfl⟩ : ∃ k, f' = k + 1 := ⟨f' - 1, by omega⟩
    have hg := hp g om (Nat.le_refl _)
    unfold ParB at hg
    have e : (s.par g).toNat < g := by show (s.gs.getD g Gr.zero).parent.toNat < g; omega
    rw [qaa, qaa, if_neg h0, if_neg h0]
    exact ih (s.par g).toNat e f f' _ (fun i hi hl => hp i hi om) om om
 exact key g f g s hp h (Nat.le_refl _)
theorem qnb {s : Sta} (hp : ∀ i, 0 < i → i ≤ g → ParB s.gs i) (h0 : 0 < g) {p : Nat} (hpp : (s.gs.getD g Gr.zero).parent = (p : Int)) : qgk c d g s = qgk c d p (s.qjc g c ((s.spEn g c).add d)) := by
 obtain ⟨k, rfl⟩ : ∃ k, g = k + 1 := ⟨g - 1, by omega⟩
 have hg := hp (k + 1) h0 (Nat.le_refl _)
 unfold ParB at hg
 show qaa c d (k + 1) (k + 1) s = _
 rw [qaa, if_neg om]
 have e : (s.par (k + 1)).toNat = p := by show (s.gs.getD (k + 1) Gr.zero).parent.toNat = p; rw [hpp]; rfl
 rw [e]
 exact qna (s := s.qjc (k + 1) c ((s.spEn (k + 1) c).add d)) (fun i hi hl => hp i hi om) om
theorem qw4 (hok : x.sta.qd1 o.cpu = true) (h1 : 1 ≤ o.ticks ∧ o.ticks ≤ 4294967295) (hc : o.cpu = (c : Int)) {v : Int} (hv : x.cl.getD c 0 = v) (h2 : ¬ 281474976710656 < v + o.ticks) (hcu : x.cu.getD c 0 = 0) : tickS x.sta o = (({ x with cl := x.cl.set c (v + o.ticks) } : Stm).sta, 0, 0) := by
 unfold tickS
 rw [if_neg (nf hok), if_neg om, hc, Int.toNat_natCast, show x.sta.cl = x.cl from rfl, hv, if_neg h2]
 dsimp only
 rw [show x.sta.cu = x.cu from rfl, if_pos hcu]
 rfl
theorem q02 (hok : x.sta.qd1 o.cpu = true) (h1 : 1 ≤ o.ticks ∧ o.ticks ≤ 4294967295) (hc : o.cpu = (c : Int)) (hd : o.ticks = (d : Int)) {v id : Int} (hv : x.cl.getD c 0 = v) (h2 : ¬ 281474976710656 < v + o.ticks) (hcu : x.cu.getD c 0 = id) (hid : id ≠ 0)
  (hk : fidx x.ts id = (k : Int)) (ht : x.ts[k]? = some t) (hg : t.group = (gt : Int)) (hw : t.weight = (wt : Int)) (he : (⟨t.v, t.r, wt⟩ : En).add d = e) :
  tickS x.sta o = (qgk c d gt ({ x with cl := x.cl.set c (v + d), ts := x.ts.set k (t.put e) } : Stm).sta, id, 0) := by
 unfold tickS
 rw [if_neg (nf hok), if_neg om, hc, Int.toNat_natCast, show x.sta.cl = x.cl from rfl, hv, if_neg h2]
 dsimp only
 rw [show x.sta.cu = x.cu from rfl, hcu, if_neg hid, qcn (s := x.sta) hk ht, hg, show x.sta.ts = x.ts from rfl, hk, Int.toNat_natCast, Int.toNat_natCast, hd, Int.toNat_natCast, tk_en hw, he]
 rfl
def upd {α : Type} (f : α → α) (l : List α) (k : Nat) : List α := (l.take k).map f ++ l.drop k
theorem q48 {α : Type} (f : α → α) (l : List α) (k : Nat) : (upd f l k).length = l.length := by
 unfold upd
 rw [List.length_append, List.length_map, List.length_take, List.length_drop]
 omega
theorem q03 {α : Type} (f : α → α) (l : List α) : upd f l 0 = l := rfl
theorem q49 {α : Type} (f : α → α) (l : List α) {k : Nat} (h : l.length ≤ k) : upd f l k = l.map f := by
 unfold upd
 rw [List.take_of_length_le h, List.drop_of_length_le h, List.append_nil]
theorem q5a {α : Type} (f : α → α) {l : List α} {k j : Nat} (h : k ≤ j) : (upd f l k)[j]? = l[j]? := by
 unfold upd
 rcases Nat.lt_or_ge j l.length with h1 | h1
 ·rw [List.getElem?_append_right (by rw [List.length_map, List.length_take]; omega), List.length_map, List.length_take, List.getElem?_drop]
  congr 1
  omega
 ·rw [List.getElem?_eq_none (by rw [List.length_append, List.length_map, List.length_take, List.length_drop]; omega), List.getElem?_eq_none h1]
theorem q5b {α : Type} (f : α → α) {l : List α} {k : Nat} {z : α} (h : l[k]? = some z) : (upd f l k).set k (f z) = upd f l (k + 1) := by
 obtain ⟨hk, rfl⟩ := List.getElem?_eq_some_iff.1 h
 unfold upd
 have h1 : ((l.take k).map f).length = k := by rw [List.length_map, List.length_take]; omega
 rw [List.set_append, if_neg (by rw [h1]; omega), h1, Nat.sub_self, List.drop_eq_getElem_cons hk, List.set_cons_zero, List.take_succ_eq_append_getElem hk, List.map_append, List.append_assoc]
 rfl
def r0 (z : Sp) : Sp := { z with r := 0 }
theorem qpi (hg : o.group = (g : Int)) (h1 : 1 ≤ o.group ∧ o.group < x.rs.length) (h2 : wOk o.weight = true) {yA : Option Addr} {yc : Nat} {yl : List Sp} (hy : x.rs.getD g Rw.zero = ⟨yA, yc, yl⟩) {gr : Gr} (hgr : x.gs.getD g Gr.zero = gr) :
  qbt x.sta o = (({ x with rs := x.rs.set g ⟨yA, yc, yl.map r0⟩, gs := x.gs.set g { gr with weight := o.weight } } : Stm).sta, 0, 0) := by
 have hgl : g < x.rs.length := by omega
 unfold qbt
 rw [if_neg (by rw [zo]; omega), if_neg (nf h2), hg, Int.toNat_natCast]
 unfold Stm.sta
 simp only [List.map_set]
 rw [qjz hgl, hy, hgr]
 rfl
theorem q04 {to : Nat} {z1 z2 : Sp} (ht : x.ts[k]? = some t) (hg : t.group = (gt : Int)) (hc : t.cpu = (ct : Int)) (hw : t.weight = (wt : Int)) (hz1 : x.sta.spot gt ct = z1) (hz2 : x.sta.spot gt to = z2) (he : (⟨t.v, t.r, wt⟩ : En).moved z1.floor z2.floor = e) (hem : zi x.sta gt to = em) :
  moveS x.sta k (to : Int) = if t.ready = true then wakeS ({ x with ts := x.ts.set k { t.put e with cpu := (to : Int) } } : Stm).sta em to else ({ x with ts := x.ts.set k { t.put e with cpu := (to : Int) } } : Stm).sta := by
 have e1 : x.sta.ts.getD k Tk.zero = t := qad Tk.zero ht
 unfold moveS
 rw [e1]
 dsimp only
 rw [hg, hc, Int.toNat_natCast, Int.toNat_natCast, Int.toNat_natCast, hz1, hz2, tk_en hw, he, hem]
 rfl
end
def StIs (W : World) (gm : Nat) (T : List Fact) (s : Sta) (r : Ending) (w' : World) : Prop := ∃ y : Stm, r = .returned (.tuple #[]) ∧ y.sta = s ∧ Mem W w' (mdB gm y ++ T)
section
variable {W w w' : World} {F A T fs : List Fact} {x y : Stm} {ng nl nu nt ns gm g c n : Nat}
theorem qw5 {s : Sta} (n : Nat) (I : Mem W w F) (he : F.drop n = mdA gm y ng nl nu nt ns ++ T) (hl : Lns y ng nl nu nt ns) (hs : y.sta = s) : StIs W gm T s (.returned (.tuple #[])) w := ⟨y, rfl, hs, (I.dropN n he).toB hl⟩
theorem q3o {out : Out30} {got : Int} {e : Nat} (n : Nat) (I : Mem W w F) (he : F.drop n = mdB gm y ++ T) (hout : out = (y.sta, got, e)) : OpIs W gm T out (.returned (.tuple #[.int .i64 got, .int .i64 (e : Int)])) w := by
 subst hout
 exact ⟨y, rfl, rfl, I.dropN n he⟩
theorem qw6 {rs rs2 : List Rw} {yA : Option Addr} {yc : Nat} {yl : List Sp} {z : Sp} (hg : g < rs.length) (hz : yl[c]? = some z) (hr : rs2 = rs.set g ⟨yA, yc, upd r0 yl c⟩) : rsPut rs2 g c (r0 z) = rs.set g ⟨yA, yc, upd r0 yl (c + 1)⟩ := by
 subst hr
 unfold rsPut
 rw [qj _ _ hg, List.set_set]
 show rs.set g ⟨yA, yc, (upd r0 yl c).set c (r0 z)⟩ = _
 rw [q5b r0 hz]
end
def bestI : Option Nat → Int
 | none => -1
 | some b => (b : Int)
def qfu (s : Sta) (o : Op30) (be : Int) (t : Tk) : Bool := mayB s o t && (decide (be < 0) || decide ((s.ts.getD be.toNat Tk.zero).weight < t.weight))
section
variable {s : Sta} {o : Op30} {n : Nat}
theorem qhd : ∀ {n b : Nat}, bestF s o n = some b → b < n
 | 0, b, h => by cases h
 | n + 1, b, h => by
  rw [bestF] at h
  split at h
  ·split at h
   ·injection h with h; omega
   ·rename_i b' hb
    split at h
    ·injection h with h; omega
    ·injection h with h; have := qhd hb; omega
  ·have := qhd h; omega
theorem qnc {be : Int} (hb : bestI (bestF s o n) = be) : bestI (bestF s o (n + 1)) = if qfu s o be (s.ts.getD n Tk.zero) then (n : Int) else be := by
 subst hb
 rw [bestF]
 unfold qfu
 cases hm : mayB s o (s.ts.getD n Tk.zero) with
 | false => rw [if_neg de, Bool.false_and, if_neg de]
 | true =>
  rw [if_pos rfl, Bool.true_and]
  cases hbf : bestF s o n with
  | none => simp [bestI]
  | some b =>
   have e1 : bestI (some b) = (b : Int) := rfl
   rw [e1, show decide ((b : Int) < 0) = false from decide_eq_false om, Bool.false_or, Int.toNat_natCast]
   dsimp only
   by_cases h : (s.ts.getD b Tk.zero).weight < (s.ts.getD n Tk.zero).weight
   ·rw [if_pos h, if_pos (by rw [decide_eq_true h])]; rfl
   ·rw [if_neg h, if_neg (by rw [decide_eq_false h]; decide)]; rfl
theorem qiq {be : Int} (hb : bestI (bestF s o n) = be) : -1 ≤ be ∧ be < n := by
 subst hb
 cases h : bestF s o n with
 | none => exact ⟨by decide, by show (-1 : Int) < n; omega⟩
 | some b => have := qhd h; exact ⟨by show (-1 : Int) ≤ (b : Int); omega, by show (b : Int) < n; omega⟩
theorem qj6 {cpu : Int} {M : Int} (hM : ∀ c, loadS s c ≤ M ∧ 0 ≤ loadS s c) (h0 : 0 ≤ M) : ∀ n : Nat, -1 ≤ (busyF s cpu n).1 ∧ (busyF s cpu n).1 < n ∧ -1 ≤ (busyF s cpu n).2 ∧ (busyF s cpu n).2 ≤ M
 | 0 => ⟨by show (-1 : Int) ≤ -1; decide, by show (-1 : Int) < 0; decide, by show (-1 : Int) ≤ -1; decide, by show (-1 : Int) ≤ M; omega⟩
 | n + 1 => by
  have ih := qj6 (cpu := cpu) hM h0 n
  have hn := hM n
  rw [busyF]
  split
  ·exact ⟨by show (-1 : Int) ≤ (n : Int); omega, by show (n : Int) < (n + 1 : Nat); omega, by show (-1 : Int) ≤ loadS s n; omega, hn.1⟩
  ·exact ⟨ih.1, by have := ih.2.1; omega, ih.2.2⟩
theorem qir {cpu fr mo : Int} (hb : busyF s cpu n = (fr, mo)) : busyF s cpu (n + 1) = if (n : Int) ≠ cpu ∧ mo < loadS s n then ((n : Int), loadS s n) else (fr, mo) := by
 rw [busyF, hb]
theorem qnd {x : Stm} {o : Op30} (hok : x.sta.qd1 o.cpu = true) (hb : bestI (bestF x.sta o x.ts.length) = -1) : qa3 x.sta o = (x.sta, 0, 6) := by
 unfold qa3
 rw [if_neg (nf hok), show x.sta.ts = x.ts from rfl]
 cases h : bestF x.sta o x.ts.length with
 | none => rfl
 | some b => rw [h] at hb; exact absurd hb (by show ((b : Nat) : Int) ≠ -1; omega)
theorem qne {x : Stm} {o : Op30} {k : Nat} {t : Tk} (hok : x.sta.qd1 o.cpu = true) (hb : bestI (bestF x.sta o x.ts.length) = (k : Int)) (ht : x.ts[k]? = some t) : qa3 x.sta o = (moveS x.sta k o.cpu, t.id, 0) := by
 unfold qa3
 rw [if_neg (nf hok), show x.sta.ts = x.ts from rfl]
 cases h : bestF x.sta o x.ts.length with
 | none => rw [h] at hb; exact absurd hb (by show (-1 : Int) ≠ (k : Int); omega)
 | some b =>
  rw [h] at hb
  have e : b = k := by have h1 : (b : Int) = (k : Int) := hb; omega
  subst e
  dsimp only
  rw [qad Tk.zero ht]
theorem qpj {x : Stm} {o : Op30} {k : Nat} {t : Tk} (h1 : x.sta.qd1 o.to = true) (h2 : idOk o.task = true) (hk : fidx x.ts o.task = (k : Int)) (ht : x.ts[k]? = some t) (h3 : o.task ∉ x.cu) (h4 : t.cpu ≠ o.to) (h5 : bitOn t.mask o.to = true) : qbu x.sta o = (moveS x.sta k o.to, 0, 0) := by
 unfold qbu
 rw [if_neg (nf h1), if_neg (nf h2), if_neg (by rw [show x.sta.ts = x.ts from rfl, hk]; omega), if_neg (show ¬ o.task ∈ x.sta.cu from h3), qcn (s := x.sta) hk ht, if_neg h4, if_neg (nf h5), show x.sta.ts = x.ts from rfl, hk, Int.toNat_natCast]
end
theorem qpk (t : Tk) : ∀ u ∈ tkL t, u.oneCell' = true := by simp [tkL, Value.oneCell']
theorem qw7 (l : List Tk) (t : Tk) : l.flatMap tkL ++ tkL t = (l ++ [t]).flatMap tkL := by simp
theorem zc (l : List Tk) : (l.flatMap tkL).length = l.length * 8 := qal tkL 8 qi l
def zT (m : Nat) : List Value := (Builtin.zeroCells (Value.agg Tk.zero.cells).cells m).toList
theorem qq9 (m : Nat) : (zT m).length = m * 8 := by unfold zT; rw [Array.length_toList, size_zeroCells]; rfl
theorem q74 (m : Nat) : ∀ v ∈ zT m, v.oneCell' = true := by
 intro v hv
 unfold zT Builtin.zeroCells at hv
 simp only [Array.toList_map, List.mem_map] at hv
 obtain ⟨k, _, rfl⟩ := hv
 have hs : (Value.agg Tk.zero.cells).cells.size = 8 := rfl
 have hk : k % (Value.agg Tk.zero.cells).cells.size < 8 := by rw [hs]; exact Nat.mod_lt _ de
 generalize k % (Value.agg Tk.zero.cells).cells.size = j at hk
 have : ∀ j, j < 8 → ((Value.agg Tk.zero.cells).cells[j]!).oneCell' = true := by decide
 exact this j hk
theorem Mem.tkCells {W w : World} {fs : List Fact} (h : Mem W w fs) {j g n c a : Nat} {l q : List Tk} {ys : List Value} (hi : fs[j]? = some (.row (.slice (some ⟨g, 0, none⟩) n c) n (l.flatMap tkL ++ ys) 61 8)) (hq : ∃ b, (l.drop a).take b = q) (ha : a ≤ l.length) : ∀ k v, (q.flatMap tkL)[k]? = some v → w.cell? ((⟨g, a * 8, none⟩ : Addr).add k) = some v := by
 obtain ⟨b, rfl⟩ := hq
 intro k v hv
 rw [Addr.add_mid]
 refine h.qhn hi (a * 8) (ys := ((l.drop a).take b).flatMap tkL) (fun k v hv => ?_) k v hv
 have h1 : l.flatMap tkL = (l.take a).flatMap tkL ++ (((l.drop a).take b).flatMap tkL ++ ((l.drop a).drop b).flatMap tkL) := by
  rw [← List.flatMap_append, List.take_append_drop, ← List.flatMap_append, List.take_append_drop]
 have h2 : ((l.take a).flatMap tkL).length = a * 8 := by rw [zc, List.length_take]; omega
 have h3 := (List.getElem?_eq_some_iff.1 hv).1
 rw [h1, List.append_assoc, ← h2, List.getElem?_append_right (Nat.le_add_right _ _), Nat.add_sub_cancel_left, List.append_assoc, List.getElem?_append_left h3]
 exact hv
def qdw (l : List Tk) (id : Int) : Nat := (l.takeWhile fun t => decide (t.id ≤ id)).length
theorem qnf (l : List Tk) (id : Int) : qdw l id ≤ l.length := (List.takeWhile_sublist _).length_le
theorem qj7 (l : List Tk) (id : Int) : l.take (qdw l id) = (l.takeWhile fun t => decide (t.id ≤ id)) ∧ l.drop (qdw l id) = (l.dropWhile fun t => decide (t.id ≤ id)) := by
 have h1 := List.take_left (l₁ := l.takeWhile fun t => decide (t.id ≤ id)) (l₂ := l.dropWhile fun t => decide (t.id ≤ id))
 have h2 := List.drop_left (l₁ := l.takeWhile fun t => decide (t.id ≤ id)) (l₂ := l.dropWhile fun t => decide (t.id ≤ id))
 rw [List.takeWhile_append_dropWhile] at h1 h2
 exact ⟨h1, h2⟩
theorem qng {l : List Tk} {id : Int} {k : Nat} (hk : k ≤ l.length) (h : ∀ j, j < k → (l.getD j Tk.zero).id ≤ id) (hs : k = l.length ∨ id < (l.getD k Tk.zero).id) : qdw l id = k := by
 induction l generalizing k with
 | nil => simp at hk; subst hk; rfl
 | cons t r ih =>
  unfold qdw at *
  cases k with
  | zero =>
   rcases hs with h1 | h1
   ·simp at h1
   ·have h2 : ¬ t.id ≤ id := by have h3 : id < t.id := h1; omega
    rw [List.takeWhile_cons, if_neg (by rw [decide_eq_true_eq]; exact h2)]
    rfl
  | succ k =>
   have h0 : t.id ≤ id := h 0 om
   rw [List.takeWhile_cons, if_pos (by rw [decide_eq_true_eq]; exact h0), List.length_cons]
   rw [ih (k := k) (by simpa using hk) (fun j hj => h (j + 1) om) (by
    rcases hs with h1 | h1
    ·exact .inl (by simpa using h1)
    ·exact .inr h1)]
def InsIs (w : World) (l : List Tk) (id : Int) (r : Ending) (w' : World) : Prop := (∃ i : Int, r = .returned (.int .i64 i) ∧ (if i < 0 then l.length else i.toNat) = qdw l id ∧ -1 ≤ i ∧ i ≤ l.length) ∧ Below w.heap.size w w'
theorem qtq {w w' : World} {l : List Tk} {id : Int} {k : Nat} (hk : k < l.length) (h : ∀ j, j < k → (l.getD j Tk.zero).id ≤ id) (hs : id < (l.getD k Tk.zero).id) (hb : Below w.heap.size w w') : InsIs w l id (.returned (.int .i64 (k : Int))) w' :=
 ⟨⟨k, rfl, by rw [if_neg om, qng om h (.inr hs)]; rfl, by omega, by omega⟩, hb⟩
theorem qtr {w w' : World} {l : List Tk} {id : Int} (h : ∀ j, j < l.length → (l.getD j Tk.zero).id ≤ id) (hb : Below w.heap.size w w') : InsIs w l id (.returned (.int .i64 (-1))) w' :=
 ⟨⟨-1, rfl, by rw [if_pos de, qng (Nat.le_refl _) h (.inl rfl)], by omega, by omega⟩, hb⟩
theorem qts {l : List Tk} {id : Int} {k : Nat} (h : ∀ j, j < k → (l.getD j Tk.zero).id ≤ id) (hk : (l.getD k Tk.zero).id ≤ id) : ∀ j, j < k + 1 → (l.getD j Tk.zero).id ≤ id := fun j hj => by
 rcases Nat.lt_or_ge j k with h1 | h1
 ·exact h j h1
 ·obtain rfl : j = k := by omega
  exact hk
def insT (l : List Tk) (i : Nat) (t : Tk) : List Tk := l.take i ++ t :: l.drop i
theorem qnh (l : List Tk) (i : Nat) (t : Tk) : (insT l i t).flatMap tkL = (l.take i).flatMap tkL ++ (tkL t ++ (l.drop i).flatMap tkL) := by
 unfold insT
 rw [List.flatMap_append, List.flatMap_cons]
theorem qhe {l : List Tk} {i : Nat} {t : Tk} (h : i ≤ l.length) : (insT l i t).length = l.length + 1 := by
 unfold insT
 rw [List.length_append, List.length_cons, List.length_take, List.length_drop]
 omega
theorem q05 {l : List Tk} {i : Nat} {t : Tk} (h : i = l.length) : l ++ [t] = insT l i t := by
 subst h
 unfold insT
 rw [List.take_length, List.drop_length]
theorem q06 {l : List Tk} {i : Nat} {t : Tk} (h : i ≤ l.length) : putAt (putAt ((l.take i).flatMap tkL ++ zT (l.length + 1 - i)) (i * 8) (tkL t)) ((i + 1) * 8) ((l.drop i).flatMap tkL) = (insT l i t).flatMap tkL := by
 have h1 : ((l.take i).flatMap tkL).length = i * 8 := by rw [zc, List.length_take]; omega
 have h2 : ((l.take i).flatMap tkL ++ tkL t).length = (i + 1) * 8 := by rw [List.length_append, h1, qi]; omega
 have e : ((zT (l.length + 1 - i)).drop (tkL t).length).drop ((l.drop i).flatMap tkL).length = [] := List.drop_of_length_le (by rw [List.length_drop, qq9, qi, zc, List.length_drop]; omega)
 rw [← h1, qfh, ← h2, qfh, qnh, e, List.append_nil, List.append_assoc]
theorem qw8 {l : List Tk} {i : Nat} {t : Tk} {ys : List Value} (h : i ≤ l.length) (hy : ys.length = 8) : putAt (putAt (l.flatMap tkL ++ ys) ((i + 1) * 8) ((l.drop i).flatMap tkL)) (i * 8) (tkL t) = (insT l i t).flatMap tkL := by
 have h1 : ((l.take i).flatMap tkL).length = i * 8 := by rw [zc, List.length_take]; omega
 have h3 : ((l.drop i).flatMap tkL).length = (l.length - i) * 8 := by rw [zc, List.length_drop]
 have h2 : l.flatMap tkL ++ ys = (l.take i).flatMap tkL ++ ((l.drop i).flatMap tkL ++ ys) := by
  rw [← List.append_assoc, ← List.flatMap_append, List.take_append_drop]
 rw [h2, show (i + 1) * 8 = ((l.take i).flatMap tkL).length + 8 by rw [h1]; omega, qs0, ← h1, qfh, qnh, List.append_assoc]
 congr 2
 rw [qi]
 unfold putAt
 have e : ((l.drop i).flatMap tkL ++ ys).drop (8 + ((l.drop i).flatMap tkL).length) = [] := List.drop_of_length_le (by rw [List.length_append, h3, hy]; omega)
 rw [List.append_assoc, List.drop_left' (by rw [List.length_take, List.length_append, h3, hy]; omega), e, List.append_nil]
theorem q07 {l : List Tk} {i : Nat} (h : i < l.length) : (l.take i).flatMap tkL ++ (l.drop (i + 1)).flatMap tkL = (l.eraseIdx i).flatMap tkL := by
 rw [← List.flatMap_append, List.eraseIdx_eq_take_drop_succ]
section
variable {x : Stm} {o : Op30} {k g c z : Nat} {t t1 : Tk} {em : List Nat} {id : Int}
theorem qtt (hok : x.sta.qd1 o.cpu = true) (hc : o.cpu = (c : Int)) (hcu : x.cu.getD c 0 = id) (hid : id ≠ 0) (hk : fidx x.ts id = (k : Int)) (ht : x.ts[k]? = some t) (hkd : o.kind ≠ 4) : qca x.sta o = (({ x with cu := x.cu.set c 0, ts := x.ts.set k { t with ready := false } } : Stm).sta, id, 0) := by
 unfold qca
 rw [if_neg (nf hok), hc, Int.toNat_natCast, show x.sta.cu = x.cu from rfl, hcu, if_neg hid]
 dsimp only
 rw [show x.sta.ts = x.ts from rfl, hk, Int.toNat_natCast, qad Tk.zero ht, if_neg hkd]
 rfl
theorem q08 (hok : x.sta.qd1 o.cpu = true) (hc : o.cpu = (c : Int)) (hcu : x.cu.getD c 0 = id) (hid : id ≠ 0) (hk : fidx x.ts id = (k : Int)) (ht : x.ts[k]? = some t) (hkd : o.kind = 4) : qca x.sta o = (({ x with cu := x.cu.set c 0, ts := (x.ts.set k { t with ready := false }).eraseIdx k } : Stm).sta, id, 0) := by
 unfold qca
 rw [if_neg (nf hok), hc, Int.toNat_natCast, show x.sta.cu = x.cu from rfl, hcu, if_neg hid]
 dsimp only
 rw [show x.sta.ts = x.ts from rfl, hk, Int.toNat_natCast, qad Tk.zero ht, if_pos hkd]
 rfl
theorem qni (hok : x.sta.qd1 o.cpu = true) (h1 : idOk o.task = true) (h2 : 0 ≤ o.group ∧ o.group < x.rs.length) (h3 : ¬ (wOk o.weight = false ∨ o.mask = 0 ∨ qel o.mask x.cpus = true)) (h4 : fidx x.ts o.task < 0) (h5 : bitOn o.mask o.cpu = true) (hg : o.group = (g : Int)) (hc : o.cpu = (c : Int)) {fl : Nat} (hz : (x.sta.spot g c).floor = fl)
  (ht : (⟨o.task, o.group, o.weight, o.cpu, o.mask, true, fl, 0⟩ : Tk) = t1) (hem : zi x.sta g c = em) : qfl x.sta o = (wakeS ({ x with ts := insT x.ts (qdw x.ts o.task) t1 } : Stm).sta em c, 0, 0) := by
 unfold qfl
 rw [if_neg (nf hok), if_neg (nf h1), if_neg (by rw [zo]; omega), if_neg (show ¬ (wOk o.weight = false ∨ o.mask = 0 ∨ qel o.mask x.sta.cpus = true) from h3), if_neg (by rw [show x.sta.ts = x.ts from rfl]; omega), if_neg (nf h5), hg, hc, Int.toNat_natCast, Int.toNat_natCast, hem, hz]
 rw [hg, hc] at ht
 rw [show x.sta.ts = x.ts from rfl, ht]
 unfold insT
 rw [(qj7 x.ts o.task).1, (qj7 x.ts o.task).2]
 rfl
end
structure Shp (s : Sta) : Prop where
 ok : s.Ok
 cpus : 1 ≤ s.cpus ∧ s.cpus ≤ 64
 credit : s.credit ≤ 1099511627776
 gs : gsOk s.gs = true
 cl : (s.cl.length : Int) = s.cpus
 cu : (s.cu.length : Int) = s.cpus
 sp : s.sp.length = s.gs.length
 cls : ∀ c, c < s.cl.length → clOk (s.cl.getD c 0) = true
 rows : ∀ g, g < s.sp.length → ((s.sp.getD g []).length : Int) = s.cpus
 spots : ∀ (g c : Nat), g < s.sp.length → (c : Int) < s.cpus → spOk s g (s.spot g c) = true
 sort : SortT s.ts
 tasks : ∀ t ∈ s.ts, TkGood t s.cpus s.sp.length
def CurS (s : Sta) : Prop := ∀ c, c < s.cu.length → s.cu.getD c 0 = 0 ∨ ∃ t ∈ s.ts, t.id = s.cu.getD c 0 ∧ t.ready = true ∧ t.cpu = (c : Int)
structure GoodS (s : Sta) : Prop where
 sh : Shp s
 cur : CurS s
theorem qra {s : Sta} : (∀ i, i < s.ts.length → (i = 0 ∨ (s.ts.getD (i - 1) Tk.zero).id < (s.ts.getD i Tk.zero).id)) ↔ SortT s.ts := by
 constructor
 ·intro h i j hij
  induction j with
  | zero => omega
  | succ j ih =>
   intro hj
   have h1 := h (j + 1) hj
   rw [Nat.add_sub_cancel] at h1
   rcases Nat.lt_or_ge i j with h2 | h2
   ·have := ih h2 om; omega
   ·obtain rfl : i = j := by omega
    omega
 ·intro h i hi
  rcases Nat.eq_zero_or_pos i with h0 | h0
  ·exact .inl h0
  ·exact .inr (h (i - 1) i om hi)
theorem qam {α : Type} {l : List α} {x : α} (d : α) (h : x ∈ l) : ∃ i, i < l.length ∧ l.getD i d = x := by
 obtain ⟨i, hi, rfl⟩ := List.getElem_of_mem h
 exact ⟨i, hi, by rw [List.getD_eq_getElem?_getD, List.getElem?_eq_getElem hi]; rfl⟩
theorem qle {s : Sta} (hok : s.Ok) : zg s = true ↔ Shp s := by
 unfold zg cfgOk qqn
 simp only [Bool.and_eq_true, decide_eq_true_eq]
 constructor
 ·rintro ⟨⟨⟨⟨h1, h2, h3⟩, h4⟩, h5, h6, h7⟩, h8, h9, h10⟩
  have hr : ∀ g, g < s.sp.length → ((s.sp.getD g []).length : Int) = s.cpus ∧ ∀ c, c < (s.sp.getD g []).length → spOk s g (s.spot g c) = true := fun g hg => by
   have := qb0 h9 hg
   unfold rowOk at this
   rw [Bool.and_eq_true, decide_eq_true_eq] at this
   exact ⟨this.1, fun c hc => qb0 this.2 hc⟩
  have ht : ∀ i, i < s.ts.length → (i = 0 ∨ (s.ts.getD (i - 1) Tk.zero).id < (s.ts.getD i Tk.zero).id) ∧ tkOk1 s (s.ts.getD i Tk.zero) = true := fun i hi => by
   have := qb0 h10 hi
   unfold tkAt at this
   rw [Bool.and_eq_true, Bool.or_eq_true, beq_iff_eq, decide_eq_true_eq] at this
   exact this
  refine ⟨hok, ⟨h1, h2⟩, h3, h4, h5, h6, h7, fun c hc => qb0 h8 hc, fun g hg => (hr g hg).1, fun g c hg hc => (hr g hg).2 c (by have := (hr g hg).1; omega), qra.1 fun i hi => (ht i hi).1, fun t ht' => ?_⟩
  obtain ⟨i, hi, rfl⟩ := qam Tk.zero ht'
  exact qio.1 (ht i hi).2
 ·intro h
  refine ⟨⟨⟨⟨h.cpus.1, h.cpus.2, h.credit⟩, h.gs⟩, h.cl, h.cu, h.sp⟩, qbz h.cls, qbz fun g hg => ?_, qbz fun i hi => ?_⟩
  ·unfold rowOk
   rw [Bool.and_eq_true, decide_eq_true_eq]
   exact ⟨h.rows g hg, qbz fun c hc => h.spots g c hg (by have := h.rows g hg; omega)⟩
  ·unfold tkAt
   rw [Bool.and_eq_true, Bool.or_eq_true, beq_iff_eq, decide_eq_true_eq]
   exact ⟨qra.2 h.sort i hi, qio.2 (h.tasks _ (qg Tk.zero hi))⟩
theorem qw9 {l : List Tk} (hs : SortT l) (h1 : ∀ t ∈ l, 1 ≤ t.id) : ∀ i : Nat, i < l.length → ((i : Nat) : Int) + 1 ≤ (l.getD i Tk.zero).id
 | 0, h => by have := h1 _ (qg Tk.zero h); omega
 | i + 1, h => by
  have := qw9 hs h1 i om
  have := hs i (i + 1) om h
  omega
theorem Shp.few {s : Sta} (h : Shp s) : s.ts.length ≤ 65535 := by
 rcases Nat.eq_zero_or_pos s.ts.length with h0 | h0
 ·omega
 ·have h1 := qw9 h.sort (fun t ht => (h.tasks t ht).id.1) (s.ts.length - 1) om
  have h2 := (h.tasks _ (qg Tk.zero (show s.ts.length - 1 < s.ts.length by omega))).id.2
  omega
theorem q5c {l : List Tk} (hs : SortT l) {t u : Tk} (ht : t ∈ l) (hu : u ∈ l) (h : t.id = u.id) : t = u := by
 obtain ⟨i, hi, rfl⟩ := qam Tk.zero ht
 obtain ⟨j, hj, rfl⟩ := qam Tk.zero hu
 rcases Nat.lt_or_ge i j with h1 | h1
 ·have := hs i j h1 hj; omega
 ·rcases Nat.lt_or_ge j i with h2 | h2
  ·have := hs j i h2 hi; omega
  ·rw [show i = j by omega]
theorem qxa {l : List Tk} (hs : SortT l) {i : Nat} (hi : i < l.length) : fidx l (l.getD i Tk.zero).id = (i : Int) := by
 unfold fidx
 rw [qib hi rfl (fun k hk => by have := hs k i hk hi; omega)]
theorem qlf {s : Sta} (hs : SortT s.ts) : (∀ c, c < s.cu.length → curOk s c = true) ↔ CurS s := by
 have key : ∀ c, curOk s c = true ↔ (s.cu.getD c 0 = 0 ∨ ∃ t ∈ s.ts, t.id = s.cu.getD c 0 ∧ t.ready = true ∧ t.cpu = (c : Int)) := by
  intro c
  unfold curOk
  rw [Bool.or_eq_true, decide_eq_true_eq]
  refine or_congr Iff.rfl ?_
  constructor
  ·intro h
   split at h
   ·rename_i i hi
    rw [Bool.and_eq_true, decide_eq_true_eq] at h
    have := qv9 hi
    exact ⟨_, qg Tk.zero this.1, this.2, h.1, h.2⟩
   ·cases h
  ·rintro ⟨t, ht, h1, h2, h3⟩
   obtain ⟨i, hi, rfl⟩ := qam Tk.zero ht
   rw [← h1, qib hi rfl (fun k hk => by have := hs k i hk hi; omega)]
   dsimp only
   rw [h2, h3, decide_eq_true rfl]
   rfl
 exact ⟨fun h c hc => (key c).1 (h c hc), fun h c hc => (key c).2 (h c hc)⟩
theorem qlg {y : Stm} (h : Shp y.sta) : MdOk y y.gs.length y.cl.length y.cu.length y.ts.length y.rs.length := by
 have h1 := (qo h.gs).2.1
 have hg : y.gs.length ≤ 256 := h1
 have h2 : y.rs.length = y.gs.length := by rw [← zo]; exact h.sp
 have h3 : (y.cl.length : Int) = y.cpus := h.cl
 have h4 : (y.cu.length : Int) = y.cpus := h.cu
 have h5 : 1 ≤ y.cpus ∧ y.cpus ≤ 64 := h.cpus
 have h6 : y.ts.length ≤ 65535 := h.few
 refine ⟨h.ok, ⟨by omega, by omega, by omega, by omega, by omega, fun r hr => ?_⟩, sh_at ((qle h.ok).2 h), ⟨rfl, rfl, rfl, rfl, rfl⟩⟩
 obtain ⟨g, hg, rfl⟩ := qam Rw.zero hr
 have h7 := h.rows g (by rw [zo]; exact hg)
 rw [rs_at hg] at h7
 have h8 : ((y.rs.getD g Rw.zero).l.length : Int) = y.cpus := h7
 omega
section
variable {s : Sta} {g c i : Nat} {z : Sp} {t t' : Tk}
theorem q09 (hg : g < s.sp.length) (hc : c < (s.sp.getD g []).length) : ∀ g' c', (s.qjb g c z).spot g' c' = if g' = g ∧ c' = c then z else s.spot g' c' := by
 intro g' c'
 unfold Sta.spot Sta.qjb
 dsimp only
 by_cases e : g = g'
 ·subst e
  rw [qj _ _ hg]
  by_cases e2 : c = c'
  ·subst e2; rw [qj _ _ hc, if_pos ⟨rfl, rfl⟩]
  ·rw [getD_set_ne _ _ e2, if_neg (fun h => e2 h.2.symm)]
 ·rw [getD_set_ne _ _ e, if_neg (fun h => e h.1.symm)]
theorem qc0 : (s.qjb g c z).sp.length = s.sp.length := List.length_set ..
theorem qnj (g' : Nat) : ((s.qjb g c z).sp.getD g' []).length = (s.sp.getD g' []).length := by
 unfold Sta.qjb
 dsimp only
 by_cases e : g = g'
 ·subst e
  rcases Nat.lt_or_ge g s.sp.length with h | h
  ·rw [qj _ _ h, List.length_set]
  ·rw [List.set_eq_of_length_le h]
 ·rw [getD_set_ne _ _ e]
theorem Shp.spot (h : Shp s) (hg : g < s.sp.length) (hc : (c : Int) < s.cpus) (hz : z.Ok) (hs : spOk s g z = true) : Shp (s.qjb g c z) := by
 have hrow := h.rows g hg
 have hsp := q09 (z := z) hg (show c < (s.sp.getD g []).length by omega)
 refine ⟨⟨h.ok.cpus, h.ok.credit, h.ok.gs, h.ok.cl, h.ok.cu, h.ok.ts, fun l hl y hy => ?_⟩, h.cpus, h.credit, h.gs, h.cl, h.cu, qc0.trans h.sp, h.cls, fun g' hg' => ?_, fun g' c' hg' hc' => ?_, h.sort, fun u hu => ?_⟩
 ·rcases List.mem_or_eq_of_mem_set (show l ∈ s.sp.set g ((s.sp.getD g []).set c z) from hl) with h1 | rfl
  ·exact h.ok.sp l h1 y hy
  ·rcases List.mem_or_eq_of_mem_set hy with h2 | rfl
   ·exact h.ok.sp _ (qg [] hg) y h2
   ·exact hz
 ·rw [qnj]; exact h.rows g' (by rwa [qc0] at hg')
 ·rw [hsp]
  rw [qc0] at hg'
  split
  ·rename_i e; rw [e.1]; exact hs
  ·exact h.spots g' c' hg' hc'
 ·rw [qc0]; exact h.tasks u hu
theorem q1a {l : List Tk} (hs : SortT l) (ht : l[i]? = some t) (hid : t'.id = t.id) : SortT (l.set i t') := by
 have key : ∀ k, ((l.set i t').getD k Tk.zero).id = (l.getD k Tk.zero).id := by
  intro k
  have hi := (List.getElem?_eq_some_iff.1 ht).1
  by_cases e : i = k
  ·subst e; rw [qj _ _ hi, qad Tk.zero ht, hid]
  ·rw [getD_set_ne _ _ e]
 intro a b hab hb
 rw [List.length_set] at hb
 rw [key, key]
 exact hs a b hab hb
theorem Shp.task (h : Shp s) (ht : s.ts[i]? = some t) (hid : t'.id = t.id) (ho : t'.Ok) (hg : TkGood t' s.cpus s.sp.length) : Shp (s.setT i t') := by
 refine ⟨⟨h.ok.cpus, h.ok.credit, h.ok.gs, h.ok.cl, h.ok.cu, fun u hu => ?_, h.ok.sp⟩, h.cpus, h.credit, h.gs, h.cl, h.cu, h.sp, h.cls, h.rows, h.spots, q1a h.sort ht hid, fun u hu => ?_⟩
 ·rcases List.mem_or_eq_of_mem_set hu with h1 | rfl
  ·exact h.ok.ts u h1
  ·exact ho
 ·rcases List.mem_or_eq_of_mem_set hu with h1 | rfl
  ·exact h.tasks u h1
  ·exact hg
theorem CurS.task (h : CurS s) (hs : SortT s.ts) (ht : s.ts[i]? = some t) (hid : t'.id = t.id) (hr : t.ready = true → (∃ c, c < s.cu.length ∧ s.cu.getD c 0 = t.id ∧ t.cpu = (c : Int)) → t'.ready = true ∧ t'.cpu = t.cpu) : CurS (s.setT i t') := by
 intro c hc
 rcases h c hc with h1 | ⟨u, hu, h1, h2, h3⟩
 ·exact .inl h1
 ·refine .inr ?_
  have hi := (List.getElem?_eq_some_iff.1 ht).1
  have htm : t ∈ s.ts := List.mem_of_getElem? ht
  by_cases e : u.id = t.id
  ·have e2 := q5c hs hu htm e
   subst e2
   obtain ⟨h4, h5⟩ := hr h2 ⟨c, hc, h1.symm, h3⟩
   exact ⟨t', List.mem_of_getElem? (List.getElem?_set_self hi), hid.trans h1, h4, h5.trans h3⟩
  ·obtain ⟨j, hj, rfl⟩ := qam Tk.zero hu
   have hij : i ≠ j := fun e2 => e (by subst e2; rw [qad Tk.zero ht])
   refine ⟨s.ts.getD j Tk.zero, ?_, h1, h2, h3⟩
   have h6 : (s.ts.set i t')[j]? = some (s.ts.getD j Tk.zero) := by rw [List.getElem?_set_ne hij]; exact getD_at Tk.zero hj
   exact List.mem_of_getElem? h6
theorem CurS.spot (h : CurS s) : CurS (s.qjb g c z) := h
end
section
variable {s : Sta} {g c i d : Nat} {z : Sp} {t t' : Tk} {e : En} {o : Op30}
theorem qxb (h : Shp s) (hg : g < s.gs.length) : ∃ w : Nat, (s.gs.getD g Gr.zero).weight = (w : Int) ∧ 1 ≤ w ∧ w ≤ 65536 := qcx h.gs hg
theorem q1b (h0 : 0 < g) (h : entOk z.v z.r (s.gs.getD g Gr.zero).weight = true) : spOk s g z = true := by
 unfold spOk
 rw [h, show (g != 0) = true from bne_iff_ne.2 om]
 rfl
theorem q1c (h : Shp s) (hg : g < s.sp.length) (hc : (c : Int) < s.cpus) : entOk (s.spot g c).v (s.spot g c).r (s.gs.getD g Gr.zero).weight = true := by
 have := h.spots g c hg hc
 unfold spOk at this
 rw [Bool.and_eq_true] at this
 exact this.1
theorem qxc (h : Shp s) (hg : g < s.sp.length) (hc : (c : Int) < s.cpus) : (s.spEn g c).Ok ∧ ((s.spEn g c).w : Int) = (s.gs.getD g Gr.zero).weight := by
 obtain ⟨w, hw, _⟩ := qxb h (g := g) (by rw [← h.sp]; exact hg)
 have h1 := q1c h hg hc
 have e : s.spEn g c = ⟨(s.spot g c).v, (s.spot g c).r, w⟩ := by unfold Sta.spEn; rw [hw]; rfl
 rw [e]
 exact ⟨En.qjm h1 hw (qdc h.ok g c).v, hw.symm⟩
theorem ent_r {v r w : Nat} (h : entOk v r w = true) : r < 65536 := by
 unfold entOk at h
 rw [decide_eq_true_eq] at h
 omega
theorem Shp.run (h : Shp s) (h0 : 0 < g) (hg : g < s.sp.length) (hc : (c : Int) < s.cpus) (he : e.Ok) (hw : (e.w : Int) = (s.gs.getD g Gr.zero).weight) : Shp (s.qjc g c e) := by
 refine h.spot hg hc ⟨he.2, ?_, (qdc h.ok g c).floor⟩ (q1b h0 ?_)
 ·show e.r < _
  have := ent_r he.1
  omega
 ·show entOk e.v e.r _ = true
  rw [← hw]; exact he.1
theorem qxd : (s.qjc g c e).sp.length = s.sp.length := qc0
theorem Shp.wake (h : Shp s) (hc : (c : Int) < s.cpus) : ∀ (l : List Nat), (∀ g ∈ l, 0 < g ∧ g < s.sp.length) → Shp (wakeS s l c) := by
 intro l
 induction l generalizing s with
 | nil => intro _; exact h
 | cons g r ih =>
  intro hl
  have hg := hl g (List.mem_cons_self ..)
  have h1 := qxc h hg.2 hc
  have h2 := En.qho h1.1 (s.spot (s.par g).toNat c).floor s.credit (qdc h.ok _ _).floor
  have h3 : Shp (wake1 c s g) := h.run hg.1 hg.2 hc h2.1 (by rw [h2.2]; exact h1.2)
  exact ih (s := wake1 c s g) h3 hc fun g' hg' => ⟨(hl g' (List.mem_cons_of_mem _ hg')).1, by rw [show (wake1 c s g).sp.length = s.sp.length from qxd]; exact (hl g' (List.mem_cons_of_mem _ hg')).2⟩
structure SameBut (s s' : Sta) : Prop where
 cpus : s'.cpus = s.cpus
 credit : s'.credit = s.credit
 gs : s'.gs = s.gs
 cl : s'.cl = s.cl
 cu : s'.cu = s.cu
 ts : s'.ts = s.ts
 len : s'.sp.length = s.sp.length
 row : ∀ g, (s'.sp.getD g []).length = (s.sp.getD g []).length
theorem SameBut.refl (s : Sta) : SameBut s s := ⟨rfl, rfl, rfl, rfl, rfl, rfl, rfl, fun _ => rfl⟩
theorem SameBut.trans {a b c : Sta} (h : SameBut a b) (k : SameBut b c) : SameBut a c := ⟨k.cpus.trans h.cpus, k.credit.trans h.credit, k.gs.trans h.gs, k.cl.trans h.cl, k.cu.trans h.cu, k.ts.trans h.ts, k.len.trans h.len, fun g => (k.row g).trans (h.row g)⟩
theorem SameBut.spot : SameBut s (s.qjb g c z) := ⟨rfl, rfl, rfl, rfl, rfl, rfl, qc0, qnj⟩
theorem qb3 (c : Nat) : ∀ (l : List Nat) (s : Sta), SameBut s (wakeS s l c)
 | [], s => SameBut.refl s
 | g :: r, s => (SameBut.spot (s := s)).trans (qb3 c r (wake1 c s g))
theorem qex (c d : Nat) : ∀ (f g : Nat) (s : Sta), SameBut s (qaa c d f g s)
 | 0, _, s => SameBut.refl s
 | f + 1, g, s => by
  rw [qaa]
  split
  ·exact SameBut.refl s
  ·exact (SameBut.spot (s := s)).trans (qex c d f _ _)
theorem Shp.charge (h : Shp s) (hc : (c : Int) < s.cpus) (d : Nat) : ∀ (f g : Nat), g < s.sp.length → Shp (qaa c d f g s) := by
 intro f
 induction f generalizing s with
 | zero => intro g _; exact h
 | succ f ih =>
  intro g hg
  rw [qaa]
  split
  ·exact h
  ·rename_i h0
   have h1 := qxc h hg hc
   have h2 := En.qsw h1.1 d
   have h3 : Shp (s.qjc g c ((s.spEn g c).add d)) := h.run om hg hc h2.1 (by rw [h2.2]; exact h1.2)
   have hp := qa1 h.gs (g := g) (by rw [← h.sp]; exact hg) g om (Nat.le_refl _)
   unfold ParB at hp
   exact ih (s := s.qjc g c ((s.spEn g c).add d)) h3 hc _ (by rw [qxd]; show (s.gs.getD g Gr.zero).parent.toNat < _; omega)
theorem qlh (hg : g < s.sp.length) : (riseS s).sp.getD g [] = (s.sp.getD g []).mapIdx fun c x => rise1 s g c x := by
 unfold riseS
 dsimp only
 rw [List.getD_eq_getElem?_getD, List.getElem?_mapIdx, List.getElem?_eq_getElem hg, List.getD_eq_getElem?_getD, List.getElem?_eq_getElem hg]
 rfl
theorem qbw : (riseS s).sp.length = s.sp.length := by unfold riseS; dsimp only; rw [List.length_mapIdx]
theorem qrb (g : Nat) : ((riseS s).sp.getD g []).length = (s.sp.getD g []).length := by
 rcases Nat.lt_or_ge g s.sp.length with h | h
 ·rw [qlh h, List.length_mapIdx]
 ·rw [List.getD_eq_getElem?_getD, List.getElem?_eq_none (by rw [qbw]; exact h), List.getD_eq_getElem?_getD, List.getElem?_eq_none h]
theorem qnk (hg : g < s.sp.length) (hc : c < (s.sp.getD g []).length) : (riseS s).spot g c = rise1 s g c (s.spot g c) := by
 unfold Sta.spot
 rw [qlh hg, List.getD_eq_getElem?_getD (l := List.mapIdx _ _), List.getElem?_mapIdx, List.getElem?_eq_getElem hc, List.getD_eq_getElem?_getD (l := s.sp.getD g []), List.getElem?_eq_getElem hc]
 rfl
theorem qpl (g c : Nat) : ((riseS s).spot g c).v = (s.spot g c).v ∧ ((riseS s).spot g c).r = (s.spot g c).r := by
 rcases Nat.lt_or_ge g s.sp.length with hg | hg
 ·rcases Nat.lt_or_ge c (s.sp.getD g []).length with hc | hc
  ·rw [qnk hg hc]; exact qwu ..
  ·unfold Sta.spot
   rw [List.getD_eq_getElem?_getD (l := (riseS s).sp.getD g []), List.getElem?_eq_none (by rw [qrb]; exact hc), List.getD_eq_getElem?_getD (l := s.sp.getD g []), List.getElem?_eq_none hc]
   exact ⟨rfl, rfl⟩
 ·unfold Sta.spot
  rw [List.getD_eq_getElem?_getD (l := (riseS s).sp), List.getElem?_eq_none (by rw [qbw]; exact hg), List.getD_eq_getElem?_getD (l := s.sp), List.getElem?_eq_none hg]
  exact ⟨rfl, rfl⟩
theorem q1d (g c : Nat) : memS (riseS s) g c = memS s g c := qj3 (s := riseS s) (s' := s) rfl rfl qbw (fun h => (qpl h c).1) g
theorem q75 (hok : s.Ok) (hn : memS s g c ≠ []) : (bestM topM (memS s g c)).v < 18446744073709551616 := by
 rcases qec (qpe hok hn) with ⟨t, ht, _, h2⟩ | ⟨h, _, _, _, _, h5⟩
 ·rw [h2]; exact (hok.ts t ht).v
 ·rw [h5]; exact (qdc hok h c).v
theorem q1e (hok : s.Ok) (hz : z.Ok) : (rise1 s g c z).Ok := by
 unfold rise1
 split
 ·exact hz
 ·rename_i hn
  have := q75 hok (show memS s g c ≠ [] by simpa using hn)
  refine ⟨hz.v, hz.r, ?_⟩
  show max z.floor (bestM topM (memS s g c)).v < _
  have := hz.floor
  rw [Nat.max_def]
  split <;> omega
theorem q5d {s s' : Sta} (hgs : s'.gs = s.gs) {z z' : Sp} (hv : z'.v = z.v) (hr : z'.r = z.r) : spOk s' g z' = spOk s g z := by
 unfold spOk
 rw [hgs, hv, hr]
theorem Shp.rise (h : Shp s) : Shp (riseS s) := by
 refine ⟨⟨h.ok.cpus, h.ok.credit, h.ok.gs, h.ok.cl, h.ok.cu, h.ok.ts, fun l hl y hy => ?_⟩, h.cpus, h.credit, h.gs, h.cl, h.cu, qbw.trans h.sp, h.cls, fun g hg => ?_, fun g c hg hc => ?_, h.sort, fun u hu => ?_⟩
 ·obtain ⟨g, hg, rfl⟩ := qam [] hl
  rw [qbw] at hg
  rw [qlh hg] at hy
  obtain ⟨c, hc, rfl⟩ := List.getElem_of_mem hy
  rw [List.getElem_mapIdx]
  exact q1e h.ok (h.ok.sp _ (qg [] hg) _ (List.getElem_mem _))
 ·rw [qrb]; exact h.rows g (by rwa [qbw] at hg)
 ·rw [qbw] at hg
  have e := q5d (s := s) (s' := riseS s) (g := g) rfl (qpl (s := s) g c).1 (qpl (s := s) g c).2
  rw [e]
  exact h.spots g c hg hc
 ·rw [qbw]; exact h.tasks u hu
theorem GoodS.rise (h : GoodS s) : GoodS (riseS s) := ⟨h.sh.rise, h.cur⟩
theorem qtu (h : GoodS s) : zl (riseS s) = true := by
 have hr := h.rise
 unfold zl
 rw [(qle hr.sh.ok).2 hr.sh, Bool.true_and]
 refine qbz fun c hc => ?_
 rw [(qlf hr.sh.sort).2 hr.cur c hc, Bool.true_and]
 refine qbz fun g hg => ?_
 rw [qbw] at hg
 have hcl : (c : Int) < s.cpus := by have h1 := h.sh.cu; have h2 : c < s.cu.length := hc; omega
 have hc2 : c < (s.sp.getD g []).length := by have := h.sh.rows g hg; omega
 unfold lowS
 rw [decide_eq_true_eq, q1d, qnk hg hc2]
 by_cases hm : memS s g c = []
 ·exact .inl hm
 ·refine .inr ?_
  unfold rise1
  rw [if_neg (by simpa using hm)]
  exact Nat.le_max_right ..
theorem qgl (hok : s.Ok) (h : zl s = true) : GoodS s := by
 unfold zl at h
 rw [Bool.and_eq_true] at h
 have h1 := (qle hok).1 h.1
 refine ⟨h1, (qlf h1.sort).1 fun c hc => ?_⟩
 have := qb0 h.2 hc
 rw [Bool.and_eq_true] at this
 exact this.1
theorem qis (h : Shp s) (ht : s.ts[i]? = some t) : TkGood t s.cpus s.sp.length ∧ t.Ok := ⟨h.tasks t (List.mem_of_getElem? ht), h.ok.ts t (List.mem_of_getElem? ht)⟩
theorem qhf (hg : TkGood t s.cpus s.sp.length) (ho : t.Ok) (he : e.Ok) : TkGood (t.put e) s.cpus s.sp.length ∧ (t.put e).Ok := by
 have h1 := he.1
 unfold entOk at h1
 rw [decide_eq_true_eq] at h1
 refine ⟨⟨hg.id, hg.group, hg.cpu, ⟨h1.1, h1.2.1⟩, hg.mask, hg.bit, he.1⟩, ⟨ho.id, ho.group, ?_, ho.cpu, ho.mask, he.2, ?_⟩⟩
 ·show I64 ((e.w : Nat) : Int); unfold I64; omega
 ·show e.r < _; omega
theorem qj8 (hg : TkGood t s.cpus s.sp.length) (ho : t.Ok) (b : Bool) : TkGood { t with ready := b } s.cpus s.sp.length ∧ ({ t with ready := b } : Tk).Ok := ⟨⟨hg.id, hg.group, hg.cpu, hg.weight, hg.mask, hg.bit, hg.ent⟩, ⟨ho.id, ho.group, ho.weight, ho.cpu, ho.mask, ho.v, ho.r⟩⟩
theorem qli (hg : TkGood t s.cpus s.sp.length) (ho : t.Ok) : t.en.Ok ∧ (t.en.w : Int) = t.weight := by
 have h1 := hg.weight
 have e : t.en = ⟨t.v, t.r, t.weight.toNat⟩ := rfl
 rw [e]
 exact ⟨En.qjm hg.ent om ho.v, by show ((t.weight.toNat : Nat) : Int) = t.weight; omega⟩
theorem qlj {id : Int} (h : ¬ fidx s.ts id < 0) : ∃ (k : Nat) (t : Tk), fidx s.ts id = (k : Int) ∧ s.ts[k]? = some t ∧ t.id = id ∧ tkOf s id = t := by
 obtain ⟨k, t, h1, h2, _, h3⟩ := qip h
 exact ⟨k, t, h1, h2, h3, qcn h1 h2⟩
theorem qgm (h : Shp s) (hg : g < s.sp.length) : ∀ k ∈ zi s g c, 0 < k ∧ k < s.sp.length := fun k hk => by
 have := qj1 (s := s) (c := c) (g := g) (qa1 h.gs (by rw [← h.sp]; exact hg)) k hk
 exact ⟨this.1, by omega⟩
theorem CurS.but {s s' : Sta} (h : CurS s) (hb : SameBut s s') : CurS s' := by
 unfold CurS
 rw [hb.cu, hb.ts]
 exact h
theorem qtv (h : GoodS s) (he : (qfm s o).2.2 = 0) : GoodS (qfm s o).1 := by
 unfold qfm at he ⊢
 split at he
 ·cases he
 ·split at he
  ·cases he
  ·rename_i h1 h2
   rw [if_neg h1, if_neg h2]
   split at he
   ·cases he
   ·rename_i h3
    rw [if_neg h3]
    obtain ⟨k, t, hk, ht, hid, htk⟩ := qlj h2
    rw [htk] at h3
    simp only [htk, hk, Int.toNat_natCast]
    obtain ⟨hg, ho⟩ := qis h.sh ht
    have hgl : t.group.toNat < s.sp.length := by have := hg.group; omega
    have hen := qli hg ho
    have hw := En.qho hen.1 (s.spot t.group.toNat t.cpu.toNat).floor s.credit (qdc h.sh.ok _ _).floor
    have hp := qhf hg ho hw.1
    have hr := qj8 hp.1 hp.2 true
    have hs1 : Shp (s.setT k { t.put (t.en.woken (s.spot t.group.toNat t.cpu.toNat).floor s.credit) with ready := true }) := h.sh.task ht rfl hr.2 hr.1
    have hc1 : CurS (s.setT k { t.put (t.en.woken (s.spot t.group.toNat t.cpu.toNat).floor s.credit) with ready := true }) := h.cur.task h.sh.sort ht rfl fun hh _ => absurd hh h3
    exact ⟨hs1.wake (by show ((t.cpu.toNat : Nat) : Int) < s.cpus; have := hg.cpu; omega) _ (qgm h.sh hgl), hc1.but (qb3 ..)⟩
theorem qlk (h : GoodS s) (he : (qa2 s o).2.2 = 0) : GoodS (qa2 s o).1 := by
 unfold qa2 at he ⊢
 split at he
 ·cases he
 ·split at he
  ·cases he
  ·rename_i h1 h2
   rw [if_neg h1, if_neg h2]
   split at he
   ·cases he
   ·rename_i h3
    rw [if_neg h3]
    obtain ⟨k, t, hk, ht, hid, htk⟩ := qlj h3
    simp only [htk, hk, Int.toNat_natCast]
    obtain ⟨hg, ho⟩ := qis h.sh ht
    have hw : 1 ≤ o.weight ∧ o.weight ≤ 65536 := by simpa [wOk] using h2
    obtain ⟨z, hz⟩ : ∃ z : Nat, o.weight = (z : Int) := ⟨o.weight.toNat, by omega⟩
    have hp := qhf hg ho (e := ⟨t.v, 0, z⟩) ⟨by unfold entOk; rw [decide_eq_true_eq]; exact ⟨by show (1 : Int) ≤ (z : Int); omega, by show (z : Int) ≤ _; omega, by show ((0 : Nat) : Int) < (z : Int); omega, .inr rfl⟩, ho.v⟩
    have e : ({ t with r := 0, weight := o.weight } : Tk) = t.put ⟨t.v, 0, z⟩ := by rw [hz]; rfl
    rw [e]
    exact ⟨h.sh.task ht rfl hp.2 hp.1, h.cur.task h.sh.sort ht rfl fun hh _ => ⟨hh, rfl⟩⟩
theorem q5e (h : Shp s) {v : Int} (hv : 0 ≤ v ∧ v ≤ 281474976710656) : Shp { s with cl := s.cl.set c v } := by
 refine ⟨⟨h.ok.cpus, h.ok.credit, h.ok.gs, fun z hz => ?_, h.ok.cu, h.ok.ts, h.ok.sp⟩, h.cpus, h.credit, h.gs, by show ((s.cl.set c v).length : Int) = _; rw [List.length_set]; exact h.cl, h.cu, h.sp, fun d hd => ?_, h.rows, h.spots, h.sort, h.tasks⟩
 ·rcases List.mem_or_eq_of_mem_set hz with h1 | rfl
  ·exact h.ok.cl z h1
  ·unfold I64; omega
 ·have hd' : d < (s.cl.set c v).length := hd
  show clOk ((s.cl.set c v).getD d 0) = true
  rw [List.length_set] at hd'
  by_cases e : c = d
  ·subst e
   rw [qj _ _ hd']
   unfold clOk
   rw [decide_eq_true hv]
  ·rw [getD_set_ne _ _ e]
   exact h.cls d hd'
theorem qxe (h : Shp s) {v : Int} (hv : I64 v) : Shp { s with cu := s.cu.set c v } := by
 refine ⟨⟨h.ok.cpus, h.ok.credit, h.ok.gs, h.ok.cl, fun z hz => ?_, h.ok.ts, h.ok.sp⟩, h.cpus, h.credit, h.gs, h.cl, by show ((s.cu.set c v).length : Int) = _; rw [List.length_set]; exact h.cu, h.sp, h.cls, h.rows, h.spots, h.sort, h.tasks⟩
 rcases List.mem_or_eq_of_mem_set hz with h1 | rfl
 ·exact h.ok.cu z h1
 ·exact hv
theorem qj9 {x : Int} (h : ¬ s.qd1 x = false) : 0 ≤ x ∧ x < s.cpus := by
 unfold Sta.qd1 at h
 simpa using h
theorem qxf (h : GoodS s) (he : (tickS s o).2.2 = 0) : GoodS (tickS s o).1 := by
 unfold tickS at he ⊢
 split at he
 ·cases he
 ·split at he
  ·cases he
  ·rename_i h1 h2
   rw [if_neg h1, if_neg h2]
   split at he
   ·cases he
   ·rename_i h3
    rw [if_neg h3]
    have hc := qj9 h1
    have hcl := h.sh.cls o.cpu.toNat (by have := h.sh.cl; omega)
    have hcl2 : 0 ≤ s.cl.getD o.cpu.toNat 0 ∧ s.cl.getD o.cpu.toNat 0 ≤ 281474976710656 := by unfold clOk at hcl; simpa using hcl
    have hs1 : Shp { s with cl := s.cl.set o.cpu.toNat (s.cl.getD o.cpu.toNat 0 + o.ticks) } := q5e h.sh ⟨by omega, by omega⟩
    dsimp only at he ⊢
    by_cases h4 : s.cu.getD o.cpu.toNat 0 = 0
    ·rw [if_pos h4]; exact ⟨hs1, h.cur⟩
    ·rw [if_neg h4]
     rcases h.cur o.cpu.toNat (by have := h.sh.cu; omega) with h5 | ⟨t, htm, hid, hr, hcp⟩
     ·exact absurd h5 h4
     ·obtain ⟨k, hk, rfl⟩ := qam Tk.zero htm
      have hf := qxa h.sh.sort hk
      have ht := getD_at Tk.zero hk
      obtain ⟨t, hte⟩ : ∃ t, s.ts.getD k Tk.zero = t := ⟨_, rfl⟩
      rw [hte] at hid hr hcp hf ht
      rw [← hid, hf, qcn hf ht, Int.toNat_natCast]
      obtain ⟨hg, ho⟩ := qis h.sh ht
      have hen := qli hg ho
      have ha := En.qsw hen.1 o.ticks.toNat
      have hp := qhf hg ho ha.1
      have hs2 : Shp ({ s with cl := s.cl.set o.cpu.toNat (s.cl.getD o.cpu.toNat 0 + o.ticks) }.setT k (t.put (t.en.add o.ticks.toNat))) := hs1.task ht rfl hp.2 hp.1
      have hc2 : CurS ({ s with cl := s.cl.set o.cpu.toNat (s.cl.getD o.cpu.toNat 0 + o.ticks) }.setT k (t.put (t.en.add o.ticks.toNat))) := CurS.task (s := { s with cl := s.cl.set o.cpu.toNat (s.cl.getD o.cpu.toNat 0 + o.ticks) }) h.cur h.sh.sort ht rfl fun hh _ => ⟨hh, rfl⟩
      exact ⟨hs2.charge (by show ((o.cpu.toNat : Nat) : Int) < s.cpus; omega) _ _ _ (by show t.group.toNat < s.sp.length; have := hg.group; omega), hc2.but (qex ..)⟩
theorem q1f (hok : s.Ok) : ∀ (n g : Nat), g < s.sp.length → s.sp.length - g ≤ n → qdv s c g = 0 ∨ ∃ t ∈ s.ts, t.ready = true ∧ t.cpu = (c : Int) ∧ qdv s c g = t.id.toNat := by
 intro n
 induction n with
 | zero => intro g hg hn; omega
 | succ n ih =>
  intro g hg hn
  by_cases hm : memS s g c = []
  ·exact .inl (qik hg hm)
  ·rcases qed hok hm with ⟨h0, t, ht, hh, hb⟩ | ⟨h1, k, hk, h2, h3, _⟩
   ·refine .inr ⟨t, ht, ?_⟩
    unfold Tk.here at hh
    rw [Bool.and_eq_true, Bool.and_eq_true, decide_eq_true_eq, decide_eq_true_eq] at hh
    refine ⟨hh.1, hh.2.2, ?_⟩
    rw [qil hg hm h0, hb]
   ·rw [(qim hok hg hm om).1, hk]
    exact ih k h3 om
theorem qxg (h : GoodS s) (he : (pickS s o).2.2 = 0) : GoodS (pickS s o).1 := by
 unfold pickS at he ⊢
 split at he
 ·cases he
 ·rename_i h1
  rw [if_neg h1]
  have hc := qj9 h1
  have hgl := (qo h.sh.gs).1
  have hf := q1f (c := o.cpu.toNat) h.sh.ok s.sp.length 0 (by rw [h.sh.sp]; omega) om
  rw [← qws] at hf
  have hb : I64 ((qag s o.cpu.toNat : Nat) : Int) := by
   unfold I64
   rcases hf with h2 | ⟨t, ht, _, _, h2⟩
   ·omega
   ·have := (h.sh.tasks t ht).id; omega
  refine ⟨qxe h.sh hb, fun d hd => ?_⟩
  have hd' : d < s.cu.length := by have h3 : d < (s.cu.set o.cpu.toNat (qag s o.cpu.toNat : Int)).length := hd; rwa [List.length_set] at h3
  show (s.cu.set o.cpu.toNat (qag s o.cpu.toNat : Int)).getD d 0 = 0 ∨ _
  by_cases e : o.cpu.toNat = d
  ·have e2 : (s.cu.set o.cpu.toNat (qag s o.cpu.toNat : Int)).getD d 0 = (qag s o.cpu.toNat : Int) := by rw [← e]; exact qj _ _ (by rw [e]; exact hd')
   show (s.cu.set o.cpu.toNat (qag s o.cpu.toNat : Int)).getD d 0 = 0 ∨ ∃ t ∈ s.ts, t.id = (s.cu.set o.cpu.toNat (qag s o.cpu.toNat : Int)).getD d 0 ∧ _
   rw [e2]
   rcases hf with h2 | ⟨t, ht, h3, h4, h2⟩
   ·exact .inl om
   ·exact .inr ⟨t, ht, by have := (h.sh.tasks t ht).id; omega, h3, by rw [h4, e]⟩
  ·show (s.cu.set o.cpu.toNat (qag s o.cpu.toNat : Int)).getD d 0 = 0 ∨ ∃ t ∈ s.ts, t.id = (s.cu.set o.cpu.toNat (qag s o.cpu.toNat : Int)).getD d 0 ∧ _
   rw [getD_set_ne _ _ e]
   exact h.cur d hd'
end
section
variable {s : Sta} {g c i d : Nat} {t t' : Tk} {o : Op30}
theorem qka {l l' : List Gr} (h : ∀ g, (l.getD g Gr.zero).parent = (l'.getD g Gr.zero).parent) : ∀ f g, depF l f g = depF l' f g
 | 0, _ => rfl
 | f + 1, g => by rw [depF, depF, h g, qka h f]
theorem q1g {l : List Gr} {w : Int} (h : gsOk l = true) (h0 : 0 < g) (hg : g < l.length) (hw : wOk w = true) : gsOk (l.set g { l.getD g Gr.zero with weight := w }) = true := by
 obtain ⟨h1, h2, h3, h4⟩ := qo h
 have hp : ∀ k, ((l.set g { l.getD g Gr.zero with weight := w }).getD k Gr.zero).parent = (l.getD k Gr.zero).parent := fun k => by
  by_cases e : g = k
  ·subst e; rw [qj _ _ hg]
  ·rw [getD_set_ne _ _ e]
 unfold gsOk
 rw [List.length_set, getD_set_ne _ _ om, decide_eq_true ⟨h1, h2, h3⟩, Bool.true_and]
 refine qbz fun k hk => ?_
 have := h4 k hk
 unfold gOk depG at this ⊢
 rw [hp, qka hp]
 by_cases e : g = k
 ·subst e
  rw [qj _ _ hg]
  rw [Bool.or_eq_true, beq_iff_eq, decide_eq_true_eq] at this ⊢
  rcases this with h5 | h5
  ·exact .inl h5
  ·exact .inr ⟨h5.1, h5.2.1, hw, h5.2.2.2⟩
 ·rw [getD_set_ne _ _ e]; exact this
theorem qnl (h : GoodS s) (he : (qbt s o).2.2 = 0) : GoodS (qbt s o).1 := by
 unfold qbt at he ⊢
 split at he
 ·cases he
 ·split at he
  ·cases he
  ·rename_i h1 h2
   rw [if_neg h1, if_neg h2]
   obtain ⟨g, hg⟩ : ∃ g : Nat, o.group = (g : Int) := ⟨o.group.toNat, by omega⟩
   rw [hg, Int.toNat_natCast]
   have hw : wOk o.weight = true := by simpa using h2
   have hw2 : 1 ≤ o.weight ∧ o.weight ≤ 65536 := by simpa [wOk] using h2
   have hgl : g < s.sp.length := by omega
   have hgg : g < s.gs.length := by rw [← h.sh.sp]; exact hgl
   have hgr := h.sh.ok.gs _ (qg Gr.zero hgg)
   have hlen : (s.sp.set g ((s.sp.getD g []).map fun x => { x with r := 0 })).length = s.sp.length := List.length_set ..
   have hsp : ∀ k e : Nat, ((s.sp.set g ((s.sp.getD g []).map fun x => { x with r := 0 })).getD k []).getD e Sp.zero = if k = g then r0 (s.spot k e) else s.spot k e := fun k e => by
    by_cases hk : g = k
    ·subst hk
     rw [qj _ _ hgl, if_pos rfl]
     show _ = r0 ((s.sp.getD g []).getD e Sp.zero)
     rw [List.getD_eq_getElem?_getD, List.getElem?_map, List.getD_eq_getElem?_getD (l := s.sp.getD g [])]
     cases (s.sp.getD g [])[e]? <;> rfl
    ·rw [getD_set_ne _ _ hk, if_neg (fun h => hk h.symm)]; rfl
   refine ⟨⟨⟨h.sh.ok.cpus, h.sh.ok.credit, fun x hx => ?_, h.sh.ok.cl, h.sh.ok.cu, h.sh.ok.ts, fun l hl y hy => ?_⟩, h.sh.cpus, h.sh.credit, q1g h.sh.gs om hgg hw, h.sh.cl, h.sh.cu, ?_, h.sh.cls, fun k hk => ?_, fun k e hk he => ?_, h.sh.sort, fun u hu => ?_⟩, h.cur⟩
   ·rcases List.mem_or_eq_of_mem_set hx with h3 | rfl
    ·exact h.sh.ok.gs x h3
    ·exact ⟨hgr.parent, by show I64 o.weight; unfold I64; omega⟩
   ·rcases List.mem_or_eq_of_mem_set hl with h3 | rfl
    ·exact h.sh.ok.sp l h3 y hy
    ·obtain ⟨z, hz, rfl⟩ := List.mem_map.1 hy
     have := h.sh.ok.sp _ (qg [] hgl) z hz
     exact ⟨this.v, by show 0 < _; omega, this.floor⟩
   ·rw [hlen, List.length_set]; exact h.sh.sp
   ·have hk' : k < s.sp.length := by rw [← hlen]; exact hk
    have := h.sh.rows k hk'
    show (((s.sp.set g ((s.sp.getD g []).map fun x => { x with r := 0 })).getD k []).length : Int) = s.cpus
    by_cases e : g = k
    ·subst e; rw [qj _ _ hgl, List.length_map]; exact this
    ·rw [getD_set_ne _ _ e]; exact this
   ·have hk' : k < s.sp.length := by rw [← hlen]; exact hk
    have h3 := h.sh.spots k e hk' he
    unfold spOk at h3 ⊢
    have e1 := hsp k e
    unfold Sta.spot at h3 ⊢ e1
    dsimp only at h3 ⊢ e1
    rw [e1]
    by_cases e2 : g = k
    ·subst e2
     rw [if_pos rfl, qj _ _ hgg]
     rw [Bool.and_eq_true] at h3 ⊢
     have h4 := h3.1
     unfold entOk at h4 ⊢
     rw [decide_eq_true_eq] at h4 ⊢
     refine ⟨⟨hw2.1, hw2.2, by show ((0 : Nat) : Int) < o.weight; omega, .inr rfl⟩, ?_⟩
     rw [show (g != 0) = true from bne_iff_ne.2 om]
     rfl
    ·rw [if_neg (fun h => e2 h.symm), getD_set_ne _ _ e2]; exact h3
   ·show TkGood u s.cpus (s.sp.set g _).length
    rw [hlen]
    exact h.sh.tasks u hu
theorem qnm (h : GoodS s) (ht : s.ts[i]? = some t) {to : Nat} (hto : (to : Int) < s.cpus) (hb : t.mask / 2 ^ to % 2 = 1) (hn : ∀ d, d < s.cu.length → s.cu.getD d 0 = t.id → t.cpu = (d : Int) → False) : GoodS (moveS s i (to : Int)) := by
 unfold moveS
 rw [qad Tk.zero ht]
 dsimp only
 rw [Int.toNat_natCast]
 obtain ⟨hg, ho⟩ := qis h.sh ht
 have hen := qli hg ho
 have hm := En.qsx hen.1 (s.spot t.group.toNat t.cpu.toNat).floor (s.spot t.group.toNat to).floor (qdc h.sh.ok _ _).floor
 have hp := qhf hg ho hm.1
 have hI : I64 (to : Int) := by have := h.sh.cpus; unfold I64; omega
 have hs1 : Shp (s.setT i { t.put (t.en.moved (s.spot t.group.toNat t.cpu.toNat).floor (s.spot t.group.toNat to).floor) with cpu := (to : Int) }) :=
  h.sh.task ht rfl ⟨hp.2.id, hp.2.group, hp.2.weight, hI, hp.2.mask, hp.2.v, hp.2.r⟩ ⟨hp.1.id, hp.1.group, ⟨by show (0 : Int) ≤ (to : Int); omega, hto⟩, hp.1.weight, hp.1.mask, by show t.mask / 2 ^ ((to : Int)).toNat % 2 = 1; rw [Int.toNat_natCast]; exact hb, hp.1.ent⟩
 have hc1 : CurS (s.setT i { t.put (t.en.moved (s.spot t.group.toNat t.cpu.toNat).floor (s.spot t.group.toNat to).floor) with cpu := (to : Int) }) :=
  h.cur.task h.sh.sort ht rfl fun _ ⟨d, h1, h2, h3⟩ => (hn d h1 h2 h3).elim
 have hgl : t.group.toNat < s.sp.length := by have := hg.group; omega
 split
 ·exact ⟨hs1.wake hto _ (qgm h.sh hgl), hc1.but (qb3 ..)⟩
 ·exact ⟨hs1, hc1⟩
theorem qxh {m : Nat} {x : Int} (h : bitOn m x = true) : m / 2 ^ x.toNat % 2 = 1 := of_decide_eq_true h
theorem qnn (h : GoodS s) (he : (qbu s o).2.2 = 0) : GoodS (qbu s o).1 := by
 unfold qbu at he ⊢
 split at he
 ·cases he
 ·split at he
  ·cases he
  ·split at he
   ·cases he
   ·split at he
    ·cases he
    ·split at he
     ·cases he
     ·split at he
      ·cases he
      ·rename_i h1 h2 h3 h4 h5 h6
       rw [if_neg h1, if_neg h2, if_neg h3, if_neg h4, if_neg h5, if_neg h6]
       obtain ⟨k, t, hk, ht, hid, htk⟩ := qlj h3
       have hto := qj9 h1
       rw [htk] at h6
       rw [hk, Int.toNat_natCast]
       have hb := qxh (by simpa using h6 : bitOn t.mask o.to = true)
       obtain ⟨to, hte⟩ : ∃ to : Nat, o.to = (to : Int) := ⟨o.to.toNat, by omega⟩
       rw [hte] at hto hb ⊢
       rw [Int.toNat_natCast] at hb
       refine qnm h ht hto.2 hb fun d hd hcu _ => h4 ?_
       rw [← hid, ← hcu]
       exact qg 0 hd
theorem qll : ∀ {n b : Nat}, bestF s o n = some b → mayB s o (s.ts.getD b Tk.zero) = true
 | 0, b, h => by cases h
 | n + 1, b, h => by
  rw [bestF] at h
  split at h
  ·rename_i hm
   split at h
   ·injection h with h; subst h; exact hm
   ·rename_i b' hb
    split at h
    ·injection h with h; subst h; exact hm
    ·injection h with h; subst h; exact qll hb
  ·exact qll h
theorem qno (h : GoodS s) (he : (qa3 s o).2.2 = 0) : GoodS (qa3 s o).1 := by
 unfold qa3 at he ⊢
 split at he
 ·cases he
 ·rename_i h1
  rw [if_neg h1]
  cases hb : bestF s o s.ts.length with
  | none => rw [hb] at he; cases he
  | some b =>
   dsimp only
   have hl := qhd hb
   have hm := qll hb
   have ht := getD_at Tk.zero hl
   have hto := qj9 h1
   unfold mayB at hm
   simp only [Bool.and_eq_true, decide_eq_true_eq] at hm
   obtain ⟨_, h3, h4, h5, _⟩ := hm
   obtain ⟨to, hte⟩ : ∃ to : Nat, o.cpu = (to : Int) := ⟨o.cpu.toNat, by omega⟩
   rw [hte] at hto h4 ⊢
   have h6 := qxh h4
   rw [Int.toNat_natCast] at h6
   refine qnm h ht hto.2 h6 fun d hd hcu hc => h5 ?_
   rw [hc, Int.toNat_natCast]
   exact hcu
theorem qit {l : List Tk} : SortT l ↔ l.Pairwise fun a b => a.id < b.id := by
 rw [List.pairwise_iff_getElem]
 constructor
 ·intro h i j hi hj hij
  have := h i j hij hj
  rw [List.getD_eq_getElem?_getD, List.getElem?_eq_getElem hi, List.getD_eq_getElem?_getD, List.getElem?_eq_getElem hj] at this
  exact this
 ·intro h i j hij hj
  have := h i j om hj hij
  rw [List.getD_eq_getElem?_getD, List.getElem?_eq_getElem om, List.getD_eq_getElem?_getD, List.getElem?_eq_getElem hj]
  exact this
theorem Shp.ts (h : Shp s) {l : List Tk} (hs : SortT l) (hg : ∀ u ∈ l, TkGood u s.cpus s.sp.length ∧ u.Ok) : Shp { s with ts := l } :=
 ⟨⟨h.ok.cpus, h.ok.credit, h.ok.gs, h.ok.cl, h.ok.cu, fun u hu => (hg u hu).2, h.ok.sp⟩, h.cpus, h.credit, h.gs, h.cl, h.cu, h.sp, h.cls, h.rows, h.spots, hs, fun u hu => (hg u hu).1⟩
theorem qxi {l : List Tk} {id : Int} (h : ¬ 0 ≤ fidx l id) : ∀ t ∈ l, t.id ≠ id := by
 rcases qgh l id with ⟨_, h2⟩ | ⟨i, h2, _⟩
 ·intro t ht hid
  obtain ⟨k, hk, rfl⟩ := qam Tk.zero ht
  unfold findS at h2
  have := List.findIdx?_eq_none_iff.1 h2 _ (qg Tk.zero hk)
  rw [hid, beq_self_eq_true] at this
  cases this
 ·omega
theorem qep {α : Type} {p : α → Bool} : ∀ {l : List α} {u : α}, u ∈ l.takeWhile p → p u = true
 | [], u, h => by cases h
 | a :: r, u, h => by
  rw [List.takeWhile_cons] at h
  split at h
  ·rename_i ha
   rcases List.mem_cons.1 h with rfl | h
   ·exact ha
   ·exact qep h
  ·cases h
theorem qdx {α : Type} {p : α → Bool} : ∀ {l : List α} {a : α} {r : List α}, l.dropWhile p = a :: r → p a = false
 | [], _, _, h => by cases h
 | b :: q, a, r, h => by
  rw [List.dropWhile_cons] at h
  split at h
  ·exact qdx h
  ·rename_i hb
   injection h with h1 h2
   subst h1
   simpa using hb
theorem q1h {l : List Tk} {id : Int} (hs : SortT l) (hn : ∀ t ∈ l, t.id ≠ id) (ht : t.id = id) : SortT ((l.takeWhile fun t => decide (t.id ≤ id)) ++ t :: (l.dropWhile fun t => decide (t.id ≤ id))) := by
 rw [qit] at hs ⊢
 have hlow : ∀ u ∈ l.takeWhile (fun t => decide (t.id ≤ id)), u.id < id := fun u hu => by
  have h1 := qep hu
  rw [decide_eq_true_eq] at h1
  have := hn u ((List.takeWhile_sublist _).subset hu)
  omega
 have hd := hs.sublist (List.dropWhile_sublist fun t => decide (t.id ≤ id))
 have hhi : ∀ u ∈ l.dropWhile (fun t => decide (t.id ≤ id)), id < u.id := fun u hu => by
  cases hdr : l.dropWhile (fun t => decide (t.id ≤ id)) with
  | nil => rw [hdr] at hu; cases hu
  | cons a r =>
   have h1 : ¬ decide (a.id ≤ id) = true := by
    have := qdx hdr
    rw [this]; decide
   rw [decide_eq_true_eq] at h1
   rw [hdr] at hu hd
   rcases List.mem_cons.1 hu with rfl | hu
   ·omega
   ·have := (List.pairwise_cons.1 hd).1 u hu; omega
 rw [List.pairwise_append]
 refine ⟨hs.sublist (List.takeWhile_sublist _), List.pairwise_cons.2 ⟨fun u hu => ?_, hd⟩, fun a ha b hb => ?_⟩
 ·have := hhi u hu; omega
 ·have h1 := hlow a ha
  rcases List.mem_cons.1 hb with rfl | hb
  ·omega
  ·have := hhi b hb; omega
theorem qxj {l : List Tk} {p : Tk → Bool} {u : Tk} : u ∈ l.takeWhile p ++ t :: l.dropWhile p ↔ u = t ∨ u ∈ l := by
 conv => rhs; rw [← List.takeWhile_append_dropWhile (p := p) (l := l)]
 simp only [List.mem_append, List.mem_cons]
 constructor
 ·rintro (h | rfl | h)
  ·exact .inr (.inl h)
  ·exact .inl rfl
  ·exact .inr (.inr h)
 ·rintro (rfl | h | h)
  ·exact .inr (.inl rfl)
  ·exact .inl h
  ·exact .inr (.inr h)
theorem qtw (ho : o.Ok) (h : GoodS s) (he : (qfl s o).2.2 = 0) : GoodS (qfl s o).1 := by
 unfold qfl at he ⊢
 split at he
 ·cases he
 ·split at he
  ·cases he
  ·split at he
   ·cases he
   ·split at he
    ·cases he
    ·split at he
     ·cases he
     ·split at he
      ·cases he
      ·rename_i h1 h2 h3 h4 h5 h6
       rw [if_neg h1, if_neg h2, if_neg h3, if_neg h4, if_neg h5, if_neg h6]
       have hc := qj9 h1
       have hgl : o.group.toNat < s.sp.length := by omega
       have hid : 1 ≤ o.task ∧ o.task ≤ 65535 := by simpa [idOk] using h2
       have hg3 : 0 ≤ o.group ∧ o.group < s.sp.length := Classical.not_not.1 h3
       have hw : 1 ≤ o.weight ∧ o.weight ≤ 65536 := by have := fun h => h4 (.inl h); simpa [wOk] using this
       have hm : qel o.mask s.cpus = false := by have := fun h => h4 (.inr (.inr h)); simpa using this
       have hb : o.mask / 2 ^ o.cpu.toNat % 2 = 1 := qxh (by simpa using h6)
       have hf := (qdc h.sh.ok o.group.toNat o.cpu.toNat).floor
       have htg : TkGood (⟨o.task, o.group, o.weight, o.cpu, o.mask, true, (s.spot o.group.toNat o.cpu.toNat).floor, 0⟩ : Tk) s.cpus s.sp.length := ⟨hid, hg3, hc, hw, hm, hb, by unfold entOk; rw [decide_eq_true_eq]; exact ⟨hw.1, hw.2, by show ((0 : Nat) : Int) < o.weight; omega, .inr rfl⟩⟩
       have hto : (⟨o.task, o.group, o.weight, o.cpu, o.mask, true, (s.spot o.group.toNat o.cpu.toNat).floor, 0⟩ : Tk).Ok := ⟨ho.task, ho.group, ho.weight, ho.cpu, ho.mask, hf, by show 0 < _; omega⟩
       have hs1 := h.sh.ts (q1h h.sh.sort (qxi h5) (t := ⟨o.task, o.group, o.weight, o.cpu, o.mask, true, (s.spot o.group.toNat o.cpu.toNat).floor, 0⟩) rfl) (fun u hu => by
        rcases qxj.1 hu with rfl | hu
        ·exact ⟨htg, hto⟩
        ·exact ⟨h.sh.tasks u hu, h.sh.ok.ts u hu⟩)
       have hc1 : CurS { s with ts := (s.ts.takeWhile fun t => decide (t.id ≤ o.task)) ++ (⟨o.task, o.group, o.weight, o.cpu, o.mask, true, (s.spot o.group.toNat o.cpu.toNat).floor, 0⟩ :: (s.ts.dropWhile fun t => decide (t.id ≤ o.task))) } := fun d hd => by
        rcases h.cur d hd with h7 | ⟨u, hu, h7⟩
        ·exact .inl h7
        ·exact .inr ⟨u, qxj.2 (.inr hu), h7⟩
       exact ⟨hs1.wake (by show ((o.cpu.toNat : Nat) : Int) < s.cpus; omega) _ (qgm h.sh hgl), hc1.but (qb3 ..)⟩
theorem qkb (h : GoodS s) (he : (qca s o).2.2 = 0) : GoodS (qca s o).1 := by
 unfold qca at he ⊢
 split at he
 ·cases he
 ·split at he
  ·cases he
  ·rename_i h1 h2
   rw [if_neg h1, if_neg h2]
   have hc := qj9 h1
   dsimp only
   rcases h.cur o.cpu.toNat (by have := h.sh.cu; omega) with h5 | ⟨t, htm, hid, hr, hcp⟩
   ·exact absurd h5 h2
   ·obtain ⟨k, hk, rfl⟩ := qam Tk.zero htm
    have hf := qxa h.sh.sort hk
    have ht := getD_at Tk.zero hk
    obtain ⟨t, hte⟩ : ∃ t, s.ts.getD k Tk.zero = t := ⟨_, rfl⟩
    rw [hte] at hid hr hcp hf ht
    rw [← hid, hf, Int.toNat_natCast, hte]
    obtain ⟨hg, hto⟩ := qis h.sh ht
    have hr2 := qj8 hg hto false
    have hs1 : Shp { s with cu := s.cu.set o.cpu.toNat 0 } := qxe h.sh (by unfold I64; omega)
    have hs2 : Shp { s with cu := s.cu.set o.cpu.toNat 0, ts := s.ts.set k { t with ready := false } } := hs1.task (s := { s with cu := s.cu.set o.cpu.toNat 0 }) ht rfl hr2.2 hr2.1
    have hcur : ∀ d, d < (s.cu.set o.cpu.toNat 0).length → (s.cu.set o.cpu.toNat 0).getD d 0 = 0 ∨ ∃ j u, s.ts[j]? = some u ∧ j ≠ k ∧ u.id = (s.cu.set o.cpu.toNat 0).getD d 0 ∧ u.ready = true ∧ u.cpu = (d : Int) := fun d hd => by
     rw [List.length_set] at hd
     by_cases e : o.cpu.toNat = d
     ·subst e; rw [qj _ _ hd]; exact .inl rfl
     ·rw [getD_set_ne _ _ e]
      rcases h.cur d hd with h6 | ⟨u, hu, h6, h7, h8⟩
      ·exact .inl h6
      ·obtain ⟨j, hj, rfl⟩ := qam Tk.zero hu
       refine .inr ⟨j, _, getD_at Tk.zero hj, fun e2 => ?_, h6, h7, h8⟩
       subst e2
       rw [hte, hcp] at h8
       exact e om
    split
    ·refine ⟨hs2.ts (s := { s with cu := s.cu.set o.cpu.toNat 0, ts := s.ts.set k { t with ready := false } }) (l := (s.ts.set k { t with ready := false }).eraseIdx k) (qit.2 ((qit.1 hs2.sort).sublist (List.eraseIdx_sublist ..))) (fun u hu => ?_), fun d hd => ?_⟩
     ·have hu2 := (List.eraseIdx_sublist ..).subset hu
      exact ⟨hs2.tasks u hu2, hs2.ok.ts u hu2⟩
     ·rcases hcur d hd with h6 | ⟨j, u, hj, hjk, h6⟩
      ·exact .inl h6
      ·refine .inr ⟨u, ?_, h6⟩
       have h7 : (s.ts.set k { t with ready := false })[j]? = some u := by rw [List.getElem?_set_ne (fun e => hjk e.symm)]; exact hj
       exact List.mem_eraseIdx_iff_getElem?.2 ⟨j, hjk, h7⟩
    ·refine ⟨hs2, fun d hd => ?_⟩
     rcases hcur d hd with h6 | ⟨j, u, hj, hjk, h6⟩
     ·exact .inl h6
     ·refine .inr ⟨u, ?_, h6⟩
      have h7 : (s.ts.set k { t with ready := false })[j]? = some u := by rw [List.getElem?_set_ne (fun e => hjk e.symm)]; exact hj
      exact List.mem_of_getElem? h7
theorem qiu (ho : o.Ok) (h : GoodS s) (he : (stepS s o).2.2 = 0) : GoodS (stepS s o).1 := by
 unfold stepS at he ⊢
 split at he
 ·exact qtw ho h he
 ·exact qtv h he
 ·exact qkb h he
 ·exact qkb h he
 ·exact qxf h he
 ·exact qxg h he
 ·exact qlk h he
 ·exact qnl h he
 ·exact qnn h he
 ·exact qno h he
 ·cases he
end
def qrc (w : World) (R : List Nat) (r : Ending) (w' : World) : Prop :=
 (∃ A c, r = .returned (.slice A R.length c) ∧ w'.ownsRow w.heap.size 3 1 (.slice A R.length c) R.length (R.map I64v) ∧ R.length ≤ c) ∧ Below w.heap.size w w'
theorem q3p {w w' : World} {q R : List Nat} {A : Option Addr} {c : Nat} (hq : q = R) (ho : w'.ownsRow w.heap.size 3 1 (.slice A q.length c) q.length (q.map I64v)) (hc : q.length ≤ c) (hb : Below w.heap.size w w') : qrc w R (.returned (.slice A q.length c)) w' := by
 subst hq
 exact ⟨⟨A, c, rfl, ho, hc⟩, hb⟩
theorem q5f {x : Stm} {g c : Nat} (hok : x.sta.Ok) (hsh : ShAt x) (hn : memS x.sta g c ≠ []) : (bestM topM (memS x.sta g c)).id ≤ 1000000 := by
 rcases qed hok hn with ⟨_, t, ht, _, h2⟩ | ⟨_, h, h3, _, h5, _⟩
 ·obtain ⟨i, hi, rfl⟩ := List.getElem_of_mem ht
  have h4 := tk_id (hsh.tk i hi)
  rw [List.getD_eq_getElem?_getD, List.getElem?_eq_getElem (l := x.ts) hi] at h4
  have h5 : 1 ≤ (x.sta.ts[i]).id ∧ (x.sta.ts[i]).id ≤ 65535 := h4
  rw [h2]
  show (x.sta.ts[i]).id.toNat ≤ 1000000
  omega
 ·rw [h3]
  rw [zo, hsh.rs] at h5
  obtain ⟨_, _, _, hgs⟩ := z9 hsh.cfg
  have := (qo hgs).2.1
  omega
theorem qkc {x : Stm} (hsh : ShAt x) : ∀ t ∈ x.ts, 1 ≤ t.weight ∧ t.weight ≤ 65536 := by
 intro t ht
 obtain ⟨i, hi, rfl⟩ := List.getElem_of_mem ht
 have h1 := (qia (hsh.tk i hi)).2
 rw [List.getD_eq_getElem?_getD, List.getElem?_eq_getElem hi] at h1
 unfold tkOk1 wOk at h1
 simp only [Bool.and_eq_true, decide_eq_true_eq, Option.getD_some] at h1
 exact h1.2.1
theorem qxk (x : Stm) (gm g c : Nat) (w : World) (hok : x.sta.Ok) (hf : StFew x) (hsh : ShAt x) (hx : StRd w x) (hm : w.heap[gm]? = some (.cells #[vI x.cpus, vQ x.credit, .slice x.gA x.gs.length x.gc, .slice x.lA x.cl.length x.lc, .slice x.uA x.cu.length x.uc, .slice x.tA x.ts.length x.tc, .slice x.sA x.rs.length x.sc, .bool true] 138 (0, 0))) (hc : (c : Int) < x.cpus) (hg : g < x.rs.length) :
    Calls Tryz.prog 104 #[vP gm 0, vI g, vI c] w (qrc w (zi x.sta g c)) := by
 have hfs_ := hf.s; have hft_ := hf.t; have hfg_ := hf.g; have hrl := hsh.rs
 obtain ⟨hc1, hc2, _, hgs⟩ := z9 hsh.cfg
 refine (JN3 Tryz.func104 35) ?_
 refine (JP∘Jp 1∘Jq) fun a Z I => ?_
 replace I := I.nil 3 1
 refine Jb Z I ((JG∘JP∘Jp 1∘Jj∘JQ∘JB) fun a Z I => ?_)
 refine qe (fun mS aS wS => ∃ (k : Nat) (q : List Nat) (X : Option Addr) (xc : Nat), (k ≤ g) ∧ (q ++ zi x.sta k c = zi x.sta g c) ∧ (q.length ≤ g - k) ∧ (q.length ≤ xc) ∧ mS = 0 + k ∧ Fr aS 35 [] [(7, .slice X q.length xc), (6, vN), (0, vP gm 0), (1, vI k), (2, vI c)] ∧ Mem w wS [.row (.slice X q.length xc) q.length (q.map I64v) 3 1]) (m := 0 + g) ⟨g, [], none, 0, Nat.le_refl _, rfl, Nat.zero_le _, Nat.le_refl _, rfl, Z.sub kr, I.pk [0]⟩ ?_
 clear Z I; rintro mS a w_ ⟨k, q, X, xc, hk, hq, hql, hXc, rfl, Z, I⟩
 refine Jb Z I ((JQ∘JP∘Jp 2∘Jd1∘Jj) (Ju (fun hb11 => ?_) fun hb11 => ?_))
 ·
  intro a Z I
  have hd11 := of_decide_eq_true hb11
  have hk0 : 0 < k := by omega
  have hpk := qa1 hgs (g := k) om k hk0 (Nat.le_refl _)
  unfold ParB at hpk
  obtain ⟨y, hy⟩ : ∃ y : Nat, (x.gs.getD k Gr.zero).parent = (y : Int) := ⟨(x.gs.getD k Gr.zero).parent.toNat, by omega⟩
  refine Jb Z I ((JT∘JS'∘JQ∘JB∘JQ∘JP∘Jp 3∘JL (h:=by exact fun I => qfq x hok hf hsh gm c om _ k (Nat.le_refl _) om _ (hx.old I) (I.oldBlk hm))) ?_)
  rintro I _ w26 ⟨rfl, hbw⟩
  refine ⟨_, rfl, _, I.call hbw, ?_⟩
  refine (Jp 1∘Jx∘Jx∘JA #[vQ 0, vQ 0, vQ 0]) fun w8 g8 => (JV qcw O0' (h1:=by exact qic (bestM topM (memS x.sta k c)))) fun w4_8 => (Jp 1∘Jd6∘Jr∘Jp 1∘Jj) (Ju (fun hb29 => ?_) fun hb29 => ?_)
  ·
   intro a Z I
   have hqm : q = zi x.sta g c := by rw [← hq, qij (by simpa using hb29), List.append_nil]
   exact Jb Z I ((JT∘JX∘JG∘JP∘Jp 2∘Jd1∘Jj∘JZ∘Jz1) fun I => q3p hqm (I.own (i := 1) rfl) hXc I.below)
  intro a Z I
  have hme : memS x.sta k c = [] := by simpa using hb29
  have hst := qii (s := x.sta) (c := c) (g := k) (qa1 hgs om) hk0 hme
  replace hst : zi x.sta k c = k :: zi x.sta (x.gs.getD k Gr.zero).parent.toNat c := hst
  rw [hy, Int.toNat_natCast] at hst
  refine Jb Z I ((JF∘JS'∘JR∘Jp 2∘JU zn #[vI k]) fun w32 g32 => (JD ([k].map I64v) 2 (fun _ _ => O2') zn (hr:=by exact fun I => I.rdBlk (i := 0) (n := 1) (size := 1) rfl rfl) (h1:=by simp [Value.oneCell', I64v])) fun w33 A33 c33 hc33 => (Jp 1∘Jd4∘Jq) fun a Z I => ?_)
  have hnA33 : q.length + 1 = (q ++ [k]).length := lapp rfl
  replace I := I.reRow (i := 2) (ys := (q ++ [k]).map I64v) rfl hnA33 (List.map_append.symm)
  rw [hnA33] at hc33
  replace Z := Z.sp 7 (.slice A33 ((q ++ [k]).length) c33) rfl (by rw [hnA33])
  refine Jb Z I ((JG∘JR∘Jp 1∘Jn∘Jf 0∘Jf 0∘Jf 2∘Jy (v := .slice x.gA x.gs.length x.gc) (h:=by exact Yl.qr rfl rfl kr (fun _ h => h.qco hm rfl))∘Jp 1) fun a Z I => ?_)
  obtain ⟨gq1, oq1, hq1, _⟩ := Rd.qt hx.g (Nat.lt_of_le_of_lt (Nat.zero_le _) (show k < x.gs.length from by omega)) de
  have hrq1 := hx.g; rw [hq1] at hrq1
  replace Z := Z.sp 17 (.slice (some ⟨gq1, oq1, none⟩) x.gs.length x.gc) rfl (by rw [hq1]; try rfl)
  refine Jb Z I ((Jy (h:=by exact Yl.ix gq1 oq1 k 2 rfl rfl rfl)∘Jf 0∘Jy (v := vI ((x.gs.getD k Gr.zero).parent)) (h:=by exact Yl.qr rfl rfl kr (fun _ h => (by have := (h.old hrq1).partAt qai (k := k) (j := 0) (x := (x.gs.getD k Gr.zero)) ((getD_at Gr.zero om)) rfl; simpa using this)))∘Jo (vI y) (by rw [hy])∘Jp 1∘Jd6∘Jq) fun a Z I => ?_)
  exact ⟨_, om, y, (q ++ [k]), A33, c33, by omega, by rw [← hq, hst, List.append_assoc]; rfl, by rw [List.length_append]; show q.length + 1 ≤ g - y; omega, hc33, rfl, Z.sub kr, I.pk [2]⟩
 intro a Z I
 have hd11 := of_decide_eq_false hb11
 have hqm : q = zi x.sta g c := by rw [← hq, show k = 0 by omega, qpd, List.append_nil]
 exact Jb Z I ((JF∘JX∘JG∘JP∘Jp 2∘Jd1∘Jj∘JZ∘Jz1) fun I => q3p hqm (I.own (i := 0) rfl) hXc I.below)
theorem qxl (x : Stm) (gm c : Nat) (w : World) (hok : x.sta.Ok) (hf : StFew x) (hsh : ShAt x) (hx : StRd w x) (hm : w.heap[gm]? = some (.cells #[vI x.cpus, vQ x.credit, .slice x.gA x.gs.length x.gc, .slice x.lA x.cl.length x.lc, .slice x.uA x.cu.length x.uc, .slice x.tA x.ts.length x.tc, .slice x.sA x.rs.length x.sc, .bool true] 138 (0, 0))) (hc : (c : Int) < x.cpus) :
    Calls Tryz.prog 115 #[vP gm 0, vI c] w (Is w (vI (qag x.sta c : Int))) := by
 have hfs_ := hf.s; have hft_ := hf.t; have hfg_ := hf.g; have hrl := hsh.rs
 obtain ⟨hc1, hc2, _, hgs⟩ := z9 hsh.cfg
 have hrs0 : 0 < x.rs.length := by have h1 := (qo hgs).1; omega
 refine (JN2 Tryz.func115 28) ?_
 refine (JP∘Jp 1∘Jr∘Jp 1∘Jj∘JB) fun a Z I => ?_
 refine qe (fun mS aS wS => ∃ (g : Nat), (g < x.rs.length) ∧ (qdv x.sta c g = qag x.sta c) ∧ mS = x.rs.length - g ∧ Fr aS 28 [] [(5, vI g), (4, vI 0), (0, vP gm 0), (1, vI c)] ∧ Mem w wS []) (m := x.rs.length - 0) ⟨0, by omega, rfl, rfl, Z.sub kr, I.pk []⟩ ?_
 clear Z I; rintro mS a w_ ⟨g, hg, hq, rfl, Z, I⟩
 refine Jb Z I ((JB∘JP∘Jp 3∘JL (h:=by exact fun I => qfq x hok hf hsh gm c om _ g (Nat.le_refl _) om _ (hx.old I) (I.oldBlk hm))) ?_)
 rintro I _ w12 ⟨rfl, hbw⟩
 refine ⟨_, rfl, _, I.call hbw, ?_⟩
 refine (Jp 1∘Jx∘Jx∘JA #[vQ 0, vQ 0, vQ 0]) fun w6 g6 => (JV qcw O0' (h1:=by exact qic (bestM topM (memS x.sta g c)))) fun w2_8 => (Jp 1∘Jj∘JQ∘JB∘JP∘Jp 3∘Jd2∘Jj) (Ju (fun hb15 => ?_) fun hb15 => ?_)
 ·
  intro a Z I
  have hm0 : memS x.sta g c = [] := by simpa using hb15
  exact Jb Z I ((JT∘JP∘Jp 1∘Jj∘JZ∘Jz1) fun I => by exact ⟨by rw [← hq, qik (by rw [zo]; omega) hm0]; rfl, I.below⟩)
 intro a Z I
 have hm0 : memS x.sta g c ≠ [] := by simpa using hb15
 have hsl : x.sta.sp.length = x.rs.length := zo
 refine Jb Z I ((JF∘JP∘Jy (v := vP g6 1) (h:=by exact Yl.qaf (ad := ⟨g6, 0, none⟩) (m := 3) (y := 1) (sz := 1) rfl rfl rfl kr de)∘Jc O0∘Jp 2∘Jd3∘Jj) (Ju (fun hb18 => ?_) fun hb18 => ?_))
 ·
  intro a Z I
  have hd18 := eq_of_beq hb18
  have hk0 : (bestM topM (memS x.sta g c)).k = 0 := by omega
  have hid := q5f hok hsh hm0
  have hft := qil (s := x.sta) (c := c) (g := g) om hm0 hk0
  exact Jb Z I ((JT∘JP∘Jy (v := vP g6 2) (h:=by exact Yl.qaf (ad := ⟨g6, 0, none⟩) (m := 3) (y := 2) (sz := 1) rfl rfl rfl kr de)∘Jc O0∘Jv 1 [(24, vI (IntKind.i64.wrap ((bestM topM (memS x.sta g c)).id : Int)))]∘Jo (vI ((bestM topM (memS x.sta g c)).id)) (by exact zq rfl om)∘Jp 1∘Jd3∘Jj∘JZ∘Jz1) fun I => by exact ⟨by rw [← hq, hft], I.below⟩)
 intro a Z I
 have hd18 := ne_of_beq_false hb18
 have hk0 : (bestM topM (memS x.sta g c)).k ≠ 0 := by omega
 obtain ⟨hdn, hdg, hdl⟩ := qim (s := x.sta) (c := c) (g := g) hok om hm0 hk0
 refine Jb Z I ((JF∘JS'∘JR∘Jy (v := vP g6 2) (h:=by exact Yl.qaf (ad := ⟨g6, 0, none⟩) (m := 3) (y := 2) (sz := 1) rfl rfl rfl kr de)∘Jc O0∘Jv 1 [(27, vI (IntKind.i64.wrap ((bestM topM (memS x.sta g c)).id : Int)))]∘Jo (vI ((bestM topM (memS x.sta g c)).id)) (by exact zq rfl om)∘Jp 1∘Jd3∘Jq) fun a Z I => ?_)
 exact ⟨_, om, (bestM topM (memS x.sta g c)).id, by omega, by rw [← hdn]; exact hq, rfl, Z.sub kr, I.pk []⟩
theorem qtx (x : Stm) (gm c : Nat) (w : World) (hok : x.sta.Ok) (hf : StFew x) (hsh : ShAt x) (hx : StRd w x) (hm : w.heap[gm]? = some (.cells #[vI x.cpus, vQ x.credit, .slice x.gA x.gs.length x.gc, .slice x.lA x.cl.length x.lc, .slice x.uA x.cu.length x.uc, .slice x.tA x.ts.length x.tc, .slice x.sA x.rs.length x.sc, .bool true] 138 (0, 0))) :
    Calls Tryz.prog 119 #[vP gm 0, vI c] w (Is w (vI (loadS x.sta c))) := by
 have hfs_ := hf.s; have hft_ := hf.t; have hfg_ := hf.g; have hrl := hsh.rs
 obtain ⟨hc1, hc2, _, hgs⟩ := z9 hsh.cfg
 have hwt := qkc hsh
 refine (JN2 Tryz.func119 32) ?_
 refine (JP∘Jp 1∘Jr∘Jp 1∘Jj∘JQ∘JP∘Jp 1∘Jn∘Jf 0∘Jf 5∘Jy (v := .slice x.tA x.ts.length x.tc) (h:=by exact Yl.qr rfl rfl kr (fun _ h => h.qco hm rfl))∘Jl∘Jp 1∘Jj∘JB) fun a Z I => ?_
 refine qe (fun mS aS wS => ∃ (i : Nat), (i ≤ x.ts.length) ∧ mS = x.ts.length - i ∧ Fr aS 32 [] [(14, vI i), (13, vI x.ts.length), (12, .slice x.tA x.ts.length x.tc), (5, vI (loadN (x.ts.take i) c)), (4, vI 0), (1, vI c)] ∧ Mem w wS []) (m := x.ts.length - 0) ⟨0, Nat.zero_le _, rfl, Z.sub kr, I.pk []⟩ ?_
 clear Z I; rintro mS a w_ ⟨i, hi, rfl, Z, I⟩
 refine Jb Z I ((JP∘Jp 1∘Jj∘JQ) (Ju (fun hb15 => ?_) fun hb15 => ?_))
 ·
  intro a Z I
  have hd15 := of_decide_eq_true hb15
  have hi15 : i < x.ts.length := by omega
  obtain ⟨t, ht⟩ : ∃ z, (x.ts.getD i Tk.zero) = z := ⟨_, rfl⟩
  have hls := qth (c := c) hi15
  rw [ht] at hls
  have hb1 := qj2 (c := c) hwt i; have hb2 := qj2 (c := c) hwt (i + 1)
  refine Jb Z I ((JT∘JS'∘JQ∘JB∘JP) fun a Z I => ?_)
  obtain ⟨gq1, oq1, hq1, _⟩ := Rd.qt hx.t (Nat.lt_of_le_of_lt (Nat.zero_le _) (show i < x.ts.length from by omega)) de
  have hrq1 := hx.t; rw [hq1] at hrq1
  replace Z := Z.sp 12 (.slice (some ⟨gq1, oq1, none⟩) x.ts.length x.tc) rfl (by rw [hq1]; try rfl)
  refine Jb Z I ((Jy (h:=by exact Yl.ix gq1 oq1 i 8 rfl rfl rfl)∘Jy (v := .agg ((x.ts.getD i Tk.zero).cells)) (h:=by exact Yl.loadS rfl rfl si_tk rfl (fun _ h => (h.old hrq1).qae qi ((getD_at Tk.zero om))))∘Jo (.agg t.cells) (by rw [ht])∘JA #[vI 0, vI 0, vI 0, vI 0, vQ 0, .bool false, vQ 0, vW 0]) fun w7 g7 => (JV si_tk O0' (h1:=by exact qmt t)) fun w4_3 => (Jd2∘Jj) fun a Z I => ?_)
  refine zp (fun aS wS => Fr aS 32 [] [(25, .bool (t.ready && decide (t.cpu = (c : Int)))), (7, vP g7 0), (12, .slice (some ⟨gq1, oq1, none⟩) x.ts.length x.tc), (15, .bool true), (14, vI i), (13, vI x.ts.length), (5, vI (loadN (x.ts.take i) c)), (4, vI 0), (1, vI c)] ∧ Mem w wS [.blk g7 t.cells 61]) ?_ ?_
  ·
   refine zb ?_
   refine Jb Z I ((Jg 5 O0∘Jp 1) (Ju (fun hb20 => ?_) fun hb20 => ?_))
   ·
    refine (Jg 3 O0∘Jp 3∘Jd5∘Jq) fun a Z I => ?_
    have Z := Z.sp 25 (.bool (t.ready && decide (t.cpu = (c : Int)))) rfl (congrArg Value.bool (by rw [hb20, Bool.true_and, Bool.eq_iff_iff, beq_iff_eq, decide_eq_true_eq]))
    exact ⟨Z.sub kr, I.pk [0]⟩
   refine (Jp 5∘Jd6∘Jq) fun a Z I => ?_
   have Z := Z.sp 25 (.bool (t.ready && decide (t.cpu = (c : Int)))) rfl (congrArg Value.bool (by rw [hb20]; try rfl))
   exact ⟨Z.sub kr, I.pk [0]⟩
  clear Z I; rintro a w5 ⟨Z, I⟩
  refine Jb Z I (Ju (fun hb25 => ?_) fun hb25 => ?_)
  ·
   intro a Z I
   rw [if_pos hb25] at hls
   refine Jb Z I ((JT∘JR∘Jp 1∘Jg 2 O0∘Jp 1∘Jo (vI (loadN (x.ts.take (i + 1)) c)) (by rw [hls]; exact qdq ⟨by omega, by omega⟩)∘Jp 1∘Jd3∘Jj∘JR∘JaK 1∘Jp 1∘Jd1∘Jq) fun a Z I => ?_)
   replace Z := Z.sp 12 (.slice x.tA x.ts.length x.tc) rfl (by rw [hq1])
   exact ⟨_, om, i + 1, by omega, rfl, Z.sub kr, I.pk []⟩
  intro a Z I
  rw [if_neg (by rw [hb25]; decide), Int.add_zero] at hls
  replace Z := Z.sp 5 (vI (loadN (x.ts.take (i + 1)) c)) rfl (by rw [hls])
  refine Jb Z I ((JF∘JS'∘JR∘JaK 1∘Jp 1∘Jd1∘Jq) fun a Z I => ?_)
  replace Z := Z.sp 12 (.slice x.tA x.ts.length x.tc) rfl (by rw [hq1])
  exact ⟨_, om, i + 1, by omega, rfl, Z.sub kr, I.pk []⟩
 intro a Z I
 have hd15 := of_decide_eq_false hb15
 have hall : loadN (x.ts.take i) c = loadS x.sta c := by rw [List.take_of_length_le om]; rfl
 exact Jb Z I ((JF∘JX∘JG∘JP∘Jp 2∘Jd1∘Jj∘JZ∘Jz1) fun I => by exact ⟨by rw [hall], I.below⟩)
theorem q1i {W w : World} {F T : List Fact} {x : Stm} {ng nl nu nt ns gm g c : Nat} (n : Nat) (I : Mem W w F) (he : F.drop n = mdA gm x ng nl nu nt ns ++ T) (hx : MdOk x ng nl nu nt ns) (hc : (c : Int) < x.cpus) (hg : g < ns) : Calls Tryz.prog 104 #[vP gm 0, vI g, vI c] w (qrc w (zi x.sta g c)) :=
 qxk x gm g c w hx.ok hx.few hx.sh (I.mdRd n he hx.ln) (I.mdBlk n he hx.ln) hc (by rw [hx.ln.s]; exact hg)
theorem q1j {W w : World} {F T : List Fact} {x : Stm} {ng nl nu nt ns gm c : Nat} (n : Nat) (I : Mem W w F) (he : F.drop n = mdA gm x ng nl nu nt ns ++ T) (hx : MdOk x ng nl nu nt ns) (hc : (c : Int) < x.cpus) : Calls Tryz.prog 115 #[vP gm 0, vI c] w (Is w (vI (qag x.sta c : Int))) :=
 qxl x gm c w hx.ok hx.few hx.sh (I.mdRd n he hx.ln) (I.mdBlk n he hx.ln) hc
theorem qxm {W w : World} {F T : List Fact} {x : Stm} {ng nl nu nt ns gm c : Nat} (n : Nat) (I : Mem W w F) (he : F.drop n = mdA gm x ng nl nu nt ns ++ T) (hx : MdOk x ng nl nu nt ns) : Calls Tryz.prog 119 #[vP gm 0, vI c] w (Is w (vI (loadS x.sta c))) :=
 qtx x gm c w hx.ok hx.few hx.sh (I.mdRd n he hx.ln) (I.mdBlk n he hx.ln)
def qxn (W : World) (gm : Nat) (x : Stm) (ng nl nu nt ns : Nat) (T : List Fact) (s : Sta) (r : Ending) (w' : World) : Prop := ∃ rs2, r = .returned (.tuple #[]) ∧ rs2.length = ns ∧ SpsOk x.gs x.cpus rs2 ∧ ({ x with rs := rs2 } : Stm).sta = s ∧ Mem W w' (mdA gm { x with rs := rs2 } ng nl nu nt ns ++ T)
theorem q3q {W w' : World} {gm : Nat} {x : Stm} {ng nl nu nt ns : Nat} {T : List Fact} {s : Sta} {rs2 : List Rw} (hl : rs2.length = ns) (hs : SpsOk x.gs x.cpus rs2) (he : ({ x with rs := rs2 } : Stm).sta = s) (hm : Mem W w' (mdA gm { x with rs := rs2 } ng nl nu nt ns ++ T)) : qxn W gm x ng nl nu nt ns T s (.returned (.tuple #[])) w' := ⟨rs2, rfl, hl, hs, he, hm⟩
theorem qee (x e : En) (hx : x.Ok) (fl cr : Nat) (hf : fl < 18446744073709551616) (hc : cr < 18446744073709551616) (he : x.woken fl cr = e) (w : World) :
  Calls Tryz.prog 111 #[.agg x.cells, vQ fl, vQ cr] w (Is w (.tuple #[.agg e.cells, vI 0])) := he ▸ qw0 x hx fl cr hf hc w
theorem qty (W w : World) (x : Stm) (gm c : Nat) (ng nl nu nt ns : Nat) (hx : Lns x ng nl nu nt ns) (T : List Fact) (E : Option Addr) (ec : Nat) (l : List Nat) (hT : .row (.slice E l.length ec) l.length (l.map I64v) 3 1 ∈ T) (hlm : ∀ g ∈ l, 0 < g ∧ g < ns) (hln : l.length ≤ 1000000)
    (hgs : gsOk x.gs = true) (hrg : x.rs.length = x.gs.length) (hsp : SpsOk x.gs x.cpus x.rs) (hcr : x.credit < 18446744073709551616) (hcp : x.cpus ≤ 64) (hc : (c : Int) < x.cpus) (I : Mem W w (mdA gm x ng nl nu nt ns ++ T)) :
    Calls Tryz.prog 110 #[vP gm 0, .slice E l.length ec, vI c] w (qxn W gm x ng nl nu nt ns T (wakeS x.sta l c)) := by
 obtain ⟨cp, cr, gA, gc, gs, lA, lc, cl, uA, uc, cu, tA, tc, ts, sA, sc, rs⟩ := x
 replace I : Mem W w (fM gm cp cr gA ng gc lA nl lc uA nu uc tA nt tc sA ns sc :: fG gA ng gc gs :: fI lA nl lc cl :: fI uA nu uc cu :: fT tA nt tc ts :: fS sA ns sc rs :: (fR rs ++ (T))) := I
 obtain ⟨hlg, hll, hlu, hlt, hls⟩ := hx; replace hlg : gs.length = ng := hlg; replace hls : rs.length = ns := hls
 have hrE : Rd w w.heap.size 1 E l.length (l.map I64v) := I.rdT 6 rfl hT
 replace hgs : gsOk gs = true := hgs; replace hrg : rs.length = gs.length := hrg; replace hcr : cr < 18446744073709551616 := hcr; replace hcp : cp ≤ 64 := hcp; replace hc : (c : Int) < cp := hc; replace hsp : SpsOk gs cp rs := hsp
 have hgl := qo hgs
 have hgl1 := hgl.1; have hgl2 := hgl.2.1
 obtain ⟨ggA, rfl⟩ := qm (I.own (i := 1) rfl) om
 obtain ⟨gsA, rfl⟩ := qm (I.own (i := 5) rfl) om
 refine (Jin3 I Tryz.func110 82) ?_
 refine (JP∘Jp 1∘Jl∘Jp 1∘Jj∘JB) fun a Z I => ?_
 refine qe (fun mS aS wS => ∃ (i : Nat) (rs2 : List Rw), (i ≤ l.length) ∧ (rs2.length = ns) ∧ (SpsOk gs cp rs2) ∧ ((⟨cp, cr, some ⟨ggA, 0, none⟩, gc, gs, lA, lc, cl, uA, uc, cu, tA, tc, ts, some ⟨gsA, 0, none⟩, sc, rs2⟩ : Stm).sta = wakeS (⟨cp, cr, some ⟨ggA, 0, none⟩, gc, gs, lA, lc, cl, uA, uc, cu, tA, tc, ts, some ⟨gsA, 0, none⟩, sc, rs⟩ : Stm).sta (l.take i) c) ∧ mS = l.length - i ∧ Fr aS 82 [] [(14, vI i), (13, vI l.length), (12, .slice E l.length ec), (0, vP gm 0), (2, vI c)] ∧ Mem W wS (fM gm cp cr (some ⟨ggA, 0, none⟩) ng gc lA nl lc uA nu uc tA nt tc (some ⟨gsA, 0, none⟩) ns sc :: fG (some ⟨ggA, 0, none⟩) ng gc gs :: fI lA nl lc cl :: fI uA nu uc cu :: fT tA nt tc ts :: fS (some ⟨gsA, 0, none⟩) ns sc rs2 :: (fR rs2 ++ (T)))) (m := l.length - 0) ⟨0, rs, Nat.zero_le _, hls, hsp, rfl, rfl, Z.sub kr, I.pt 6 [0, 1, 2, 3, 4, 5]⟩ ?_
 clear Z I; rintro mS a w_ ⟨i, rs2, hi, hl2, hsp2, hst2, rfl, Z, I⟩
 refine Jb Z I ((JP∘Jp 1∘Jj∘JQ) (Ju (fun hb15 => ?_) fun hb15 => ?_))
 ·
  intro a Z I
  have hd15 := of_decide_eq_true hb15
  have hi15 : i < l.length := by omega
  obtain ⟨g, hge⟩ : ∃ z, (l.getD i 0) = z := ⟨_, rfl⟩
  have hg0 := hlm g (by rw [← hge]; exact qg 0 hi15)
  obtain ⟨⟨yA, yc, yl⟩, hy⟩ : ∃ y, rs2.getD g Rw.zero = y := ⟨_, rfl⟩
  have hys := hsp2 g om; rw [hy] at hys
  have hyl : (yl.length : Int) = cp := hys.1
  revert I; revert a; repeat (first | clear Z | clear I)
  intro a Z I
  obtain ⟨gy, rfl⟩ := I.rwSome 6 rfl om hy om
  obtain ⟨yz, hyz⟩ : ∃ z, yl[c]? = some z := ⟨_, List.getElem?_eq_getElem om⟩
  have hyo := hys.2 yz (List.mem_of_getElem? hyz)
  have hyv := hyo.1.v; have hyr := hyo.1.r; have hyf := hyo.1.floor
  have hpb := qa1 hgs (g := g) om g hg0.1 (Nat.le_refl _)
  unfold ParB at hpb
  obtain ⟨p, hpp⟩ : ∃ p : Nat, (gs.getD g Gr.zero).parent = (p : Int) := ⟨(gs.getD g Gr.zero).parent.toNat, by omega⟩
  have hpg : p < g := by omega
  obtain ⟨⟨pA, pc, pl⟩, hp⟩ : ∃ y, rs2.getD p Rw.zero = y := ⟨_, rfl⟩
  have hps := hsp2 p om; rw [hp] at hps
  have hpl : (pl.length : Int) = cp := hps.1
  revert I; revert a; repeat (first | clear Z | clear I)
  intro a Z I
  obtain ⟨gp, rfl⟩ := I.rwSome 6 rfl om hp om
  obtain ⟨pz, hpz⟩ : ∃ z, pl[c]? = some z := ⟨_, List.getElem?_eq_getElem om⟩
  have hpo := hps.2 pz (List.mem_of_getElem? hpz)
  have hpv := hpo.1.v; have hpr := hpo.1.r; have hpf := hpo.1.floor
  obtain ⟨wt, hwt, hwt1, hwt2⟩ := qcx hgs (g := g) om
  have hEo : (⟨yz.v, yz.r, wt⟩ : En).Ok := ⟨by have := hyo.2; rw [hwt] at this; exact this, hyo.1.v⟩
  obtain ⟨e, hew⟩ : ∃ e, (⟨yz.v, yz.r, wt⟩ : En).woken pz.floor cr = e := ⟨_, rfl⟩
  have heo : e.Ok ∧ e.w = wt := by rw [← hew]; exact En.qho hEo _ _ hpf
  have hev := heo.1.2; have her : e.r < 4294967296 := by have := qg1 heo.1.1; omega
  refine Jb Z I ((JT∘JS'∘JQ∘JB∘JP) ?_)
  repeat (first | clear Z | clear I)
  intro a Z I
  obtain ⟨gE, oE, rfl, _⟩ := hrE.qt (Nat.lt_of_le_of_lt (Nat.zero_le _) (show i < l.length from by omega)) de
  refine Jb Z I ((Jy (h:=by exact Yl.ix gE oE i 1 rfl rfl rfl)∘Jy (v := vI (l.getD i 0)) (h:=by exact Yl.qr rfl rfl kr (fun _ h => (h.rdT 6 rfl hT).qzo (k := i) (qmn (F := I64v) (k := i) (x := (l.getD i 0)) ((getD_at 0 om)))))∘Jo (vI g) (by rw [hge])∘Jp 1∘Jd2∘Jr∘Jp 1∘Jn∘Jf 0∘Jg 6 O0∘Jp 1∘Jy (h:=by exact Yl.ix0 gsA g 1 rfl rfl rfl)∘Jy (v := .slice ((rs2.getD g Rw.zero).A) ((rs2.getD g Rw.zero).l.length) ((rs2.getD g Rw.zero).c)) (h:=by exact Yl.r1 5 g Rw.zero om rfl rfl rfl)∘Jo (vS gy yl.length yc) (by rw [hy])∘Jp 1∘Jy (h:=by exact Yl.ix0 gy c 3 rfl rfl rfl)∘Jp 1∘Jd6∘Jr∘Jp 1∘Jn∘Jf 0∘Jf 0∘Jg 2 O0∘Jp 1∘Jy (h:=by exact Yl.ix0 ggA g 2 rfl rfl rfl)∘Jy (v := .agg ((gs.getD g Gr.zero).cells)) (h:=by exact Yl.loadS rfl rfl si_gr rfl (fun _ h => h.qf7 qai (i := 1) rfl ((getD_at Gr.zero om))))∘JA #[vI 0, vI 0]) fun w9 g9 => (JV si_gr O0' (h1:=by exact q3d (gs.getD g Gr.zero))) fun w4_10 => (Jd6∘Jj) fun a Z I => ?_)
  refine zp (fun aS wS => ∃ (g10 : Nat), Fr aS 82 [] [(10, vP g10 0), (9, vP g9 0), (8, vP gy (c * 3)), (7, vI g), (15, .bool true), (14, vI i), (13, vI l.length), (12, .slice (some ⟨gE, oE, none⟩) l.length ec), (0, vP gm 0), (2, vI c)] ∧ Mem W wS (.blk g10 e.cells 168 :: .blk g9 ((gs.getD g Gr.zero).cells) 110 :: fM gm cp cr (some ⟨ggA, 0, none⟩) ng gc lA nl lc uA nu uc tA nt tc (some ⟨gsA, 0, none⟩) ns sc :: fG (some ⟨ggA, 0, none⟩) ng gc gs :: fI lA nl lc cl :: fI uA nu uc cu :: fT tA nt tc ts :: fS (some ⟨gsA, 0, none⟩) ns sc rs2 :: (fR rs2 ++ (T)))) ?_ ?_
  ·
   refine Jb Z I ((Vs .n [35]) fun wd5 => (Vp [0, 4]∘Vf 8 1∘Vp [11]∘Vf 16 0∘Vp [20, 24]∘Vn 1∘Vf 2 0∘Vy 3 (v := vQ yz.v) (h:=by exact Yl.qr rfl rfl kr (fun _ h => h.qdm 7 (j := 0) rfl om hy (hyz) rfl))∘Vn 5∘Vf 6 1∘Vy 7 (v := vW yz.r) (h:=by exact Yl.qr rfl rfl kr (fun _ h => h.qdm 7 (j := 1) rfl om hy (hyz) rfl))∘Vc 9 O0∘Vo (vI wt) (by rw [hwt])∘Vn 12∘Vf 13 0∘Vf 14 6∘Vc 15 O1∘Vc 17 O0∘Vo (vI p) (by rw [hpp])∘Vy 18 (h:=by exact Yl.ix0 gsA p 1 rfl rfl rfl)∘Vy 19 (v := .slice ((rs2.getD p Rw.zero).A) ((rs2.getD p Rw.zero).l.length) ((rs2.getD p Rw.zero).c)) (h:=by exact Yl.r1 6 p Rw.zero om rfl rfl rfl)∘Vo (vS gp pl.length pc) (by rw [hp])∘Vy 21 (h:=by exact Yl.ix0 gp c 3 rfl rfl rfl)∘Vf 22 2∘Vy 23 (v := vQ pz.floor) (h:=by exact Yl.qr rfl rfl kr (fun _ h => h.qdm 7 (j := 2) rfl om hp (hpz) rfl))∘Vn 25∘Vf 26 0∘Vf 27 0∘Vf 28 1∘Vc 29 O1) fun a Z I HS => ?_)
   refine ze [10, 34] kr rfl ?_
   refine all_cons ?_ ?_
   ·refine q3 Z (i := 10) rfl rfl ?_
    refine e_is Z I [vQ yz.v, vW yz.r, vI wt] (.agg #[vQ yz.v, vW yz.r, vW wt]) rfl rfl (q4 yz.v yz.r (wt : Int) om _) fun w48 hbw I a Z => ?_
    refine keepS (I.pt 7 [0, 1, 2, 3, 4, 5, 6]) (fun HS => ?_)
    refine ze [30, 34] kr rfl ?_
    refine all_cons ?_ ?_
    ·refine q3 Z (i := 30) rfl rfl ?_
     refine e_is Z I [.agg #[vQ yz.v, vW yz.r, vW wt], vQ pz.floor, vQ cr] (.tuple #[.agg e.cells, vI 0]) rfl rfl (qee (⟨yz.v, yz.r, wt⟩ : En) e hEo pz.floor cr hpf hcr hew _) fun w68 hbw I a Z => ?_
     refine keepS (I.pt 7 [0, 1, 2, 3, 4, 5, 6]) (fun HS => ?_)
     refine Vb Z I HS ((Vp [31]∘Vx 32∘Vx 33∘VA 34 .n #[vQ 0, vW 0, vW 0]) fun w10 g10 => fun a Z I HS => ?_)
     refine s_on Z 35 rfl (e_sa Z I 0 rfl rfl rfl rfl rfl qk rfl rfl (zu e) ?_)
     clear I; intro w5_35 I
     refine noS kr ?_
     refine ap Z (pastS kr) [36] (bt 37 []) [] fun a Z => ?_
     refine qc kr ?_
     exact ⟨g10, Z.sub kr, I.pt 8 [0, 1, 2, 3, 4, 5, 6, 7]⟩
    refine all_cons ?_ all_nil
    refine q3 Z (i := 34) rfl rfl ?_
    refine s_ea Z I #[vQ 0, vW 0, vW 0] ?_
    clear Z I; intro a w10 g10 Z I
    refine keepS (I.pt 8 [1, 2, 3, 4, 5, 6, 7]) (fun HS => ?_)
    refine Vb Z I HS ((VI 30 (.f .n) (h:=by exact fun I => qee (⟨yz.v, yz.r, wt⟩ : En) e hEo pz.floor cr hpf hcr hew _)) fun w68 hbw => (Vp [31]∘Vx 32∘Vx 33) fun a Z I HS => ?_)
    refine s_on Z 35 rfl (e_sa Z I 0 rfl rfl rfl rfl rfl qk rfl rfl (zu e) ?_)
    clear I; intro w5_35 I
    refine noS kr ?_
    refine ap Z (pastS kr) [36] (bt 37 []) [] fun a Z => ?_
    refine qc kr ?_
    exact ⟨g10, Z.sub kr, I.pt 8 [0, 1, 2, 3, 4, 5, 6, 7]⟩
   refine all_cons ?_ all_nil
   refine q3 Z (i := 34) rfl rfl ?_
   refine s_ea Z I #[vQ 0, vW 0, vW 0] ?_
   clear Z I; intro a w10 g10 Z I
   refine keepS (I.pt 8 [1, 2, 3, 4, 5, 6, 7]) (fun HS => ?_)
   refine Vb Z I HS ((VI 10 (.f .n) (h:=by exact fun I => q4 yz.v yz.r (wt : Int) om _)) fun w48 hbw => (VI 30 (.f .n) (h:=by exact fun I => qee (⟨yz.v, yz.r, wt⟩ : En) e hEo pz.floor cr hpf hcr hew _)) fun w68 hbw => (Vp [31]∘Vx 32∘Vx 33) fun a Z I HS => ?_)
   refine s_on Z 35 rfl (e_sa Z I 0 rfl rfl rfl rfl rfl qk rfl rfl (zu e) ?_)
   clear I; intro w5_35 I
   refine noS kr ?_
   refine ap Z (pastS kr) [36] (bt 37 []) [] fun a Z => ?_
   refine qc kr ?_
   exact ⟨g10, Z.sub kr, I.pt 8 [0, 1, 2, 3, 4, 5, 6, 7]⟩
  clear Z I; rintro a w5 ⟨g10, Z, I⟩
  refine qmm I [.blk g10 e.cells 168, .blk g9 ((gs.getD g Gr.zero).cells) 110, fM gm cp cr (some ⟨ggA, 0, none⟩) ng gc lA nl lc uA nu uc tA nt tc (some ⟨gsA, 0, none⟩) ns sc, fG (some ⟨ggA, 0, none⟩) ng gc gs, fI lA nl lc cl, fI uA nu uc cu, fT tA nt tc ts] [0, 1, 2, 3, 4, 5, 6] [11] fun I HS => ?_
  refine ap Z (fun _ => HS) [0, 1, 2, 4] (bf 12 [0, 1, 2, 4]) [(75, vP g10 1), (73, vP g10 0), (72, vP gy (c * 3)), (71, vP gy (c * 3))] fun a Z => ?_
  refine s_ac Z HS 3 0 (v := vQ e.v) fun a Z => ?_
  refine s_ac Z HS 5 0 (v := vW e.r) fun a Z => ?_
  refine s_am Z HS 6 fun a Z => ?_
  refine ap Z (fun _ => HS) [7] (bt 12 [8, 9, 10, 11]) [(78, vP gy (c * 3))] fun a Z => ?_
  refine s_on Z 8 rfl ?_
  refine qb2 Z I 7 (c := c) 0 ({ yz with v := e.v }) rfl rfl rfl rfl kr rfl rfl om (hy) (hyz) rfl de rfl ?_
  clear I; intro w6_8 I
  replace I : Mem W w6_8 (.blk g10 e.cells 168 :: .blk g9 ((gs.getD g Gr.zero).cells) 110 :: fM gm cp cr (some ⟨ggA, 0, none⟩) ng gc lA nl lc uA nu uc tA nt tc (some ⟨gsA, 0, none⟩) ns sc :: fG (some ⟨ggA, 0, none⟩) ng gc gs :: fI lA nl lc cl :: fI uA nu uc cu :: fT tA nt tc ts :: fS (some ⟨gsA, 0, none⟩) ns sc (rsPut rs2 g c ({ yz with v := e.v })) :: (fR (rsPut rs2 g c ({ yz with v := e.v })) ++ (T))) := I
  refine keepS (I.pk [0, 1, 2, 3, 4, 5, 6]) (fun HS => ?_)
  refine s_an Z (fun _ => HS) 9 fun a Z => ?_
  refine ap Z (fun _ => HS) [10] (bt 12 [11]) [(80, vP gy (c * 3 + 1))] fun a Z => ?_
  refine s_on Z 11 rfl ?_
  refine qb2 Z I 7 (c := c) 1 ({ yz with v := e.v, r := e.r }) rfl rfl rfl rfl kr rfl rfl (by first | omega | (rw [q6]; omega)) (qq3 om hy) (qeo hyz) rfl de rfl ?_
  clear I; intro w6_11 I
  replace I : Mem W w6_11 (.blk g10 e.cells 168 :: .blk g9 ((gs.getD g Gr.zero).cells) 110 :: fM gm cp cr (some ⟨ggA, 0, none⟩) ng gc lA nl lc uA nu uc tA nt tc (some ⟨gsA, 0, none⟩) ns sc :: fG (some ⟨ggA, 0, none⟩) ng gc gs :: fI lA nl lc cl :: fI uA nu uc cu :: fT tA nt tc ts :: fS (some ⟨gsA, 0, none⟩) ns sc (rsPut (rsPut rs2 g c ({ yz with v := e.v })) g c ({ yz with v := e.v, r := e.r })) :: (fR (rsPut (rsPut rs2 g c ({ yz with v := e.v })) g c ({ yz with v := e.v, r := e.r })) ++ (T))) := I
  rw [qih (by first | omega | (rw [q6]; omega))] at I
  refine noS kr ?_
  refine qc kr ?_
  refine Jb Z I ((JG∘JR∘JaK 1∘Jp 1∘Jd6∘Jq) fun a Z I => ?_)
  exact ⟨_, om, i + 1, (rsPut rs2 g c { yz with v := e.v, r := e.r }), by omega, by rw [q6]; exact hl2, hsp2.put { yz with v := e.v, r := e.r } ⟨hev, her, hyo.1.floor⟩ (by rw [hwt]; have := heo.1.1; rw [heo.2] at this; exact this), by rw [qti hi15, ← hst2, hge]; exact qwt (x := (⟨cp, cr, some ⟨ggA, 0, none⟩, gc, gs, lA, lc, cl, uA, uc, cu, tA, tc, ts, some ⟨gsA, 0, none⟩, sc, rs2⟩ : Stm)) (by show g < rs2.length; omega) hy hyz hpp (by show p < rs2.length; omega) hp hpz hwt hew, rfl, Z.sub kr, I.pt 8 [2, 3, 4, 5, 6, 7]⟩
 intro a Z I
 have hd15 := of_decide_eq_false hb15
 refine Jb Z I ((JF∘JX) fun a Z I => ?_)
 exact norm0 rfl Z (q3q (x := (⟨cp, cr, some ⟨ggA, 0, none⟩, gc, gs, lA, lc, cl, uA, uc, cu, tA, tc, ts, some ⟨gsA, 0, none⟩, sc, rs⟩ : Stm)) hl2 hsp2 (by rw [show ({ (⟨cp, cr, some ⟨ggA, 0, none⟩, gc, gs, lA, lc, cl, uA, uc, cu, tA, tc, ts, some ⟨gsA, 0, none⟩, sc, rs⟩ : Stm) with rs := rs2 } : Stm) = (⟨cp, cr, some ⟨ggA, 0, none⟩, gc, gs, lA, lc, cl, uA, uc, cu, tA, tc, ts, some ⟨gsA, 0, none⟩, sc, rs2⟩ : Stm) from rfl, hst2, List.take_of_length_le om]) I)
theorem q1k {W w : World} {F T : List Fact} {x : Stm} {ng nl nu nt ns gm g c : Nat} {mm : List Mb} (n : Nat) (I : Mem W w F) (he : F.drop n = mdA gm x ng nl nu nt ns ++ T) (hx : MdOk x ng nl nu nt ns) (hc : (c : Int) < x.cpus) (hg : g < ns) (hm : memS x.sta g c = mm) : Calls Tryz.prog 84 #[vP gm 0, vI g, vI c] w (Is w (.tuple #[.agg (bestM topM mm).cells, .bool (!mm.isEmpty)])) := hm ▸ q0x n I he hx hc hg
theorem q1l {x : Stm} (hok : x.sta.Ok) {g c : Nat} (hn : memS x.sta g c ≠ []) : (bestM topM (memS x.sta g c)).v < 18446744073709551616 := by
 rcases qec (qpe hok hn) with ⟨t, ht, _, h2⟩ | ⟨h, _, _, _, _, h5⟩
 ·rw [h2]; exact (hok.ts t ht).v
 ·rw [h5]; exact (qdc hok h c).v
theorem qtz (W w : World) (x : Stm) (gm : Nat) (ng nl nu nt ns : Nat) (hx : MdOk x ng nl nu nt ns) (T : List Fact) (I : Mem W w (mdA gm x ng nl nu nt ns ++ T)) :
    Calls Tryz.prog 72 #[vP gm 0] w (qxn W gm x ng nl nu nt ns T (riseS x.sta)) := by
 obtain ⟨cp, cr, gA, gc, gs, lA, lc, cl, uA, uc, cu, tA, tc, ts, sA, sc, rs⟩ := x
 replace I : Mem W w (fM gm cp cr gA ng gc lA nl lc uA nu uc tA nt tc sA ns sc :: fG gA ng gc gs :: fI lA nl lc cl :: fI uA nu uc cu :: fT tA nt tc ts :: fS sA ns sc rs :: (fR rs ++ (T))) := I
 obtain ⟨hlg, hll, hlu, hlt, hls⟩ := hx.ln
 replace hlg : gs.length = ng := hlg; replace hll : cl.length = nl := hll; replace hlu : cu.length = nu := hlu; replace hlt : ts.length = nt := hlt; replace hls : rs.length = ns := hls
 have hrg := hx.sh.rs; replace hrg : rs.length = gs.length := hrg
 obtain ⟨hcp1, hcp2, _, hgs⟩ := z9 hx.sh.cfg
 replace hcp1 : 1 ≤ cp := hcp1; replace hcp2 : cp ≤ 64 := hcp2; replace hgs : gsOk gs = true := hgs
 have hgl1 := (qo hgs).1; have hgl2 := (qo hgs).2.1
 obtain ⟨gsA, rfl⟩ := qm (I.own (i := 5) rfl) om
 refine (Jin1 I Tryz.func72 45) ?_
 refine (JP∘Jp 1∘Jn∘Jf 0∘Jg 6 O0∘Jl∘Jp 1∘Jj∘JB) fun a Z I => ?_
 refine qe (fun mS aS wS => ∃ (g : Nat) (rs2 : List Rw), (g ≤ ns) ∧ (rs2.length = ns) ∧ (MdOk (⟨cp, cr, gA, gc, gs, lA, lc, cl, uA, uc, cu, tA, tc, ts, some ⟨gsA, 0, none⟩, sc, rs2⟩ : Stm) ng nl nu nt ns) ∧ (Risen (⟨cp, cr, gA, gc, gs, lA, lc, cl, uA, uc, cu, tA, tc, ts, some ⟨gsA, 0, none⟩, sc, rs⟩ : Stm) rs2 g 0) ∧ mS = ns - g ∧ Fr aS 45 [] [(13, vI g), (12, vI ns), (11, vS gsA ns sc), (0, vP gm 0)] ∧ Mem W wS (fM gm cp cr gA ng gc lA nl lc uA nu uc tA nt tc (some ⟨gsA, 0, none⟩) ns sc :: fG gA ng gc gs :: fI lA nl lc cl :: fI uA nu uc cu :: fT tA nt tc ts :: fS (some ⟨gsA, 0, none⟩) ns sc rs2 :: (fR rs2 ++ (T)))) (m := ns - 0) ⟨0, rs, Nat.zero_le _, hls, hx, qtj, rfl, Z.sub kr, I.pt 6 [0, 1, 2, 3, 4, 5]⟩ ?_
 clear Z I; rintro mS a w_ ⟨g, rs2, hg, hl2, hx2, hR, rfl, Z, I⟩
 refine Jb Z I ((JP∘Jp 1∘Jj∘JQ) (Ju (fun hb14 => ?_) fun hb14 => ?_))
 ·
  intro a Z I
  have hd14 := of_decide_eq_true hb14
  have hg14 : g < ns := by omega
  obtain ⟨⟨yA, yc, yl⟩, hy⟩ : ∃ y, rs2.getD g Rw.zero = y := ⟨_, rfl⟩
  have hys := hx2.spots g (by show g < rs2.length; omega)
  replace hys : ((rs2.getD g Rw.zero).l.length : Int) = cp ∧ _ := hys
  rw [hy] at hys
  have hyl : (yl.length : Int) = cp := hys.1
  revert I; revert a; repeat (first | clear Z | clear I)
  intro a Z I
  obtain ⟨gy, rfl⟩ := I.rwSome 6 rfl om hy om
  have hyo := hR.2.1 g
  rw [hy] at hyo
  replace hyo : yl.length = (rs.getD g Rw.zero).l.length := hyo
  refine Jb Z I ((JT∘JS'∘JQ∘JB∘JP∘Jp 1∘Jy (h:=by exact Yl.ix0 gsA g 1 rfl rfl rfl)∘Jy (v := .slice ((rs2.getD g Rw.zero).A) ((rs2.getD g Rw.zero).l.length) ((rs2.getD g Rw.zero).c)) (h:=by exact Yl.r1 5 g Rw.zero om rfl rfl rfl)∘Jo (vS gy yl.length yc) (by rw [hy])∘Jp 2∘Jr∘Jp 1∘Jl∘Jp 1∘Jj∘JB) fun a Z I => ?_)
  refine qe (fun mS aS wS => ∃ (c : Nat) (rs3 : List Rw) (yl3 : List Sp), (rs3.length = ns) ∧ (MdOk (⟨cp, cr, gA, gc, gs, lA, lc, cl, uA, uc, cu, tA, tc, ts, some ⟨gsA, 0, none⟩, sc, rs3⟩ : Stm) ng nl nu nt ns) ∧ (Risen (⟨cp, cr, gA, gc, gs, lA, lc, cl, uA, uc, cu, tA, tc, ts, some ⟨gsA, 0, none⟩, sc, rs⟩ : Stm) rs3 g c) ∧ (rs3.getD g Rw.zero = ⟨some ⟨gy, 0, none⟩, yc, yl3⟩) ∧ (yl3.length = yl.length) ∧ mS = yl.length - c ∧ Fr aS 45 [] [(20, vI c), (19, vI yl.length), (3, vS gy yl.length yc), (2, vI g), (14, .bool true), (13, vI g), (12, vI ns), (11, vS gsA ns sc), (0, vP gm 0)] ∧ Mem W wS (fM gm cp cr gA ng gc lA nl lc uA nu uc tA nt tc (some ⟨gsA, 0, none⟩) ns sc :: fG gA ng gc gs :: fI lA nl lc cl :: fI uA nu uc cu :: fT tA nt tc ts :: fS (some ⟨gsA, 0, none⟩) ns sc rs3 :: (fR rs3 ++ (T)))) (m := yl.length - 0) ⟨0, rs2, yl, hl2, hx2, hR, hy, rfl, rfl, Z.sub kr, I.pt 6 [0, 1, 2, 3, 4, 5]⟩ ?_
  clear Z I; rintro mS a w_ ⟨c, rs3, yl3, hl3, hx3, hR3, hy3, hyl3, rfl, Z, I⟩
  refine Jb Z I ((JP∘Jp 1∘Jj∘JQ) (Ju (fun hb21 => ?_) fun hb21 => ?_))
  ·
   intro a Z I
   have hd21 := of_decide_eq_true hb21
   have hc21 : c < yl.length := by omega
   obtain ⟨zz, hzz⟩ : ∃ z, yl3[c]? = some z := ⟨_, List.getElem?_eq_getElem om⟩
   obtain ⟨mm, hmm⟩ : ∃ z, memS (⟨cp, cr, gA, gc, gs, lA, lc, cl, uA, uc, cu, tA, tc, ts, some ⟨gsA, 0, none⟩, sc, rs⟩ : Stm).sta g c = z := ⟨_, rfl⟩
   have hsp3 := hx3.spots g (by show g < rs3.length; omega)
   replace hsp3 : ((rs3.getD g Rw.zero).l.length : Int) = cp ∧ ∀ z ∈ (rs3.getD g Rw.zero).l, z.Ok ∧ _ := hsp3
   rw [hy3] at hsp3
   have hzo := (hsp3.2 zz (List.mem_of_getElem? hzz)).1
   have hzf := hzo.floor
   have hso := (qh9 (x := (⟨cp, cr, gA, gc, gs, lA, lc, cl, uA, uc, cu, tA, tc, ts, some ⟨gsA, 0, none⟩, sc, rs3⟩ : Stm)) (by show g < rs3.length; omega) (hx3.sh.row g (by show g < rs3.length; omega))).2 c (by show c < (rs3.getD g Rw.zero).l.length; rw [hy3]; show c < yl3.length; omega)
   replace hso : spOk _ g ((rs3.getD g Rw.zero).l.getD c Sp.zero) = true := hso
   rw [hy3, show (⟨some ⟨gy, 0, none⟩, yc, yl3⟩ : Rw).l.getD c Sp.zero = zz from qad Sp.zero hzz] at hso
   refine Jb Z I ((JT∘JS'∘JQ∘JB∘JP∘Jp 2∘Jd1∘Jr∘Jp 3∘JI (h:=by exact fun I => q1k 0 I rfl hx3 (by show (c : Int) < cp; omega) om ((qwv hR3 g c).trans hmm))) fun w27 hbw => (Jp 1∘Jx∘Jx∘JA #[vQ 0, vQ 0, vQ 0]) fun w5 g5 => (JV qcw O0' (h1:=by exact qic (bestM topM mm))) fun w6_8 => (Jp 1∘Jr∘Jp 1∘Jj) (Ju (fun hb30 => ?_) fun hb30 => ?_))
   ·
    intro a Z I
    have hne : mm ≠ [] := by simpa using hb30
    have hbv := q1l (x := (⟨cp, cr, gA, gc, gs, lA, lc, cl, uA, uc, cu, tA, tc, ts, some ⟨gsA, 0, none⟩, sc, rs⟩ : Stm)) hx.ok (g := g) (c := c) (by rw [hmm]; exact hne)
    rw [hmm] at hbv
    have hr1 : rise1 (⟨cp, cr, gA, gc, gs, lA, lc, cl, uA, uc, cu, tA, tc, ts, some ⟨gsA, 0, none⟩, sc, rs⟩ : Stm).sta g c zz = { zz with floor := max zz.floor (bestM topM mm).v } := by unfold rise1; rw [hmm, if_neg (by simpa using hne)]
    refine Jb Z I ((JT∘Vs .n [12]) fun wd8 => (Vp [0, 1, 2, 3]∘Vy 4 (h:=by exact Yl.ix0 gy c 3 rfl rfl rfl)∘Vf 5 2∘Vy 6 (v := vQ zz.floor) (h:=by exact Yl.qr rfl rfl kr (fun _ h => h.qdm 7 (j := 2) rfl om hy3 (hzz) rfl))∘Vy 7 (v := .agg ((bestM topM mm).cells)) (h:=by exact Yl.loadS rfl rfl qcw rfl (fun _ h => qb (h.blk (i := 0) rfl)))∘VI 8 .n (h:=by exact fun I => q3i (bestM topM mm) _)) fun w39 hbw => (Vy 9 (v := vQ (if ((bestM topM mm).v : Int) > (zz.floor : Int) then ((bestM topM mm).v : Int) else (zz.floor : Int))) (h:=by exact Yl.max rfl rfl rfl)∘Vo (vQ (max zz.floor (bestM topM mm).v : Nat)) (by rw [Nat.max_def]; split <;> split <;> first | rfl | (congr 1; omega))∘Vu 10 (h:=by exact fun _ => Yl.ix0 gy c 3 rfl rfl rfl)∘Vf 11 2) fun a Z I HS => ?_)
    refine s_on Z 12 rfl ?_
    refine qb2 Z I 6 (c := c) 2 ({ zz with floor := max zz.floor (bestM topM mm).v }) rfl rfl rfl rfl kr rfl rfl om (hy3) (hzz) rfl de rfl ?_
    clear I; intro w8_12 I
    replace I : Mem W w8_12 (.blk g5 ((bestM topM mm).cells) 151 :: fM gm cp cr gA ng gc lA nl lc uA nu uc tA nt tc (some ⟨gsA, 0, none⟩) ns sc :: fG gA ng gc gs :: fI lA nl lc cl :: fI uA nu uc cu :: fT tA nt tc ts :: fS (some ⟨gsA, 0, none⟩) ns sc (rsPut rs3 g c ({ zz with floor := max zz.floor (bestM topM mm).v })) :: (fR (rsPut rs3 g c ({ zz with floor := max zz.floor (bestM topM mm).v })) ++ (T))) := I
    refine noS kr ?_
    refine qc kr ?_
    refine Jb Z I ((JG∘JR∘JaK 1∘Jp 1∘Jd6∘Jq) fun a Z I => ?_)
    exact ⟨_, om, c + 1, (rsPut rs3 g c { zz with floor := max zz.floor (bestM topM mm).v }), (yl3.set c { zz with floor := max zz.floor (bestM topM mm).v }), by rw [q6]; exact hl3, hx3.put (by show g < rs3.length; omega) { zz with floor := max zz.floor (bestM topM mm).v } ⟨hzo.v, hzo.r, by show max _ _ < _; rw [Nat.max_def]; split <;> omega⟩ hso, qtk hR3 (by show g < rs.length; omega) (by show c < (rs.getD g Rw.zero).l.length; omega) (by rw [hy3]; exact hzz) hr1, qq3 om hy3, by rw [List.length_set]; exact hyl3, rfl, Z.sub kr, I.pt 7 [1, 2, 3, 4, 5, 6]⟩
   intro a Z I
   have hem : memS (⟨cp, cr, gA, gc, gs, lA, lc, cl, uA, uc, cu, tA, tc, ts, some ⟨gsA, 0, none⟩, sc, rs⟩ : Stm).sta g c = [] := by rw [hmm]; simpa using hb30
   refine Jb Z I ((JF∘JS'∘JR∘JaK 1∘Jp 1∘Jd1∘Jq) fun a Z I => ?_)
   exact ⟨_, om, c + 1, rs3, yl3, hl3, hx3, qtl hR3 hem, hy3, hyl3, rfl, Z.sub kr, I.pt 7 [1, 2, 3, 4, 5, 6]⟩
  intro a Z I
  have hd21 := of_decide_eq_false hb21
  refine Jb Z I ((JF∘JX∘JG∘JR∘JaK 1∘Jp 1∘Jd1∘Jq) fun a Z I => ?_)
  exact ⟨_, om, g + 1, rs3, by omega, hl3, hx3, qww hR3 (by show (rs.getD g Rw.zero).l.length ≤ c; omega), rfl, Z.sub kr, I.pt 6 [0, 1, 2, 3, 4, 5]⟩
 intro a Z I
 have hd14 := of_decide_eq_false hb14
 refine Jb Z I ((JF∘JX) fun a Z I => ?_)
 exact norm0 rfl Z (q3q (x := (⟨cp, cr, gA, gc, gs, lA, lc, cl, uA, uc, cu, tA, tc, ts, some ⟨gsA, 0, none⟩, sc, rs⟩ : Stm)) hl2 hx2.spots (qwx hR (by show rs.length ≤ g; omega)) I)
theorem qlm {W w : World} {F T : List Fact} {x : Stm} {ng nl nu nt ns gm g c : Nat} {l : List Nat} (n : Nat) (I : Mem W w F) (he : F.drop n = mdA gm x ng nl nu nt ns ++ T) (hx : MdOk x ng nl nu nt ns) (hc : (c : Int) < x.cpus) (hg : g < ns) (hl : zi x.sta g c = l) : Calls Tryz.prog 104 #[vP gm 0, vI g, vI c] w (qrc w l) := hl ▸ q1i n I he hx hc hg
theorem qln {x : Stm} {ng nl nu nt ns g c : Nat} {l : List Nat} (hx : MdOk x ng nl nu nt ns) (hg : g < ns) (hl : zi x.sta g c = l) : ∀ h ∈ l, 0 < h ∧ h < ns := by
 subst hl
 intro h hh
 obtain ⟨_, _, _, hgs⟩ := z9 hx.sh.cfg
 have h1 := hx.sh.rs
 have h2 := hx.ln.s
 have h3 := qj1 (s := x.sta) (c := c) (g := g) (qa1 hgs om) h hh
 exact ⟨h3.1, by omega⟩
theorem qkd {s : Sta} {c : Nat} : ∀ (f g : Nat), (qb1 s c f g).length ≤ f
 | 0, g => Nat.le_refl _
 | f + 1, g => by
  rw [qb1]
  split
  ·exact Nat.zero_le _
  ·split
   ·rw [List.length_cons]; have := qkd (s := s) (c := c) f (s.par g).toNat; omega
   ·exact Nat.zero_le _
theorem qiv {x : Stm} {ng nl nu nt ns g c : Nat} {l : List Nat} (hx : MdOk x ng nl nu nt ns) (hg : g < ns) (hl : zi x.sta g c = l) : l.length ≤ 1000000 := by
 subst hl
 have h1 : (zi x.sta g c).length ≤ g := qkd (s := x.sta) (c := c) g g
 have h2 := hx.few.s
 have h3 := hx.ln.s
 omega
theorem qlo {W w : World} {F T : List Fact} {x : Stm} {ng nl nu nt ns gm c : Nat} {E : Option Addr} {ec : Nat} {l : List Nat} (n : Nat) (I : Mem W w F) (he : F.drop n = mdA gm x ng nl nu nt ns ++ T) {j : Nat} (hE : F[j]? = some (.row (.slice E l.length ec) l.length (l.map I64v) 3 1)) (hj : j < n) (hx : Lns x ng nl nu nt ns) (hlm : ∀ g ∈ l, 0 < g ∧ g < ns) (hln : l.length ≤ 1000000)
  (hgs : gsOk x.gs = true) (hrg : x.rs.length = x.gs.length) (hsp : SpsOk x.gs x.cpus x.rs) (hcr : x.credit < 18446744073709551616) (hcp : x.cpus ≤ 64) (hc : (c : Int) < x.cpus) :
  Calls Tryz.prog 110 #[vP gm 0, .slice E l.length ec, vI c] w (fun r w' => ∃ rs2, r = .returned (.tuple #[]) ∧ rs2.length = ns ∧ SpsOk x.gs x.cpus rs2 ∧ ({ x with rs := rs2 } : Stm).sta = wakeS x.sta l c ∧ Mem W w' (F.take n ++ (mdA gm { x with rs := rs2 } ng nl nu nt ns ++ T))) :=
 (qty W w x gm c ng nl nu nt ns hx (F.take n ++ T) E ec l (List.mem_append_left _ (List.mem_of_getElem? (by rw [List.getElem?_take_of_lt hj]; exact hE))) hlm hln hgs hrg hsp hcr hcp hc (I.front n he)).mono fun r w' ⟨rs2, h1, h2, h3, h4, h5⟩ => ⟨rs2, h1, h2, h3, h4, h5.back⟩
theorem qjk (W w : World) (x : Stm) (gm : Nat) (ng nl nu nt ns : Nat) (hx : MdOk x ng nl nu nt ns) (o : Op30) (ho : o.Ok) (T : List Fact) (I : Mem W w (mdA gm x ng nl nu nt ns ++ T)) :
    Calls Tryz.prog 68 #[vP gm 0, .agg o.cells] w (OpIs W gm T (qa2 x.sta o)) := by
 obtain ⟨cp, cr, gA, gc, gs, lA, lc, cl, uA, uc, cu, tA, tc, ts, sA, sc, rs⟩ := x
 replace I : Mem W w (fM gm cp cr gA ng gc lA nl lc uA nu uc tA nt tc sA ns sc :: fG gA ng gc gs :: fI lA nl lc cl :: fI uA nu uc cu :: fT tA nt tc ts :: fS sA ns sc rs :: (fR rs ++ (T))) := I
 obtain ⟨hlg, hll, hlu, hlt, hls⟩ := hx.ln
 replace hlg : gs.length = ng := hlg; replace hll : cl.length = nl := hll; replace hlu : cu.length = nu := hlu; replace hlt : ts.length = nt := hlt; replace hls : rs.length = ns := hls
 have hlns := hx.ln
 have hsp : SpsOk gs cp rs := hx.spots
 have hrg : rs.length = gs.length := hx.sh.rs
 have hcr : cr < 18446744073709551616 := hx.ok.credit
 obtain ⟨hcp1, hcp2, _, hgs⟩ := z9 hx.sh.cfg
 replace hcp1 : 1 ≤ cp := hcp1; replace hcp2 : cp ≤ 64 := hcp2; replace hgs : gsOk gs = true := hgs
 have hgl1 := (qo hgs).1; have hgl2 := (qo hgs).2.1
 have hcll : (cl.length : Int) = cp := hx.sh.cl; have hcul : (cu.length : Int) = cp := hx.sh.cu
 have hfts : ts.length ≤ 1000000 := hx.few.t
 have hoc := ho.cpu; have hot := ho.task; have hog := ho.group; have how := ho.weight; have hoto := ho.to; have hotk := ho.ticks; have hom := ho.mask; have hok8 := ho.kind; unfold I64 at hoc hot hog how hoto hotk
 refine (Jin2 I Tryz.func68 55) ?_
 refine (JP∘JE) fun w3 g3 => (Jp 2∘Jr∘Jp 1∘Jj∘JQ∘JB∘JP∘Jg 2 O0∘JI (h:=by exact fun I => qhc o.task _)) fun w13 hbw => (Jp 2∘Jd3∘Jj) (Ji' (fun hd10 => ?_) fun hd10 => ?_)
 ·
  exact (JT∘JP∘Jp 2∘Jj∘JZ∘Jz2) fun I => by exact qs (y := (⟨cp, cr, gA, gc, gs, lA, lc, cl, uA, uc, cu, tA, tc, ts, sA, sc, rs⟩ : Stm)) 1 I rfl hlns (if_pos (decide_eq_false hd10))
 refine (JF∘JP∘Jg 4 O0∘JL (h:=by exact fun I => qcc o.weight _)) ?_
 rintro I _ w18 ⟨rfl, hbw⟩
 refine ⟨_, rfl, _, I.call hbw, ?_⟩
 refine (Jp 2∘Jd3∘Jj) (Ji' (fun hd15 => ?_) fun hd15 => ?_)
 ·
  exact (JT∘JP∘Jp 2∘Jj∘JZ∘Jz2) fun I => by exact qs (y := (⟨cp, cr, gA, gc, gs, lA, lc, cl, uA, uc, cu, tA, tc, ts, sA, sc, rs⟩ : Stm)) 1 I rfl hlns ((if_neg (nf (decide_eq_true hd10))).trans (if_pos (decide_eq_false hd15)))
 refine (JF∘JS'∘JQ∘JP∘Jp 1∘Jg 2 O0∘JI (h:=by exact fun I => qft 1 I rfl hx o.task)) fun w23 hbw => (Jp 1∘Jd3∘Jr∘Jp 2∘Jd1∘Jj) (Ju (fun hb25 => ?_) fun hb25 => ?_)
 ·
  intro a Z I
  have hd25 := of_decide_eq_true hb25
  exact Jb Z I ((JT∘JP∘Jp 2∘Jj∘JZ∘Jz2) fun I => by exact qs (y := (⟨cp, cr, gA, gc, gs, lA, lc, cl, uA, uc, cu, tA, tc, ts, sA, sc, rs⟩ : Stm)) 1 I rfl hlns ((if_neg (nf (decide_eq_true hd10))).trans ((if_neg (nf (decide_eq_true hd15))).trans (if_pos (hd25)))))
 intro a Z I
 have hd25 := of_decide_eq_false hb25
 obtain ⟨k, t, hk, ht, hkl, hkid⟩ := qip hd25
 replace hk : fidx ts o.task = (k : Int) := hk; replace ht : ts[k]? = some t := ht; replace hkl : k < ts.length := hkl
 obtain ⟨htg, hto⟩ := hx.task ht
 have hti := htg.id; have htgr := htg.group; have htc := htg.cpu; have htw := htg.weight; have htv := hto.v; have htr := hto.r; have htm := hto.mask
 replace htc : 0 ≤ t.cpu ∧ t.cpu < cp := htc
 obtain ⟨gt, hgt⟩ : ∃ n : Nat, t.group = (n : Int) := ⟨t.group.toNat, by omega⟩
 obtain ⟨ct, hct⟩ : ∃ n : Nat, t.cpu = (n : Int) := ⟨t.cpu.toNat, by omega⟩
 obtain ⟨wt, hwt⟩ : ∃ n : Nat, t.weight = (n : Int) := ⟨t.weight.toNat, by omega⟩
 have hEo : (⟨t.v, t.r, wt⟩ : En).Ok := En.qjm htg.ent hwt htv
 obtain ⟨z, hoz⟩ : ∃ n : Nat, o.weight = (n : Int) := ⟨o.weight.toNat, by omega⟩
 have hz : 1 ≤ z ∧ z ≤ 65536 := by omega
 revert I; revert a; repeat (first | clear Z | clear I)
 intro a Z I
 obtain ⟨gtA, rfl⟩ := qm (I.own (i := 5) rfl) (Nat.lt_of_le_of_lt (Nat.zero_le _) (show k < nt from (by omega : k < nt)))
 refine Jb Z I ((JF∘JS'∘JP∘Jp 1∘Jn∘Jf 0∘Jg 5 O1∘Jp 1∘Jo (vI k) (by rw [hk])∘Jy (h:=by exact Yl.ix0 gtA k 8 rfl rfl rfl)∘Jp 1∘Jd6∘Jj) fun a Z I => ?_)
 refine zp (fun aS wS => ∃ (g8 : Nat), Fr aS 55 [] [(8, vP g8 0), (7, vP gtA (k * 8)), (25, .bool false), (6, vI (fidx ts o.task)), (15, .bool false), (10, .bool false), (5, vI 0), (4, vI 0), (3, vP g3 0), (0, vP gm 0)] ∧ Mem W wS (.blk g8 ((⟨t.v, 0, z⟩ : En).cells) 168 :: .blk g3 o.cells 98 :: fM gm cp cr gA ng gc lA nl lc uA nu uc (some ⟨gtA, 0, none⟩) nt tc sA ns sc :: fG gA ng gc gs :: fI lA nl lc cl :: fI uA nu uc cu :: fT (some ⟨gtA, 0, none⟩) nt tc ts :: fS sA ns sc rs :: (fR rs ++ (T)))) ?_ ?_
 ·
  refine Jb Z I ((Vs .n [20]) fun wd10 => (Vp [0, 4, 8]∘Vf 13 4∘Vn 1∘Vf 2 6∘Vy 3 (v := vQ t.v) (h:=by exact Yl.qr rfl rfl kr (fun _ h => h.qw qi (i := 5) rfl (k := k) (off := 6) (x := t) (ht) rfl))∘Vn 5∘Vf 6 7∘Vy 7 (v := vW t.r) (h:=by exact Yl.qr rfl rfl kr (fun _ h => h.qw qi (i := 5) rfl (k := k) (off := 7) (x := t) (ht) rfl))∘Vn 9∘Vf 10 2∘Vy 11 (v := vI t.weight) (h:=by exact Yl.qr rfl rfl kr (fun _ h => h.qw qi (i := 5) rfl (k := k) (off := 2) (x := t) (ht) rfl))∘Vo (vI wt) (by rw [hwt])∘Vc 14 O0∘Vo (vI z) (by rw [hoz])) fun a Z I HS => ?_)
  refine ze [12, 19] kr rfl ?_
  refine all_cons ?_ ?_
  ·refine q3 Z (i := 12) rfl rfl ?_
   refine e_is Z I [vQ t.v, vW t.r, vI wt] (.agg #[vQ t.v, vW t.r, vW wt]) rfl rfl (q4 t.v t.r (wt : Int) om _) fun w46 hbw I a Z => ?_
   refine keepS (I.pt 7 [0, 1, 2, 3, 4, 5, 6]) (fun HS => ?_)
   refine ze [15, 19] kr rfl ?_
   refine all_cons ?_ ?_
   ·refine q3 Z (i := 15) rfl rfl ?_
    refine e_is Z I [.agg #[vQ t.v, vW t.r, vW wt], vI z] (.tuple #[.agg ((⟨t.v, 0, z⟩ : En).cells), vI 0]) rfl rfl (qcz (⟨t.v, t.r, wt⟩ : En) hEo z hz _) fun w49 hbw I a Z => ?_
    refine keepS (I.pt 7 [0, 1, 2, 3, 4, 5, 6]) (fun HS => ?_)
    refine Vb Z I HS ((Vp [16]∘Vx 17∘Vx 18∘VA 19 .n #[vQ 0, vW 0, vW 0]) fun w8 g8 => fun a Z I HS => ?_)
    refine s_on Z 20 rfl (e_sa Z I 0 rfl rfl rfl rfl rfl qk rfl rfl (zu (⟨t.v, 0, z⟩ : En)) ?_)
    clear I; intro w10_20 I
    refine noS kr ?_
    refine ap Z (pastS kr) [21] (bt 22 []) [] fun a Z => ?_
    refine qc kr ?_
    exact ⟨g8, Z.sub kr, I.pt 8 [0, 1, 2, 3, 4, 5, 6, 7]⟩
   refine all_cons ?_ all_nil
   refine q3 Z (i := 19) rfl rfl ?_
   refine s_ea Z I #[vQ 0, vW 0, vW 0] ?_
   clear Z I; intro a w8 g8 Z I
   refine keepS (I.pt 8 [1, 2, 3, 4, 5, 6, 7]) (fun HS => ?_)
   refine Vb Z I HS ((VI 15 (.f .n) (h:=by exact fun I => qcz (⟨t.v, t.r, wt⟩ : En) hEo z hz _)) fun w49 hbw => (Vp [16]∘Vx 17∘Vx 18) fun a Z I HS => ?_)
   refine s_on Z 20 rfl (e_sa Z I 0 rfl rfl rfl rfl rfl qk rfl rfl (zu (⟨t.v, 0, z⟩ : En)) ?_)
   clear I; intro w10_20 I
   refine noS kr ?_
   refine ap Z (pastS kr) [21] (bt 22 []) [] fun a Z => ?_
   refine qc kr ?_
   exact ⟨g8, Z.sub kr, I.pt 8 [0, 1, 2, 3, 4, 5, 6, 7]⟩
  refine all_cons ?_ all_nil
  refine q3 Z (i := 19) rfl rfl ?_
  refine s_ea Z I #[vQ 0, vW 0, vW 0] ?_
  clear Z I; intro a w8 g8 Z I
  refine keepS (I.pt 8 [1, 2, 3, 4, 5, 6, 7]) (fun HS => ?_)
  refine Vb Z I HS ((VI 12 (.f .n) (h:=by exact fun I => q4 t.v t.r (wt : Int) om _)) fun w46 hbw => (VI 15 (.f .n) (h:=by exact fun I => qcz (⟨t.v, t.r, wt⟩ : En) hEo z hz _)) fun w49 hbw => (Vp [16]∘Vx 17∘Vx 18) fun a Z I HS => ?_)
  refine s_on Z 20 rfl (e_sa Z I 0 rfl rfl rfl rfl rfl qk rfl rfl (zu (⟨t.v, 0, z⟩ : En)) ?_)
  clear I; intro w10_20 I
  refine noS kr ?_
  refine ap Z (pastS kr) [21] (bt 22 []) [] fun a Z => ?_
  refine qc kr ?_
  exact ⟨g8, Z.sub kr, I.pt 8 [0, 1, 2, 3, 4, 5, 6, 7]⟩
 clear Z I; rintro a w10 ⟨g8, Z, I⟩
 exact Jb Z I ((JP∘Jp 1∘Jy (v := .agg ((⟨t.v, 0, z⟩ : En).cells)) (h:=by exact Yl.loadS rfl rfl qk rfl (fun _ h => qb (h.blk (i := 0) rfl)))∘JO (h:=by exact fun I => qq7 t (⟨t.v, 0, z⟩ : En) O6' I ht hlt (qwy htv hz))) fun w54 => (Jt3∘Jr∘Jp 2∘Jj∘JZ∘Jz2) fun I => by exact qs (y := (⟨cp, cr, gA, gc, gs, lA, lc, cl, uA, uc, cu, some ⟨gtA, 0, none⟩, tc, (ts.set k (t.put (⟨t.v, 0, z⟩ : En))), sA, sc, rs⟩ : Stm)) 2 I rfl (qj5 hlns (by rw [List.length_set]; exact hlt)) (qm9 (x := (⟨cp, cr, gA, gc, gs, lA, lc, cl, uA, uc, cu, some ⟨gtA, 0, none⟩, tc, ts, sA, sc, rs⟩ : Stm)) (decide_eq_true hd10) (decide_eq_true hd15) hk ht hoz))
theorem qpm (W w : World) (x : Stm) (gm : Nat) (ng nl nu nt ns : Nat) (hx : MdOk x ng nl nu nt ns) (o : Op30) (ho : o.Ok) (T : List Fact) (I : Mem W w (mdA gm x ng nl nu nt ns ++ T)) :
    Calls Tryz.prog 64 #[vP gm 0, .agg o.cells] w (OpIs W gm T (qfm x.sta o)) := by
 obtain ⟨cp, cr, gA, gc, gs, lA, lc, cl, uA, uc, cu, tA, tc, ts, sA, sc, rs⟩ := x
 replace I : Mem W w (fM gm cp cr gA ng gc lA nl lc uA nu uc tA nt tc sA ns sc :: fG gA ng gc gs :: fI lA nl lc cl :: fI uA nu uc cu :: fT tA nt tc ts :: fS sA ns sc rs :: (fR rs ++ (T))) := I
 obtain ⟨hlg, hll, hlu, hlt, hls⟩ := hx.ln
 replace hlg : gs.length = ng := hlg; replace hll : cl.length = nl := hll; replace hlu : cu.length = nu := hlu; replace hlt : ts.length = nt := hlt; replace hls : rs.length = ns := hls
 have hlns := hx.ln
 have hsp : SpsOk gs cp rs := hx.spots
 have hrg : rs.length = gs.length := hx.sh.rs
 have hcr : cr < 18446744073709551616 := hx.ok.credit
 obtain ⟨hcp1, hcp2, _, hgs⟩ := z9 hx.sh.cfg
 replace hcp1 : 1 ≤ cp := hcp1; replace hcp2 : cp ≤ 64 := hcp2; replace hgs : gsOk gs = true := hgs
 have hgl1 := (qo hgs).1; have hgl2 := (qo hgs).2.1
 have hcll : (cl.length : Int) = cp := hx.sh.cl; have hcul : (cu.length : Int) = cp := hx.sh.cu
 have hfts : ts.length ≤ 1000000 := hx.few.t
 have hoc := ho.cpu; have hot := ho.task; have hog := ho.group; have how := ho.weight; have hoto := ho.to; have hotk := ho.ticks; have hom := ho.mask; have hok8 := ho.kind; unfold I64 at hoc hot hog how hoto hotk
 obtain ⟨gsA, rfl⟩ := qm (I.own (i := 5) rfl) om
 refine (Jin2 I Tryz.func64 103) ?_
 refine (JP∘JE) fun w3 g3 => (Jp 2∘Jj∘JQ∘JP∘Jg 2 O0∘JI (h:=by exact fun I => qhc o.task _)) fun w13 hbw => (Jp 1∘Jd2∘Jj) (Ji' (fun hd14 => ?_) fun hd14 => ?_)
 ·
  exact (JT∘JP∘Jp 2∘Jj∘JZ∘Jz2) fun I => by exact qs (y := (⟨cp, cr, gA, gc, gs, lA, lc, cl, uA, uc, cu, tA, tc, ts, some ⟨gsA, 0, none⟩, sc, rs⟩ : Stm)) 1 I rfl hlns (if_pos (decide_eq_false hd14))
 refine (JF∘JS'∘JP∘Jp 1∘Jg 2 O0∘JI (h:=by exact fun I => qft 1 I rfl hx o.task)) fun w18 hbw => (Jp 1∘Jd3∘Jj∘JQ∘JB∘JP∘Jp 3∘Jd2∘Jj) (Ju (fun hb19 => ?_) fun hb19 => ?_)
 ·
  intro a Z I
  have hd19 := of_decide_eq_true hb19
  exact Jb Z I ((JT∘JP∘Jp 2∘Jj∘JZ∘Jz2) fun I => by exact qs (y := (⟨cp, cr, gA, gc, gs, lA, lc, cl, uA, uc, cu, tA, tc, ts, some ⟨gsA, 0, none⟩, sc, rs⟩ : Stm)) 1 I rfl hlns ((if_neg (nf (decide_eq_true hd14))).trans (if_pos (hd19))))
 intro a Z I
 have hd19 := of_decide_eq_false hb19
 obtain ⟨k, t, hk, ht, hkl, hkid⟩ := qip hd19
 replace hk : fidx ts o.task = (k : Int) := hk; replace ht : ts[k]? = some t := ht; replace hkl : k < ts.length := hkl
 obtain ⟨htg, hto⟩ := hx.task ht
 have hti := htg.id; have htgr := htg.group; have htc := htg.cpu; have htw := htg.weight; have htv := hto.v; have htr := hto.r; have htm := hto.mask
 replace htc : 0 ≤ t.cpu ∧ t.cpu < cp := htc
 obtain ⟨gt, hgt⟩ : ∃ n : Nat, t.group = (n : Int) := ⟨t.group.toNat, by omega⟩
 obtain ⟨ct, hct⟩ : ∃ n : Nat, t.cpu = (n : Int) := ⟨t.cpu.toNat, by omega⟩
 obtain ⟨wt, hwt⟩ : ∃ n : Nat, t.weight = (n : Int) := ⟨t.weight.toNat, by omega⟩
 have hEo : (⟨t.v, t.r, wt⟩ : En).Ok := En.qjm htg.ent hwt htv
 revert I; revert a; repeat (first | clear Z | clear I)
 intro a Z I
 obtain ⟨gtA, rfl⟩ := qm (I.own (i := 5) rfl) (Nat.lt_of_le_of_lt (Nat.zero_le _) (show k < nt from (by omega : k < nt)))
 refine Jb Z I ((JF∘JP∘Jp 1∘Jn∘Jf 0∘Jg 5 O1∘Jp 1∘Jo (vI k) (by rw [hk])∘Jy (h:=by exact Yl.ix0 gtA k 8 rfl rfl rfl)∘Jf 5∘Jy (v := .bool t.ready) (h:=by exact Yl.qr rfl rfl kr (fun _ h => h.qw qi (i := 5) rfl (k := k) (off := 5) (x := t) (ht) rfl))∘Jp 1∘Jd6∘Jj) (Ju (fun hb22 => ?_) fun hb22 => ?_))
 ·
  exact (JT∘JP∘Jp 2∘Jj∘JZ∘Jz2) fun I => by exact qs (y := (⟨cp, cr, gA, gc, gs, lA, lc, cl, uA, uc, cu, some ⟨gtA, 0, none⟩, tc, ts, some ⟨gsA, 0, none⟩, sc, rs⟩ : Stm)) 1 I rfl hlns ((if_neg (nf (decide_eq_true hd14))).trans ((if_neg (hd19)).trans (if_pos (by rw [qcn (s := Stm.sta (⟨cp, cr, gA, gc, gs, lA, lc, cl, uA, uc, cu, some ⟨gtA, 0, none⟩, tc, ts, some ⟨gsA, 0, none⟩, sc, rs⟩ : Stm)) hk ht]; exact hb22))))
 intro a Z I
 have hnr : t.ready = false := by simpa using hb22
 obtain ⟨em, hem⟩ : ∃ l, zi (⟨cp, cr, gA, gc, gs, lA, lc, cl, uA, uc, cu, some ⟨gtA, 0, none⟩, tc, ts, some ⟨gsA, 0, none⟩, sc, rs⟩ : Stm).sta gt ct = l := ⟨_, rfl⟩
 have hemm := fun h hh => qln (x := (⟨cp, cr, gA, gc, gs, lA, lc, cl, uA, uc, cu, some ⟨gtA, 0, none⟩, tc, ts, some ⟨gsA, 0, none⟩, sc, rs⟩ : Stm)) hx (by omega : gt < ns) hem h hh
 have hemn := qiv (x := (⟨cp, cr, gA, gc, gs, lA, lc, cl, uA, uc, cu, some ⟨gtA, 0, none⟩, tc, ts, some ⟨gsA, 0, none⟩, sc, rs⟩ : Stm)) hx (by omega : gt < ns) hem
 obtain ⟨⟨yA, yc, yl⟩, hy⟩ : ∃ y, rs.getD gt Rw.zero = y := ⟨_, rfl⟩
 have hys := hsp gt om; rw [hy] at hys
 have hyl : (yl.length : Int) = cp := hys.1
 revert I; revert a; repeat (first | clear Z | clear I)
 intro a Z I
 obtain ⟨gy, rfl⟩ := I.rwSome 7 rfl om hy om
 obtain ⟨yz, hyz⟩ : ∃ z, yl[ct]? = some z := ⟨_, List.getElem?_eq_getElem om⟩
 have hyo := hys.2 yz (List.mem_of_getElem? hyz)
 have hyv := hyo.1.v; have hyr := hyo.1.r; have hyf := hyo.1.floor
 obtain ⟨e, hew⟩ : ∃ e, (⟨t.v, t.r, wt⟩ : En).woken yz.floor cr = e := ⟨_, rfl⟩
 have heo : e.Ok ∧ e.w = wt := by rw [← hew]; exact En.qho hEo _ _ hyf
 have hev := heo.1.2; have her := qg1 heo.1.1
 refine Jb Z I ((JF∘JS'∘JP∘Jp 1∘Jn∘Jf 0∘Jg 5 O1∘Jp 1∘Jo (vI k) (by rw [hk])∘Jy (h:=by exact Yl.ix0 gtA k 8 rfl rfl rfl)∘Jp 1∘Jd6∘Jj) fun a Z I => ?_)
 refine wp_seq ?_
 refine Jb Z I ((Vs .n []) fun wd9 => (Vp [0, 1, 5]∘Vn 2∘Vf 3 1∘Vy 4 (v := vI t.group) (h:=by exact Yl.qr rfl rfl kr (fun _ h => h.qw qi (i := 5) rfl (k := k) (off := 1) (x := t) (ht) rfl))∘Vo (vI gt) (by rw [hgt])∘Vn 6∘Vf 7 3∘Vy 8 (v := vI t.cpu) (h:=by exact Yl.qr rfl rfl kr (fun _ h => h.qw qi (i := 5) rfl (k := k) (off := 3) (x := t) (ht) rfl))∘Vo (vI ct) (by rw [hct])∘VK 9 .n (h:=by exact fun I => qlm 1 I rfl hx (by show ((ct : Nat) : Int) < cp; omega) om hem)) fun A48 c48 w48 hc48 => (Vp [10]∘Vd∘Jd6) fun a Z I => ?_)
 refine zp (fun aS wS => ∃ (g9 : Nat), Fr aS 103 [] [(9, vP g9 0), (8, .slice A48 em.length c48), (7, vP gtA (k * 8)), (22, .bool false), (19, .bool false), (6, vI (fidx ts o.task)), (14, .bool false), (5, vI 0), (4, vI 0), (3, vP g3 0), (0, vP gm 0)] ∧ Mem W wS (.blk g9 e.cells 168 :: .row (.slice A48 em.length c48) em.length (em.map I64v) 3 1 :: .blk g3 o.cells 98 :: fM gm cp cr gA ng gc lA nl lc uA nu uc (some ⟨gtA, 0, none⟩) nt tc (some ⟨gsA, 0, none⟩) ns sc :: fG gA ng gc gs :: fI lA nl lc cl :: fI uA nu uc cu :: fT (some ⟨gtA, 0, none⟩) nt tc ts :: fS (some ⟨gsA, 0, none⟩) ns sc rs :: (fR rs ++ (T)))) ?_ ?_
 ·
  refine Jb Z I ((Vs .n [42]) fun wd10 => (Vp [0, 4, 8, 13, 18, 24, 31]∘Vn 1∘Vf 2 6∘Vy 3 (v := vQ t.v) (h:=by exact Yl.qr rfl rfl kr (fun _ h => h.qw qi (i := 6) rfl (k := k) (off := 6) (x := t) (ht) rfl))∘Vn 5∘Vf 6 7∘Vy 7 (v := vW t.r) (h:=by exact Yl.qr rfl rfl kr (fun _ h => h.qw qi (i := 6) rfl (k := k) (off := 7) (x := t) (ht) rfl))∘Vn 9∘Vf 10 2∘Vy 11 (v := vI t.weight) (h:=by exact Yl.qr rfl rfl kr (fun _ h => h.qw qi (i := 6) rfl (k := k) (off := 2) (x := t) (ht) rfl))∘Vo (vI wt) (by rw [hwt])∘Vn 14∘Vf 15 0∘Vf 16 6∘Vc 17 O2∘Vn 19∘Vf 20 1∘Vy 21 (v := vI t.group) (h:=by exact Yl.qr rfl rfl kr (fun _ h => h.qw qi (i := 6) rfl (k := k) (off := 1) (x := t) (ht) rfl))∘Vo (vI gt) (by rw [hgt])∘Vy 22 (h:=by exact Yl.ix0 gsA gt 1 rfl rfl rfl)∘Vy 23 (v := .slice ((rs.getD gt Rw.zero).A) ((rs.getD gt Rw.zero).l.length) ((rs.getD gt Rw.zero).c)) (h:=by exact Yl.r1 7 gt Rw.zero om rfl rfl rfl)∘Vo (vS gy yl.length yc) (by rw [hy])∘Vn 25∘Vf 26 3∘Vy 27 (v := vI t.cpu) (h:=by exact Yl.qr rfl rfl kr (fun _ h => h.qw qi (i := 6) rfl (k := k) (off := 3) (x := t) (ht) rfl))∘Vo (vI ct) (by rw [hct])∘Vy 28 (h:=by exact Yl.ix0 gy ct 3 rfl rfl rfl)∘Vf 29 2∘Vy 30 (v := vQ yz.floor) (h:=by exact Yl.qr rfl rfl kr (fun _ h => h.qdm 8 (j := 2) rfl om hy (hyz) rfl))∘Vn 32∘Vf 33 0∘Vf 34 0∘Vf 35 1∘Vc 36 O2) fun a Z I HS => ?_)
  refine ze [12, 41] kr rfl ?_
  refine all_cons ?_ ?_
  ·refine q3 Z (i := 12) rfl rfl ?_
   refine e_is Z I [vQ t.v, vW t.r, vI wt] (.agg #[vQ t.v, vW t.r, vW wt]) rfl rfl (q4 t.v t.r (wt : Int) om _) fun w62 hbw I a Z => ?_
   refine keepS (I.pt 8 [0, 1, 2, 3, 4, 5, 6, 7]) (fun HS => ?_)
   refine ze [37, 41] kr rfl ?_
   refine all_cons ?_ ?_
   ·refine q3 Z (i := 37) rfl rfl ?_
    refine e_is Z I [.agg #[vQ t.v, vW t.r, vW wt], vQ yz.floor, vQ cr] (.tuple #[.agg e.cells, vI 0]) rfl rfl (qee (⟨t.v, t.r, wt⟩ : En) e hEo yz.floor cr hyf hcr hew _) fun w87 hbw I a Z => ?_
    refine keepS (I.pt 8 [0, 1, 2, 3, 4, 5, 6, 7]) (fun HS => ?_)
    refine Vb Z I HS ((Vp [38]∘Vx 39∘Vx 40∘VA 41 .n #[vQ 0, vW 0, vW 0]) fun w9 g9 => fun a Z I HS => ?_)
    refine s_on Z 42 rfl (e_sa Z I 0 rfl rfl rfl rfl rfl qk rfl rfl (zu e) ?_)
    clear I; intro w10_42 I
    refine noS kr ?_
    refine ap Z (pastS kr) [43] (bt 44 []) [] fun a Z => ?_
    refine qc kr ?_
    replace Z := Z.to [(9, vP g9 0), (8, .slice A48 em.length c48), (7, vP gtA (k * 8)), (22, .bool false), (19, .bool false), (6, vI (fidx ts o.task)), (14, .bool false), (5, vI 0), (4, vI 0), (3, vP g3 0), (0, vP gm 0)]
    exact ⟨g9, Z.sub kr, I.pt 9 [0, 1, 2, 3, 4, 5, 6, 7, 8]⟩
   refine all_cons ?_ all_nil
   refine q3 Z (i := 41) rfl rfl ?_
   refine s_ea Z I #[vQ 0, vW 0, vW 0] ?_
   clear Z I; intro a w9 g9 Z I
   refine keepS (I.pt 9 [1, 2, 3, 4, 5, 6, 7, 8]) (fun HS => ?_)
   refine Vb Z I HS ((VI 37 (.f .n) (h:=by exact fun I => qee (⟨t.v, t.r, wt⟩ : En) e hEo yz.floor cr hyf hcr hew _)) fun w87 hbw => (Vp [38]∘Vx 39∘Vx 40) fun a Z I HS => ?_)
   refine s_on Z 42 rfl (e_sa Z I 0 rfl rfl rfl rfl rfl qk rfl rfl (zu e) ?_)
   clear I; intro w10_42 I
   refine noS kr ?_
   refine ap Z (pastS kr) [43] (bt 44 []) [] fun a Z => ?_
   refine qc kr ?_
   replace Z := Z.to [(9, vP g9 0), (8, .slice A48 em.length c48), (7, vP gtA (k * 8)), (22, .bool false), (19, .bool false), (6, vI (fidx ts o.task)), (14, .bool false), (5, vI 0), (4, vI 0), (3, vP g3 0), (0, vP gm 0)]
   exact ⟨g9, Z.sub kr, I.pt 9 [0, 1, 2, 3, 4, 5, 6, 7, 8]⟩
  refine all_cons ?_ all_nil
  refine q3 Z (i := 41) rfl rfl ?_
  refine s_ea Z I #[vQ 0, vW 0, vW 0] ?_
  clear Z I; intro a w9 g9 Z I
  refine keepS (I.pt 9 [1, 2, 3, 4, 5, 6, 7, 8]) (fun HS => ?_)
  refine Vb Z I HS ((VI 12 (.f .n) (h:=by exact fun I => q4 t.v t.r (wt : Int) om _)) fun w62 hbw => (VI 37 (.f .n) (h:=by exact fun I => qee (⟨t.v, t.r, wt⟩ : En) e hEo yz.floor cr hyf hcr hew _)) fun w87 hbw => (Vp [38]∘Vx 39∘Vx 40) fun a Z I HS => ?_)
  refine s_on Z 42 rfl (e_sa Z I 0 rfl rfl rfl rfl rfl qk rfl rfl (zu e) ?_)
  clear I; intro w10_42 I
  refine noS kr ?_
  refine ap Z (pastS kr) [43] (bt 44 []) [] fun a Z => ?_
  refine qc kr ?_
  replace Z := Z.to [(9, vP g9 0), (8, .slice A48 em.length c48), (7, vP gtA (k * 8)), (22, .bool false), (19, .bool false), (6, vI (fidx ts o.task)), (14, .bool false), (5, vI 0), (4, vI 0), (3, vP g3 0), (0, vP gm 0)]
  exact ⟨g9, Z.sub kr, I.pt 9 [0, 1, 2, 3, 4, 5, 6, 7, 8]⟩
 clear Z I; rintro a w10 ⟨g9, Z, I⟩
 refine Jb Z I ((JP∘Jp 1∘Jy (v := .agg e.cells) (h:=by exact Yl.loadS rfl rfl qk rfl (fun _ h => qb (h.blk (i := 0) rfl)))∘JO (h:=by exact fun I => qq7 t e O7' I ht hlt heo.1)) fun w92 => (Jt3∘Jr∘Jp 1∘Jn∘Jf 5) fun a Z I => ?_)
 refine fo Z 3 rfl rfl ?_
 refine qx Z I (i := 7) rfl rfl rfl rfl kr rfl rfl (by rw [qal tkL 8 qi, List.length_set]; omega) ?_
 clear I; intro w12_3 I
 replace I := I.asRow (i := 7) (ys := (ts.set k { t.put e with ready := true }).flatMap tkL) rfl ((qas tkL 8 qi (ts.set k (t.put e)) k (t.put e) { t.put e with ready := true } (qeo ht) 5 de _ rfl).trans (by rw [List.set_set]))
 refine Jb Z I ((Jt3∘Jr∘Jp 3∘Jn∘Jf 3∘Jy (v := vI (({ t.put e with ready := true } : Tk).cpu)) (h:=by exact Yl.qr rfl rfl kr (fun _ h => h.qw qi (i := 7) rfl (k := k) (off := 3) (x := ({ t.put e with ready := true } : Tk)) ((qeo ht)) rfl))∘Jo (vI ct) (by rw [← hct]; try rfl)∘JL (h:=by exact fun I => qlo 3 I rfl (j := 1) rfl de (qj5 (ts' := ts.set k { t.put e with ready := true }) hlns (by rw [List.length_set]; exact hlt)) (hemm) (hemn) hgs hrg hsp hcr hcp2 (by show ((ct : Nat) : Int) < cp; omega))) ?_)
 rintro I _ w102 ⟨rs2, rfl, hl2, hsp2, hst2, HM2⟩
 refine ⟨_, rfl, _, (show Mem W w102 (.blk g9 e.cells 168 :: .row (.slice A48 em.length c48) em.length (em.map I64v) 3 1 :: .blk g3 o.cells 98 :: fM gm cp cr gA ng gc lA nl lc uA nu uc (some ⟨gtA, 0, none⟩) nt tc (some ⟨gsA, 0, none⟩) ns sc :: fG gA ng gc gs :: fI lA nl lc cl :: fI uA nu uc cu :: fT (some ⟨gtA, 0, none⟩) nt tc (ts.set k { t.put e with ready := true }) :: fS (some ⟨gsA, 0, none⟩) ns sc rs2 :: (fR rs2 ++ (T))) from HM2), ?_⟩
 exact (Jt6∘Jr∘Jp 2∘Jj∘JZ∘Jz2) fun I => by exact qs (y := (⟨cp, cr, gA, gc, gs, lA, lc, cl, uA, uc, cu, some ⟨gtA, 0, none⟩, tc, (ts.set k { t.put e with ready := true }), some ⟨gsA, 0, none⟩, sc, rs2⟩ : Stm)) 3 I rfl (qq8 (qj5 hlns (by rw [List.length_set]; exact hlt)) hl2) ((qw3 (x := (⟨cp, cr, gA, gc, gs, lA, lc, cl, uA, uc, cu, some ⟨gtA, 0, none⟩, tc, ts, some ⟨gsA, 0, none⟩, sc, rs⟩ : Stm)) (decide_eq_true hd14) hk ht hnr hgt hct hwt (qcm (x := (⟨cp, cr, gA, gc, gs, lA, lc, cl, uA, uc, cu, some ⟨gtA, 0, none⟩, tc, ts, some ⟨gsA, 0, none⟩, sc, rs⟩ : Stm)) (by show gt < rs.length; omega) hy hyz) hew hem).trans (by rw [← hst2]))
theorem qt0 (W w : World) (x : Stm) (gm : Nat) (ng nl nu nt ns : Nat) (hx : MdOk x ng nl nu nt ns) (o : Op30) (ho : o.Ok) (T : List Fact) (I : Mem W w (mdA gm x ng nl nu nt ns ++ T)) :
    Calls Tryz.prog 67 #[vP gm 0, .agg o.cells] w (OpIs W gm T (pickS x.sta o)) := by
 obtain ⟨cp, cr, gA, gc, gs, lA, lc, cl, uA, uc, cu, tA, tc, ts, sA, sc, rs⟩ := x
 replace I : Mem W w (fM gm cp cr gA ng gc lA nl lc uA nu uc tA nt tc sA ns sc :: fG gA ng gc gs :: fI lA nl lc cl :: fI uA nu uc cu :: fT tA nt tc ts :: fS sA ns sc rs :: (fR rs ++ (T))) := I
 obtain ⟨hlg, hll, hlu, hlt, hls⟩ := hx.ln
 replace hlg : gs.length = ng := hlg; replace hll : cl.length = nl := hll; replace hlu : cu.length = nu := hlu; replace hlt : ts.length = nt := hlt; replace hls : rs.length = ns := hls
 have hlns := hx.ln
 have hsp : SpsOk gs cp rs := hx.spots
 have hrg : rs.length = gs.length := hx.sh.rs
 have hcr : cr < 18446744073709551616 := hx.ok.credit
 obtain ⟨hcp1, hcp2, _, hgs⟩ := z9 hx.sh.cfg
 replace hcp1 : 1 ≤ cp := hcp1; replace hcp2 : cp ≤ 64 := hcp2; replace hgs : gsOk gs = true := hgs
 have hgl1 := (qo hgs).1; have hgl2 := (qo hgs).2.1
 have hcll : (cl.length : Int) = cp := hx.sh.cl; have hcul : (cu.length : Int) = cp := hx.sh.cu
 have hfts : ts.length ≤ 1000000 := hx.few.t
 have hoc := ho.cpu; have hot := ho.task; have hog := ho.group; have how := ho.weight; have hoto := ho.to; have hotk := ho.ticks; have hom := ho.mask; have hok8 := ho.kind; unfold I64 at hoc hot hog how hoto hotk
 obtain ⟨guA, rfl⟩ := qm (I.own (i := 3) rfl) om
 refine (Jin2 I Tryz.func67 32) ?_
 refine (JP∘JE) fun w3 g3 => (Jp 2∘Jj∘JQ∘JP∘Jp 1∘Jg 1 O0∘JI (h:=by exact fun I => qj4 1 I rfl hx o.cpu)) fun w9 hbw => (Jp 1∘Jd3∘Jj) (Ju (fun hb10 => ?_) fun hb10 => ?_)
 ·
  intro a Z I
  have hd10 := of_decide_eq_false ((Bool.not_eq_true' _).mp hb10)
  exact Jb Z I ((JT∘JP∘Jp 2∘Jj∘JZ∘Jz2) fun I => by exact qs (y := (⟨cp, cr, gA, gc, gs, lA, lc, cl, some ⟨guA, 0, none⟩, uc, cu, tA, tc, ts, sA, sc, rs⟩ : Stm)) 1 I rfl hlns (if_pos (decide_eq_false hd10)))
 intro a Z I
 have hd10 := of_decide_eq_true ((Bool.not_eq_false' _).mp hb10)
 replace hd10 : 0 ≤ o.cpu ∧ o.cpu < cp := hd10
 obtain ⟨c, hcc⟩ : ∃ n : Nat, o.cpu = (n : Int) := ⟨o.cpu.toNat, by omega⟩
 have hccp : ((c : Nat) : Int) < cp := by omega
 refine Jb Z I ((JF∘JS') fun a Z I => ?_)
 refine wp_seq ?_
 refine Jb Z I ((Vs .n [12]) fun wd3 => (Vp [0]∘Vf 5 1∘Vp [7]∘Vf 8 1∘Vn 1∘Vf 2 0∘Vf 3 4∘Vc 4 O1∘Vc 6 O0∘Vo (vI c) (by rw [hcc])∘Vc 9 O0∘Vo (vI c) (by rw [hcc])∘VI 10 .n (h:=by exact fun I => q1j 1 I rfl hx (by show ((c : Nat) : Int) < cp; omega))) fun w21 hbw => (Vy 11 (h:=by exact Yl.ix0 guA c 1 rfl rfl rfl)) fun a Z I HS => ?_)
 refine s_on Z 12 rfl ?_
 refine qx Z I (i := 4) rfl rfl rfl rfl kr rfl rfl (by rw [List.length_map]; omega) ?_
 clear I; intro w3_12 I
 replace I := I.asRow (i := 4) (ys := (cu.set c (qag (⟨cp, cr, gA, gc, gs, lA, lc, cl, some ⟨guA, 0, none⟩, uc, cu, tA, tc, ts, sA, sc, rs⟩ : Stm).sta c : Int)).map I64i) rfl (zt I64i cu c (qag (⟨cp, cr, gA, gc, gs, lA, lc, cl, some ⟨guA, 0, none⟩, uc, cu, tA, tc, ts, sA, sc, rs⟩ : Stm).sta c : Int) om)
 refine noS kr ?_
 refine qc kr ?_
 refine wp_seq ?_
 exact Jb Z I ((Vs .n []) fun wd4 => (Vp [0]∘Vf 5 1∘Vn 1∘Vf 2 0∘Vf 3 4∘Vc 4 O1∘Vc 6 O0∘Vo (vI c) (by rw [hcc])∘Vy 7 (h:=by exact Yl.ix0 guA c 1 rfl rfl rfl)∘Vy 8 (v := vI (qag (⟨cp, cr, gA, gc, gs, lA, lc, cl, some ⟨guA, 0, none⟩, uc, cu, tA, tc, ts, sA, sc, rs⟩ : Stm).sta c)) (h:=by exact Yl.qr rfl rfl kr (fun _ h => h.q35 (i := 4) rfl (k := c) (qmn (F := I64i) (k := c) (x := (qag (⟨cp, cr, gA, gc, gs, lA, lc, cl, some ⟨guA, 0, none⟩, uc, cu, tA, tc, ts, sA, sc, rs⟩ : Stm).sta c : Int)) ((List.getElem?_set_self om)))))∘Vp [9, 10]∘Vd∘JZ∘Jz2) fun I => by exact qs (y := (⟨cp, cr, gA, gc, gs, lA, lc, cl, some ⟨guA, 0, none⟩, uc, (cu.set c (qag (⟨cp, cr, gA, gc, gs, lA, lc, cl, some ⟨guA, 0, none⟩, uc, cu, tA, tc, ts, sA, sc, rs⟩ : Stm).sta c : Int)), tA, tc, ts, sA, sc, rs⟩ : Stm)) 1 I rfl ⟨hlns.g, hlns.l, by show (cu.set _ _).length = nu; rw [List.length_set]; exact hlu, hlns.t, hlns.s⟩ (q01 (x := (⟨cp, cr, gA, gc, gs, lA, lc, cl, some ⟨guA, 0, none⟩, uc, cu, tA, tc, ts, sA, sc, rs⟩ : Stm)) hcc (decide_eq_true hd10)))
theorem qgn (x e : En) (hx : x.Ok) (d : Nat) (hd : d ≤ 4294967295) (he : x.add d = e) (w : World) : Calls Tryz.prog 114 #[.agg x.cells, vI d] w (Is w (.tuple #[.agg e.cells, vI 0])) := he ▸ q00 x hx d hd w
theorem qrd {W w : World} {F T : List Fact} {x : Stm} {ng nl nu nt ns gm : Nat} (n : Nat) (I : Mem W w F) (he : F.drop n = mdA gm x ng nl nu nt ns ++ T) (hx : MdOk x ng nl nu nt ns) (id : Int) (k : Nat) (hk : fidx x.ts id = (k : Int)) : Calls Tryz.prog 83 #[vP gm 0, vI id] w (Is w (vI k)) := hk ▸ qft n I he hx id
theorem q1m {x : Stm} {ng nl nu nt ns c : Nat} (h : MdOk x ng nl nu nt ns) (v : Int) (hv : 0 ≤ v ∧ v ≤ 281474976710656) : MdOk ({ x with cl := x.cl.set c v } : Stm) ng nl nu nt ns := by
 refine ⟨⟨h.ok.cpus, h.ok.credit, h.ok.gs, fun z hz => ?_, h.ok.cu, h.ok.ts, h.ok.sp⟩, ⟨h.few.g, by show (x.cl.set c v).length ≤ _; rw [List.length_set]; exact h.few.l, h.few.u, h.few.t, h.few.s, h.few.r⟩, ⟨h.sh.cfg, by show ((x.cl.set c v).length : Int) = _; rw [List.length_set]; exact h.sh.cl, h.sh.cu, h.sh.rs, fun d hd => ?_, h.sh.row, h.sh.tk⟩, ⟨h.ln.g, by show (x.cl.set c v).length = _; rw [List.length_set]; exact h.ln.l, h.ln.u, h.ln.t, h.ln.s⟩⟩
 ·rcases List.mem_or_eq_of_mem_set hz with h1 | rfl
  ·exact h.ok.cl z h1
  ·unfold I64; omega
 ·have hd' : d < (x.cl.set c v).length := hd
  show clOk ((x.cl.set c v).getD d 0) = true
  rw [List.length_set] at hd'
  by_cases e : c = d
  ·subst e
   rw [qj _ _ hd']
   unfold clOk
   rw [decide_eq_true hv]
  ·rw [getD_set_ne _ _ e]
   exact h.sh.cls d hd'
theorem qnp {x : Stm} {c : Nat} (h : curOk x.sta c = true) (h0 : x.cu.getD c 0 ≠ 0) : ∃ (k : Nat) (t : Tk), fidx x.ts (x.cu.getD c 0) = (k : Int) ∧ x.ts[k]? = some t ∧ k < x.ts.length ∧ t.id = x.cu.getD c 0 := by
 refine qip fun hf => ?_
 rw [qjv h0 (qwq hf)] at h
 cases h
theorem qt1 (W w : World) (x : Stm) (gm : Nat) (ng nl nu nt ns : Nat) (hx : MdOk x ng nl nu nt ns) (o : Op30) (ho : o.Ok) (T : List Fact) (I : Mem W w (mdA gm x ng nl nu nt ns ++ T)) (hcur : ∀ c, c < x.cu.length → curOk x.sta c = true) :
    Calls Tryz.prog 66 #[vP gm 0, .agg o.cells] w (OpIs W gm T (tickS x.sta o)) := by
 obtain ⟨cp, cr, gA, gc, gs, lA, lc, cl, uA, uc, cu, tA, tc, ts, sA, sc, rs⟩ := x
 replace I : Mem W w (fM gm cp cr gA ng gc lA nl lc uA nu uc tA nt tc sA ns sc :: fG gA ng gc gs :: fI lA nl lc cl :: fI uA nu uc cu :: fT tA nt tc ts :: fS sA ns sc rs :: (fR rs ++ (T))) := I
 obtain ⟨hlg, hll, hlu, hlt, hls⟩ := hx.ln
 replace hlg : gs.length = ng := hlg; replace hll : cl.length = nl := hll; replace hlu : cu.length = nu := hlu; replace hlt : ts.length = nt := hlt; replace hls : rs.length = ns := hls
 have hlns := hx.ln
 have hsp : SpsOk gs cp rs := hx.spots
 have hrg : rs.length = gs.length := hx.sh.rs
 have hcr : cr < 18446744073709551616 := hx.ok.credit
 obtain ⟨hcp1, hcp2, _, hgs⟩ := z9 hx.sh.cfg
 replace hcp1 : 1 ≤ cp := hcp1; replace hcp2 : cp ≤ 64 := hcp2; replace hgs : gsOk gs = true := hgs
 have hgl1 := (qo hgs).1; have hgl2 := (qo hgs).2.1
 have hcll : (cl.length : Int) = cp := hx.sh.cl; have hcul : (cu.length : Int) = cp := hx.sh.cu
 have hfts : ts.length ≤ 1000000 := hx.few.t
 have hoc := ho.cpu; have hot := ho.task; have hog := ho.group; have how := ho.weight; have hoto := ho.to; have hotk := ho.ticks; have hom := ho.mask; have hok8 := ho.kind; unfold I64 at hoc hot hog how hoto hotk
 have hcuo := hx.ok.cu; have hclo := hx.ok.cl
 have hcls := hx.sh.cls
 obtain ⟨ggA, rfl⟩ := qm (I.own (i := 1) rfl) om
 obtain ⟨glA, rfl⟩ := qm (I.own (i := 2) rfl) om
 obtain ⟨guA, rfl⟩ := qm (I.own (i := 3) rfl) om
 obtain ⟨gsA, rfl⟩ := qm (I.own (i := 5) rfl) om
 refine (Jin2 I Tryz.func66 158) ?_
 refine (JP∘JE) fun w3 g3 => (Jp 2∘Jr∘Jp 1∘Jn∘Jf 0∘Jp 1∘Jd3∘Jj∘JQ∘JB∘JP∘Jp 1∘Jg 1 O0∘JI (h:=by exact fun I => qj4 1 I rfl hx o.cpu)) fun w22 hbw => (Jp 2∘Jd4∘Jj) (Ju (fun hb18 => ?_) fun hb18 => ?_)
 ·
  intro a Z I
  have hd18 := of_decide_eq_false ((Bool.not_eq_true' _).mp hb18)
  exact Jb Z I ((JT∘JP∘Jp 2∘Jj∘JZ∘Jz2) fun I => by exact qs (y := (⟨cp, cr, some ⟨ggA, 0, none⟩, gc, gs, some ⟨glA, 0, none⟩, lc, cl, some ⟨guA, 0, none⟩, uc, cu, tA, tc, ts, some ⟨gsA, 0, none⟩, sc, rs⟩ : Stm)) 1 I rfl hlns (if_pos (decide_eq_false hd18)))
 intro a Z I
 have hd18 := of_decide_eq_true ((Bool.not_eq_false' _).mp hb18)
 replace hd18 : 0 ≤ o.cpu ∧ o.cpu < cp := hd18
 obtain ⟨c, hcc⟩ : ∃ n : Nat, o.cpu = (n : Int) := ⟨o.cpu.toNat, by omega⟩
 have hccp : ((c : Nat) : Int) < cp := by omega
 have hclb := hcls c (by show c < cl.length; omega); replace hclb : 0 ≤ (cl.getD c 0) ∧ (cl.getD c 0) ≤ 281474976710656 := by unfold clOk at hclb; simpa using hclb
 obtain ⟨v, hv⟩ : ∃ z, (cl.getD c 0) = z := ⟨_, rfl⟩
 rw [hv] at hclb
 refine Jb Z I ((JF∘JP∘Jg 6 O0∘Jp 2) (Ji (fun hd28 => ?_) fun hd28 => ?_))
 ·
  exact (Jp 5∘Jd6∘Jj∘JT∘JP∘Jp 2∘Jj∘JZ∘Jz2) fun I => by exact qs (y := (⟨cp, cr, some ⟨ggA, 0, none⟩, gc, gs, some ⟨glA, 0, none⟩, lc, cl, some ⟨guA, 0, none⟩, uc, cu, tA, tc, ts, some ⟨gsA, 0, none⟩, sc, rs⟩ : Stm)) 1 I rfl hlns ((if_neg (nf (decide_eq_true hd18))).trans (if_pos om))
 refine (Jg 6 O0∘Jp 3∘Jd6∘Jj) (Ju (fun hb24 => ?_) fun hb24 => ?_)
 ·
  intro a Z I
  have hd24 := of_decide_eq_true hb24
  exact Jb Z I ((JT∘JP∘Jp 2∘Jj∘JZ∘Jz2) fun I => by exact qs (y := (⟨cp, cr, some ⟨ggA, 0, none⟩, gc, gs, some ⟨glA, 0, none⟩, lc, cl, some ⟨guA, 0, none⟩, uc, cu, tA, tc, ts, some ⟨gsA, 0, none⟩, sc, rs⟩ : Stm)) 1 I rfl hlns ((if_neg (nf (decide_eq_true hd18))).trans (if_pos om)))
 intro a Z I
 have hd24 := of_decide_eq_false hb24
 have htk : 1 ≤ o.ticks ∧ o.ticks ≤ 4294967295 := by omega
 obtain ⟨d, hod⟩ : ∃ n : Nat, o.ticks = (n : Int) := ⟨o.ticks.toNat, by omega⟩
 have hd0 : d ≤ 4294967295 := by omega
 refine Jb Z I ((JF) fun a Z I => ?_)
 refine wp_seq ?_
 refine Jb Z I ((Vs .n []) fun wd6 => (Vp [0]∘Vf 4 1∘Vf 8 6∘Vn 1∘Vf 2 3∘Vc 3 O1∘Vc 5 O0∘Vo (vI c) (by rw [hcc])∘Vy 6 (h:=by exact Yl.ix0 glA c 1 rfl rfl rfl)∘Vy 7 (v := vI (cl.getD c 0)) (h:=by exact Yl.r1 3 c 0 om rfl rfl rfl)∘Vo (vI v) (by rw [hv])∘Vc 9 O0∘Vo (vI d) (by rw [hod])∘Vp [10]∘Vo (vI (v + d)) (by exact qdq ⟨by omega, by omega⟩)∘Vp [11, 12]∘Vd∘Jd6) (Ju (fun hb33 => ?_) fun hb33 => ?_))
 ·
  intro a Z I
  have hd33 := of_decide_eq_true hb33
  exact Jb Z I ((JT∘JP∘Jp 2∘Jj∘JZ∘Jz2) fun I => by exact qs (y := (⟨cp, cr, some ⟨ggA, 0, none⟩, gc, gs, some ⟨glA, 0, none⟩, lc, cl, some ⟨guA, 0, none⟩, uc, cu, tA, tc, ts, some ⟨gsA, 0, none⟩, sc, rs⟩ : Stm)) 1 I rfl hlns ((if_neg (nf (decide_eq_true hd18))).trans ((if_neg om).trans (if_pos (by show 281474976710656 < cl.getD o.cpu.toNat 0 + o.ticks; rw [hcc, Int.toNat_natCast, hv]; omega)))))
 intro a Z I
 have hd33 := of_decide_eq_false hb33
 obtain ⟨id, hid⟩ : ∃ z, cu.getD c 0 = z := ⟨_, rfl⟩
 have hxk := q1m (x := (⟨cp, cr, some ⟨ggA, 0, none⟩, gc, gs, some ⟨glA, 0, none⟩, lc, cl, some ⟨guA, 0, none⟩, uc, cu, tA, tc, ts, some ⟨gsA, 0, none⟩, sc, rs⟩ : Stm)) (c := c) hx (v + d) ⟨by omega, by omega⟩
 have hidI : I64 id := by rw [← hid]; exact hcuo _ (qg 0 (by show c < cu.length; omega))
 unfold I64 at hidI
 refine Jb Z I ((JF∘JS') fun a Z I => ?_)
 refine wp_seq ?_
 refine Jb Z I ((Vs .n [12]) fun wd8 => (Vp [0]∘Vf 4 1∘Vf 8 6∘Vn 1∘Vf 2 3∘Vc 3 O1∘Vc 5 O0∘Vo (vI c) (by rw [hcc])∘Vy 6 (h:=by exact Yl.ix0 glA c 1 rfl rfl rfl)∘Vy 7 (v := vI (cl.getD c 0)) (h:=by exact Yl.r1 3 c 0 om rfl rfl rfl)∘Vo (vI v) (by rw [hv])∘Vc 9 O0∘Vo (vI d) (by rw [hod])∘Vp [10]∘Vo (vI (v + d)) (by exact qdq ⟨by omega, by omega⟩)∘Vy 11 (h:=by exact Yl.ix0 glA c 1 rfl rfl rfl)) fun a Z I HS => ?_)
 refine s_on Z 12 rfl ?_
 refine qx Z I (i := 3) rfl rfl rfl rfl kr rfl rfl (by rw [List.length_map]; omega) ?_
 clear I; intro w8_12 I
 replace I := I.asRow (i := 3) (ys := (cl.set c (v + d)).map I64i) rfl (zt I64i cl c (v + d) om)
 refine noS kr ?_
 refine qc kr ?_
 refine wp_seq ?_
 refine Jb Z I ((Vs .n []) fun wd9 => (Vp [0]∘Vf 4 1∘Vn 1∘Vf 2 4∘Vc 3 O1∘Vc 5 O0∘Vo (vI c) (by rw [hcc])∘Vy 6 (h:=by exact Yl.ix0 guA c 1 rfl rfl rfl)∘Vy 7 (v := vI (cu.getD c 0)) (h:=by exact Yl.r1 4 c 0 om rfl rfl rfl)∘Vo (vI id) (by rw [hid])∘Vp [8]∘Vd∘Jd6∘JQ∘JP∘Jp 2∘Jd1∘Jj) (Ju (fun hb67 => ?_) fun hb67 => ?_))
 ·
  intro a Z I
  have hd67 := eq_of_beq hb67
  exact Jb Z I ((JT∘JP∘Jp 2∘Jj∘JZ∘Jz2) fun I => by exact qs (y := (⟨cp, cr, some ⟨ggA, 0, none⟩, gc, gs, some ⟨glA, 0, none⟩, lc, (cl.set c (v + d)), some ⟨guA, 0, none⟩, uc, cu, tA, tc, ts, some ⟨gsA, 0, none⟩, sc, rs⟩ : Stm)) 1 I rfl ⟨hlns.g, by show (cl.set _ _).length = nl; rw [List.length_set]; exact hll, hlns.u, hlns.t, hlns.s⟩ ((qw4 (x := (⟨cp, cr, some ⟨ggA, 0, none⟩, gc, gs, some ⟨glA, 0, none⟩, lc, cl, some ⟨guA, 0, none⟩, uc, cu, tA, tc, ts, some ⟨gsA, 0, none⟩, sc, rs⟩ : Stm)) (decide_eq_true hd18) htk hcc hv om (hid.trans om)).trans (by rw [hod])))
 intro a Z I
 have hd67 := ne_of_beq_false hb67
 have hid0 : id ≠ 0 := by omega
 have hcuk := qnp (x := (⟨cp, cr, some ⟨ggA, 0, none⟩, gc, gs, some ⟨glA, 0, none⟩, lc, cl, some ⟨guA, 0, none⟩, uc, cu, tA, tc, ts, some ⟨gsA, 0, none⟩, sc, rs⟩ : Stm)) (hcur c (by show c < cu.length; omega)) (by show cu.getD c 0 ≠ 0; rw [hid]; exact hid0)
 rw [show (⟨cp, cr, some ⟨ggA, 0, none⟩, gc, gs, some ⟨glA, 0, none⟩, lc, cl, some ⟨guA, 0, none⟩, uc, cu, tA, tc, ts, some ⟨gsA, 0, none⟩, sc, rs⟩ : Stm).cu.getD c 0 = id from hid] at hcuk
 obtain ⟨k, t, hk, ht, hkl, hkid⟩ := hcuk
 replace hk : fidx ts id = (k : Int) := hk; replace ht : ts[k]? = some t := ht; replace hkl : k < ts.length := hkl
 obtain ⟨htg, hto⟩ := hx.task ht
 have hti := htg.id; have htgr := htg.group; have htc := htg.cpu; have htw := htg.weight; have htv := hto.v; have htr := hto.r; have htm := hto.mask
 replace htc : 0 ≤ t.cpu ∧ t.cpu < cp := htc
 obtain ⟨gt, hgt⟩ : ∃ n : Nat, t.group = (n : Int) := ⟨t.group.toNat, by omega⟩
 obtain ⟨ct, hct⟩ : ∃ n : Nat, t.cpu = (n : Int) := ⟨t.cpu.toNat, by omega⟩
 obtain ⟨wt, hwt⟩ : ∃ n : Nat, t.weight = (n : Int) := ⟨t.weight.toNat, by omega⟩
 have hEo : (⟨t.v, t.r, wt⟩ : En).Ok := En.qjm htg.ent hwt htv
 obtain ⟨e, hew⟩ : ∃ e, (⟨t.v, t.r, wt⟩ : En).add d = e := ⟨_, rfl⟩
 have heo : e.Ok ∧ e.w = wt := by rw [← hew]; exact En.qsw hEo d
 revert I; revert a; repeat (first | clear Z | clear I)
 intro a Z I
 obtain ⟨gtA, rfl⟩ := qm (I.own (i := 5) rfl) (Nat.lt_of_le_of_lt (Nat.zero_le _) (show k < nt from (by omega : k < nt)))
 refine Jb Z I ((JF∘JS') fun a Z I => ?_)
 refine wp_seq ?_
 refine Jb Z I ((Vs .n []) fun wd12 => (Vp [0, 4, 5]∘Vn 1∘Vf 2 5∘Vc 3 O1∘VI 6 .n (h:=by exact fun I => qrd 1 I rfl hxk id k hk)) fun w74 hbw => (Vy 7 (h:=by exact Yl.ix0 gtA k 8 rfl rfl rfl)∘Vp [8]∘Vd∘Jd6) fun a Z I => ?_)
 refine zp (fun aS wS => ∃ (g9 : Nat), Fr aS 158 [] [(9, vP g9 0), (8, vP gtA (k * 8)), (67, .bool false), (7, vI id), (33, .bool false), (24, .bool false), (18, .bool false), (6, vP gm 0), (5, vI 0), (4, vI 0), (3, vP g3 0), (0, vP gm 0)] ∧ Mem W wS (.blk g9 e.cells 168 :: .blk g3 o.cells 98 :: fM gm cp cr (some ⟨ggA, 0, none⟩) ng gc (some ⟨glA, 0, none⟩) nl lc (some ⟨guA, 0, none⟩) nu uc (some ⟨gtA, 0, none⟩) nt tc (some ⟨gsA, 0, none⟩) ns sc :: fG (some ⟨ggA, 0, none⟩) ng gc gs :: fI (some ⟨glA, 0, none⟩) nl lc (cl.set c (v + d)) :: fI (some ⟨guA, 0, none⟩) nu uc cu :: fT (some ⟨gtA, 0, none⟩) nt tc ts :: fS (some ⟨gsA, 0, none⟩) ns sc rs :: (fR rs ++ (T)))) ?_ ?_
 ·
  refine Jb Z I ((Vs .n [20]) fun wd13 => (Vp [0, 4, 8]∘Vf 13 6∘Vn 1∘Vf 2 6∘Vy 3 (v := vQ t.v) (h:=by exact Yl.qr rfl rfl kr (fun _ h => h.qw qi (i := 5) rfl (k := k) (off := 6) (x := t) (ht) rfl))∘Vn 5∘Vf 6 7∘Vy 7 (v := vW t.r) (h:=by exact Yl.qr rfl rfl kr (fun _ h => h.qw qi (i := 5) rfl (k := k) (off := 7) (x := t) (ht) rfl))∘Vn 9∘Vf 10 2∘Vy 11 (v := vI t.weight) (h:=by exact Yl.qr rfl rfl kr (fun _ h => h.qw qi (i := 5) rfl (k := k) (off := 2) (x := t) (ht) rfl))∘Vo (vI wt) (by rw [hwt])∘Vc 14 O0∘Vo (vI d) (by rw [hod])) fun a Z I HS => ?_)
  refine ze [12, 19] kr rfl ?_
  refine all_cons ?_ ?_
  ·refine q3 Z (i := 12) rfl rfl ?_
   refine e_is Z I [vQ t.v, vW t.r, vI wt] (.agg #[vQ t.v, vW t.r, vW wt]) rfl rfl (q4 t.v t.r (wt : Int) om _) fun w89 hbw I a Z => ?_
   refine keepS (I.pt 7 [0, 1, 2, 3, 4, 5, 6]) (fun HS => ?_)
   refine ze [15, 19] kr rfl ?_
   refine all_cons ?_ ?_
   ·refine q3 Z (i := 15) rfl rfl ?_
    refine e_is Z I [.agg #[vQ t.v, vW t.r, vW wt], vI d] (.tuple #[.agg e.cells, vI 0]) rfl rfl (qgn (⟨t.v, t.r, wt⟩ : En) e hEo d hd0 hew _) fun w92 hbw I a Z => ?_
    refine keepS (I.pt 7 [0, 1, 2, 3, 4, 5, 6]) (fun HS => ?_)
    refine Vb Z I HS ((Vp [16]∘Vx 17∘Vx 18∘VA 19 .n #[vQ 0, vW 0, vW 0]) fun w9 g9 => fun a Z I HS => ?_)
    refine s_on Z 20 rfl (e_sa Z I 0 rfl rfl rfl rfl rfl qk rfl rfl (zu e) ?_)
    clear I; intro w13_20 I
    refine noS kr ?_
    refine ap Z (pastS kr) [21] (bt 22 []) [] fun a Z => ?_
    refine qc kr ?_
    replace Z := Z.to [(9, vP g9 0), (8, vP gtA (k * 8)), (67, .bool false), (7, vI id), (33, .bool false), (24, .bool false), (18, .bool false), (6, vP gm 0), (5, vI 0), (4, vI 0), (3, vP g3 0), (0, vP gm 0)]
    exact ⟨g9, Z.sub kr, I.pt 8 [0, 1, 2, 3, 4, 5, 6, 7]⟩
   refine all_cons ?_ all_nil
   refine q3 Z (i := 19) rfl rfl ?_
   refine s_ea Z I #[vQ 0, vW 0, vW 0] ?_
   clear Z I; intro a w9 g9 Z I
   refine keepS (I.pt 8 [1, 2, 3, 4, 5, 6, 7]) (fun HS => ?_)
   refine Vb Z I HS ((VI 15 (.f .n) (h:=by exact fun I => qgn (⟨t.v, t.r, wt⟩ : En) e hEo d hd0 hew _)) fun w92 hbw => (Vp [16]∘Vx 17∘Vx 18) fun a Z I HS => ?_)
   refine s_on Z 20 rfl (e_sa Z I 0 rfl rfl rfl rfl rfl qk rfl rfl (zu e) ?_)
   clear I; intro w13_20 I
   refine noS kr ?_
   refine ap Z (pastS kr) [21] (bt 22 []) [] fun a Z => ?_
   refine qc kr ?_
   replace Z := Z.to [(9, vP g9 0), (8, vP gtA (k * 8)), (67, .bool false), (7, vI id), (33, .bool false), (24, .bool false), (18, .bool false), (6, vP gm 0), (5, vI 0), (4, vI 0), (3, vP g3 0), (0, vP gm 0)]
   exact ⟨g9, Z.sub kr, I.pt 8 [0, 1, 2, 3, 4, 5, 6, 7]⟩
  refine all_cons ?_ all_nil
  refine q3 Z (i := 19) rfl rfl ?_
  refine s_ea Z I #[vQ 0, vW 0, vW 0] ?_
  clear Z I; intro a w9 g9 Z I
  refine keepS (I.pt 8 [1, 2, 3, 4, 5, 6, 7]) (fun HS => ?_)
  refine Vb Z I HS ((VI 12 (.f .n) (h:=by exact fun I => q4 t.v t.r (wt : Int) om _)) fun w89 hbw => (VI 15 (.f .n) (h:=by exact fun I => qgn (⟨t.v, t.r, wt⟩ : En) e hEo d hd0 hew _)) fun w92 hbw => (Vp [16]∘Vx 17∘Vx 18) fun a Z I HS => ?_)
  refine s_on Z 20 rfl (e_sa Z I 0 rfl rfl rfl rfl rfl qk rfl rfl (zu e) ?_)
  clear I; intro w13_20 I
  refine noS kr ?_
  refine ap Z (pastS kr) [21] (bt 22 []) [] fun a Z => ?_
  refine qc kr ?_
  replace Z := Z.to [(9, vP g9 0), (8, vP gtA (k * 8)), (67, .bool false), (7, vI id), (33, .bool false), (24, .bool false), (18, .bool false), (6, vP gm 0), (5, vI 0), (4, vI 0), (3, vP g3 0), (0, vP gm 0)]
  exact ⟨g9, Z.sub kr, I.pt 8 [0, 1, 2, 3, 4, 5, 6, 7]⟩
 clear Z I; rintro a w13 ⟨g9, Z, I⟩
 refine Jb Z I ((JP∘Jp 1∘Jy (v := .agg e.cells) (h:=by exact Yl.loadS rfl rfl qk rfl (fun _ h => qb (h.blk (i := 0) rfl)))∘JO (h:=by exact fun I => qq7 t e O6' I ht hlt heo.1)) fun w97 => (Jt3∘Jj∘JQ∘JP∘Jp 1∘Jn∘Jf 1∘Jy (v := vI ((t.put e).group)) (h:=by exact Yl.qr rfl rfl kr (fun _ h => h.qw qi (i := 6) rfl (k := k) (off := 1) (x := (t.put e)) ((qeo ht)) rfl))∘Jo (vI gt) (by rw [← hgt]; try rfl)∘Jp 1∘Jd4∘Jj∘JB) fun a Z I => ?_)
 refine qe (fun mS aS wS => ∃ (g : Nat) (rs2 : List Rw), (g < ns) ∧ (rs2.length = ns) ∧ (SpsOk gs cp rs2) ∧ (qgk c d g (⟨cp, cr, some ⟨ggA, 0, none⟩, gc, gs, some ⟨glA, 0, none⟩, lc, cl.set c (v + d), some ⟨guA, 0, none⟩, uc, cu, some ⟨gtA, 0, none⟩, tc, ts.set k (t.put e), some ⟨gsA, 0, none⟩, sc, rs2⟩ : Stm).sta = qgk c d gt (⟨cp, cr, some ⟨ggA, 0, none⟩, gc, gs, some ⟨glA, 0, none⟩, lc, cl.set c (v + d), some ⟨guA, 0, none⟩, uc, cu, some ⟨gtA, 0, none⟩, tc, ts.set k (t.put e), some ⟨gsA, 0, none⟩, sc, rs⟩ : Stm).sta) ∧ mS = 0 + g ∧ Fr aS 158 [] [(11, vI g), (9, vP g9 0), (8, vP gtA (k * 8)), (67, .bool false), (7, vI id), (33, .bool false), (24, .bool false), (18, .bool false), (6, vP gm 0), (5, vI 0), (4, vI 0), (3, vP g3 0), (0, vP gm 0)] ∧ Mem W wS (.blk g9 e.cells 168 :: .blk g3 o.cells 98 :: fM gm cp cr (some ⟨ggA, 0, none⟩) ng gc (some ⟨glA, 0, none⟩) nl lc (some ⟨guA, 0, none⟩) nu uc (some ⟨gtA, 0, none⟩) nt tc (some ⟨gsA, 0, none⟩) ns sc :: fG (some ⟨ggA, 0, none⟩) ng gc gs :: fI (some ⟨glA, 0, none⟩) nl lc (cl.set c (v + d)) :: fI (some ⟨guA, 0, none⟩) nu uc cu :: fT (some ⟨gtA, 0, none⟩) nt tc (ts.set k (t.put e)) :: fS (some ⟨gsA, 0, none⟩) ns sc rs2 :: (fR rs2 ++ (T)))) (m := 0 + gt) ⟨gt, rs, by omega, hls, hsp, rfl, rfl, Z.sub kr, I.pt 8 [0, 1, 2, 3, 4, 5, 6, 7]⟩ ?_
 clear Z I; rintro mS a w_ ⟨g, rs2, hg, hl2, hsp2, hst2, rfl, Z, I⟩
 refine Jb Z I ((JQ∘JP∘Jp 2∘Jd1∘Jj) (Ju (fun hb103 => ?_) fun hb103 => ?_))
 ·
  intro a Z I
  have hd103 := of_decide_eq_true hb103
  have hg0 : 0 < g := by omega
  obtain ⟨⟨yA, yc, yl⟩, hy⟩ : ∃ y, rs2.getD g Rw.zero = y := ⟨_, rfl⟩
  have hys := hsp2 g om; rw [hy] at hys
  have hyl : (yl.length : Int) = cp := hys.1
  revert I; revert a; repeat (first | clear Z | clear I)
  intro a Z I
  obtain ⟨gy, rfl⟩ := I.rwSome 8 rfl om hy om
  obtain ⟨yz, hyz⟩ : ∃ z, yl[c]? = some z := ⟨_, List.getElem?_eq_getElem om⟩
  have hyo := hys.2 yz (List.mem_of_getElem? hyz)
  have hyv := hyo.1.v; have hyr := hyo.1.r; have hyf := hyo.1.floor
  have hpb := qa1 hgs (g := g) om g hg0 (Nat.le_refl _)
  unfold ParB at hpb
  obtain ⟨p, hpp⟩ : ∃ p : Nat, (gs.getD g Gr.zero).parent = (p : Int) := ⟨(gs.getD g Gr.zero).parent.toNat, by omega⟩
  have hpg : p < g := by omega
  obtain ⟨zw, hzw, hzw1, hzw2⟩ := qcx hgs (g := g) om
  have hFo : (⟨yz.v, yz.r, zw⟩ : En).Ok := En.qjm hyo.2 hzw hyo.1.v
  obtain ⟨f, hfw⟩ : ∃ e, (⟨yz.v, yz.r, zw⟩ : En).add d = e := ⟨_, rfl⟩
  have hfo : f.Ok ∧ f.w = zw := by rw [← hfw]; exact En.qsw hFo d
  have hfv := hfo.1.2; have hfr : f.r < 4294967296 := by have := qg1 hfo.1.1; omega
  refine Jb Z I ((JT∘JS'∘JQ∘JB) fun a Z I => ?_)
  refine wp_seq ?_
  refine Jb Z I ((Vs .n []) fun wd18 => (Vp [0, 4]∘Vf 7 1∘Vn 1∘Vf 2 6∘Vc 3 O2∘Vy 5 (h:=by exact Yl.ix0 gsA g 1 rfl rfl rfl)∘Vy 6 (v := .slice ((rs2.getD g Rw.zero).A) ((rs2.getD g Rw.zero).l.length) ((rs2.getD g Rw.zero).c)) (h:=by exact Yl.r1 7 g Rw.zero om rfl rfl rfl)∘Vo (vS gy yl.length yc) (by rw [hy])∘Vc 8 O1∘Vo (vI c) (by rw [hcc])∘Vy 9 (h:=by exact Yl.ix0 gy c 3 rfl rfl rfl)∘Vp [10]∘Vd∘Jd6) fun a Z I => ?_)
  refine zp (fun aS wS => ∃ (g13 : Nat), Fr aS 158 [] [(13, vP g13 0), (12, vP gy (c * 3)), (103, .bool true), (11, vI g), (9, vP g9 0), (8, vP gtA (k * 8)), (67, .bool false), (7, vI id), (33, .bool false), (24, .bool false), (18, .bool false), (6, vP gm 0), (5, vI 0), (4, vI 0), (3, vP g3 0), (0, vP gm 0)] ∧ Mem W wS (.blk g13 f.cells 168 :: .blk g9 e.cells 168 :: .blk g3 o.cells 98 :: fM gm cp cr (some ⟨ggA, 0, none⟩) ng gc (some ⟨glA, 0, none⟩) nl lc (some ⟨guA, 0, none⟩) nu uc (some ⟨gtA, 0, none⟩) nt tc (some ⟨gsA, 0, none⟩) ns sc :: fG (some ⟨ggA, 0, none⟩) ng gc gs :: fI (some ⟨glA, 0, none⟩) nl lc (cl.set c (v + d)) :: fI (some ⟨guA, 0, none⟩) nu uc cu :: fT (some ⟨gtA, 0, none⟩) nt tc (ts.set k (t.put e)) :: fS (some ⟨gsA, 0, none⟩) ns sc rs2 :: (fR rs2 ++ (T)))) ?_ ?_
  ·
   refine Jb Z I ((Vs .n [25]) fun wd19 => (Vp [0, 4, 8, 13]∘Vf 18 6∘Vn 1∘Vf 2 0∘Vy 3 (v := vQ yz.v) (h:=by exact Yl.qr rfl rfl kr (fun _ h => h.qdm 8 (j := 0) rfl om hy (hyz) rfl))∘Vn 5∘Vf 6 1∘Vy 7 (v := vW yz.r) (h:=by exact Yl.qr rfl rfl kr (fun _ h => h.qdm 8 (j := 1) rfl om hy (hyz) rfl))∘Vn 9∘Vf 10 0∘Vf 11 2∘Vc 12 O2∘Vy 14 (h:=by exact Yl.ix0 ggA g 2 rfl rfl rfl)∘Vf 15 1∘Vy 16 (v := vI ((gs.getD g Gr.zero).weight)) (h:=by exact Yl.qr rfl rfl kr (fun _ h => h.qw qai (i := 3) rfl (k := g) (off := 1) (x := (gs.getD g Gr.zero)) ((getD_at Gr.zero om)) rfl))∘Vo (vI zw) (by rw [hzw])∘Vc 19 O1∘Vo (vI d) (by rw [hod])) fun a Z I HS => ?_)
   refine ze [17, 24] kr rfl ?_
   refine all_cons ?_ ?_
   ·refine q3 Z (i := 17) rfl rfl ?_
    refine e_is Z I [vQ yz.v, vW yz.r, vI zw] (.agg #[vQ yz.v, vW yz.r, vW zw]) rfl rfl (q4 yz.v yz.r (zw : Int) om _) fun w141 hbw I a Z => ?_
    refine keepS (I.pt 8 [0, 1, 2, 3, 4, 5, 6, 7]) (fun HS => ?_)
    refine ze [20, 24] kr rfl ?_
    refine all_cons ?_ ?_
    ·refine q3 Z (i := 20) rfl rfl ?_
     refine e_is Z I [.agg #[vQ yz.v, vW yz.r, vW zw], vI d] (.tuple #[.agg f.cells, vI 0]) rfl rfl (qgn (⟨yz.v, yz.r, zw⟩ : En) f hFo d hd0 hfw _) fun w144 hbw I a Z => ?_
     refine keepS (I.pt 8 [0, 1, 2, 3, 4, 5, 6, 7]) (fun HS => ?_)
     refine Vb Z I HS ((Vp [21]∘Vx 22∘Vx 23∘VA 24 .n #[vQ 0, vW 0, vW 0]) fun w13 g13 => fun a Z I HS => ?_)
     refine s_on Z 25 rfl (e_sa Z I 0 rfl rfl rfl rfl rfl qk rfl rfl (zu f) ?_)
     clear I; intro w19_25 I
     refine noS kr ?_
     refine ap Z (pastS kr) [26] (bt 27 []) [] fun a Z => ?_
     refine qc kr ?_
     exact ⟨g13, Z.sub kr, I.pt 9 [0, 1, 2, 3, 4, 5, 6, 7, 8]⟩
    refine all_cons ?_ all_nil
    refine q3 Z (i := 24) rfl rfl ?_
    refine s_ea Z I #[vQ 0, vW 0, vW 0] ?_
    clear Z I; intro a w13 g13 Z I
    refine keepS (I.pt 9 [1, 2, 3, 4, 5, 6, 7, 8]) (fun HS => ?_)
    refine Vb Z I HS ((VI 20 (.f .n) (h:=by exact fun I => qgn (⟨yz.v, yz.r, zw⟩ : En) f hFo d hd0 hfw _)) fun w144 hbw => (Vp [21]∘Vx 22∘Vx 23) fun a Z I HS => ?_)
    refine s_on Z 25 rfl (e_sa Z I 0 rfl rfl rfl rfl rfl qk rfl rfl (zu f) ?_)
    clear I; intro w19_25 I
    refine noS kr ?_
    refine ap Z (pastS kr) [26] (bt 27 []) [] fun a Z => ?_
    refine qc kr ?_
    exact ⟨g13, Z.sub kr, I.pt 9 [0, 1, 2, 3, 4, 5, 6, 7, 8]⟩
   refine all_cons ?_ all_nil
   refine q3 Z (i := 24) rfl rfl ?_
   refine s_ea Z I #[vQ 0, vW 0, vW 0] ?_
   clear Z I; intro a w13 g13 Z I
   refine keepS (I.pt 9 [1, 2, 3, 4, 5, 6, 7, 8]) (fun HS => ?_)
   refine Vb Z I HS ((VI 17 (.f .n) (h:=by exact fun I => q4 yz.v yz.r (zw : Int) om _)) fun w141 hbw => (VI 20 (.f .n) (h:=by exact fun I => qgn (⟨yz.v, yz.r, zw⟩ : En) f hFo d hd0 hfw _)) fun w144 hbw => (Vp [21]∘Vx 22∘Vx 23) fun a Z I HS => ?_)
   refine s_on Z 25 rfl (e_sa Z I 0 rfl rfl rfl rfl rfl qk rfl rfl (zu f) ?_)
   clear I; intro w19_25 I
   refine noS kr ?_
   refine ap Z (pastS kr) [26] (bt 27 []) [] fun a Z => ?_
   refine qc kr ?_
   exact ⟨g13, Z.sub kr, I.pt 9 [0, 1, 2, 3, 4, 5, 6, 7, 8]⟩
  clear Z I; rintro a w19 ⟨g13, Z, I⟩
  refine qmm I [.blk g13 f.cells 168, .blk g9 e.cells 168, .blk g3 o.cells 98, fM gm cp cr (some ⟨ggA, 0, none⟩) ng gc (some ⟨glA, 0, none⟩) nl lc (some ⟨guA, 0, none⟩) nu uc (some ⟨gtA, 0, none⟩) nt tc (some ⟨gsA, 0, none⟩) ns sc, fG (some ⟨ggA, 0, none⟩) ng gc gs, fI (some ⟨glA, 0, none⟩) nl lc (cl.set c (v + d)), fI (some ⟨guA, 0, none⟩) nu uc cu, fT (some ⟨gtA, 0, none⟩) nt tc (ts.set k (t.put e))] [0, 1, 2, 3, 4, 5, 6, 7] [11] fun I HS => ?_
  refine ap Z (fun _ => HS) [0, 1, 2, 4] (bf 12 [0, 1, 2, 4]) [(151, vP g13 1), (149, vP g13 0), (148, vP gy (c * 3)), (147, vP gy (c * 3))] fun a Z => ?_
  refine s_ac Z HS 3 0 (v := vQ f.v) fun a Z => ?_
  refine s_ac Z HS 5 0 (v := vW f.r) fun a Z => ?_
  refine s_am Z HS 6 fun a Z => ?_
  refine ap Z (fun _ => HS) [7] (bt 12 [8, 9, 10, 11]) [(154, vP gy (c * 3))] fun a Z => ?_
  refine s_on Z 8 rfl ?_
  refine qb2 Z I 8 (c := c) 0 ({ yz with v := f.v }) rfl rfl rfl rfl kr rfl rfl om (hy) (hyz) rfl de rfl ?_
  clear I; intro w20_8 I
  replace I : Mem W w20_8 (.blk g13 f.cells 168 :: .blk g9 e.cells 168 :: .blk g3 o.cells 98 :: fM gm cp cr (some ⟨ggA, 0, none⟩) ng gc (some ⟨glA, 0, none⟩) nl lc (some ⟨guA, 0, none⟩) nu uc (some ⟨gtA, 0, none⟩) nt tc (some ⟨gsA, 0, none⟩) ns sc :: fG (some ⟨ggA, 0, none⟩) ng gc gs :: fI (some ⟨glA, 0, none⟩) nl lc (cl.set c (v + d)) :: fI (some ⟨guA, 0, none⟩) nu uc cu :: fT (some ⟨gtA, 0, none⟩) nt tc (ts.set k (t.put e)) :: fS (some ⟨gsA, 0, none⟩) ns sc (rsPut rs2 g c ({ yz with v := f.v })) :: (fR (rsPut rs2 g c ({ yz with v := f.v })) ++ (T))) := I
  refine keepS (I.pk [0, 1, 2, 3, 4, 5, 6, 7]) (fun HS => ?_)
  refine s_an Z (fun _ => HS) 9 fun a Z => ?_
  refine ap Z (fun _ => HS) [10] (bt 12 [11]) [(156, vP gy (c * 3 + 1))] fun a Z => ?_
  refine s_on Z 11 rfl ?_
  refine qb2 Z I 8 (c := c) 1 ({ yz with v := f.v, r := f.r }) rfl rfl rfl rfl kr rfl rfl (by first | omega | (rw [q6]; omega)) (qq3 om hy) (qeo hyz) rfl de rfl ?_
  clear I; intro w20_11 I
  replace I : Mem W w20_11 (.blk g13 f.cells 168 :: .blk g9 e.cells 168 :: .blk g3 o.cells 98 :: fM gm cp cr (some ⟨ggA, 0, none⟩) ng gc (some ⟨glA, 0, none⟩) nl lc (some ⟨guA, 0, none⟩) nu uc (some ⟨gtA, 0, none⟩) nt tc (some ⟨gsA, 0, none⟩) ns sc :: fG (some ⟨ggA, 0, none⟩) ng gc gs :: fI (some ⟨glA, 0, none⟩) nl lc (cl.set c (v + d)) :: fI (some ⟨guA, 0, none⟩) nu uc cu :: fT (some ⟨gtA, 0, none⟩) nt tc (ts.set k (t.put e)) :: fS (some ⟨gsA, 0, none⟩) ns sc (rsPut (rsPut rs2 g c ({ yz with v := f.v })) g c ({ yz with v := f.v, r := f.r })) :: (fR (rsPut (rsPut rs2 g c ({ yz with v := f.v })) g c ({ yz with v := f.v, r := f.r })) ++ (T))) := I
  rw [qih (by first | omega | (rw [q6]; omega))] at I
  refine noS kr ?_
  refine qc kr ?_
  refine Jb Z I ((JG∘JR∘Jp 1∘Jn∘Jf 0∘Jg 2 O3∘Jp 1∘Jy (h:=by exact Yl.ix0 ggA g 2 rfl rfl rfl)∘Jf 0∘Jy (v := vI ((gs.getD g Gr.zero).parent)) (h:=by exact Yl.qr rfl rfl kr (fun _ h => (by have := h.qw qai (i := 4) rfl (k := g) (off := 0) (x := (gs.getD g Gr.zero)) ((getD_at Gr.zero om)) rfl; simpa using this)))∘Jo (vI p) (by rw [hpp])∘Jp 1∘Jd6∘Jq) fun a Z I => ?_)
  exact ⟨_, om, p, (rsPut rs2 g c { yz with v := f.v, r := f.r }), by omega, by rw [q6]; exact hl2, hsp2.put { yz with v := f.v, r := f.r } ⟨hfv, hfr, hyo.1.floor⟩ (by rw [hzw]; have := hfo.1.1; rw [hfo.2] at this; exact this), by rw [← hst2, qnb (c := c) (d := d) (g := g) (p := p) (qa1 hgs om) hg0 hpp, qph (x := (⟨cp, cr, some ⟨ggA, 0, none⟩, gc, gs, some ⟨glA, 0, none⟩, lc, (cl.set c (v + d)), some ⟨guA, 0, none⟩, uc, cu, some ⟨gtA, 0, none⟩, tc, (ts.set k (t.put e)), some ⟨gsA, 0, none⟩, sc, rs2⟩ : Stm)) (by show g < rs2.length; omega) hy hyz hzw hfw], rfl, Z.sub kr, I.pt 9 [1, 2, 3, 4, 5, 6, 7, 8]⟩
 intro a Z I
 have hd103 := of_decide_eq_false hb103
 exact Jb Z I ((JF∘JX∘JG∘JP∘Jp 3∘Jj∘JZ∘Jz2) fun I => by exact qs (y := (⟨cp, cr, some ⟨ggA, 0, none⟩, gc, gs, some ⟨glA, 0, none⟩, lc, (cl.set c (v + d)), some ⟨guA, 0, none⟩, uc, cu, some ⟨gtA, 0, none⟩, tc, (ts.set k (t.put e)), some ⟨gsA, 0, none⟩, sc, rs2⟩ : Stm)) 2 I rfl ⟨hlns.g, by show (cl.set _ _).length = nl; rw [List.length_set]; exact hll, hlns.u, by show (ts.set _ _).length = nt; rw [List.length_set]; exact hlt, hl2⟩ ((q02 (x := (⟨cp, cr, some ⟨ggA, 0, none⟩, gc, gs, some ⟨glA, 0, none⟩, lc, cl, some ⟨guA, 0, none⟩, uc, cu, some ⟨gtA, 0, none⟩, tc, ts, some ⟨gsA, 0, none⟩, sc, rs⟩ : Stm)) (decide_eq_true hd18) htk hcc hod hv om hid hid0 hk ht hgt hwt hew).trans (by rw [← show qgk c d g (⟨cp, cr, some ⟨ggA, 0, none⟩, gc, gs, some ⟨glA, 0, none⟩, lc, cl.set c (v + d), some ⟨guA, 0, none⟩, uc, cu, some ⟨gtA, 0, none⟩, tc, ts.set k (t.put e), some ⟨gsA, 0, none⟩, sc, rs2⟩ : Stm).sta = _ from hst2, show g = 0 by omega]; rfl)))
theorem qlp (x e : En) (hx : x.Ok) (fr to : Nat) (hf : fr < 18446744073709551616) (ht : to < 18446744073709551616) (he : x.moved fr to = e) (w : World) : Calls Tryz.prog 147 #[.agg x.cells, vQ fr, vQ to] w (Is w (.tuple #[.agg e.cells, vI 0])) := he ▸ qw1 x hx fr to hf ht w
def IdxIs (w : World) (l : List Int) (v : Int) (r : Ending) (w' : World) : Prop := (∃ i : Int, r = .returned (vI i) ∧ decide (i ≥ 0) = decide (v ∈ l)) ∧ Below w.heap.size w w'
theorem qt2 {w w' : World} {l : List Int} {v : Int} {k : Nat} (hk : k < l.length) (h : l.getD k 0 = v) (hb : Below w.heap.size w w') : IdxIs w l v (.returned (vI k)) w' := ⟨⟨k, rfl, decide_eq_decide.2 ⟨fun _ => h ▸ qg 0 hk, fun _ => by omega⟩⟩, hb⟩
theorem qt3 {w w' : World} {l : List Int} {v : Int} (h : ∀ i, i < l.length → l.getD i 0 ≠ v) (hb : Below w.heap.size w w') : IdxIs w l v (.returned (vI (-1))) w' := by
 refine ⟨⟨-1, rfl, decide_eq_decide.2 ⟨fun h1 => by omega, fun h1 => ?_⟩⟩, hb⟩
 obtain ⟨i, hi, rfl⟩ := List.getElem_of_mem h1
 exact absurd (by rw [List.getD_eq_getElem?_getD, List.getElem?_eq_getElem hi]; rfl) (h i hi)
theorem q5g {l : List Int} {v : Int} {k : Nat} (h : ∀ i, i < k → l.getD i 0 ≠ v) (hk : l.getD k 0 ≠ v) : ∀ i, i < k + 1 → l.getD i 0 ≠ v := fun i hi => by
 rcases Nat.lt_or_ge i k with h1 | h1
 ·exact h i h1
 ·obtain rfl : i = k := by omega
  exact hk
theorem q3r {m c : Nat} {s : Nat} {v : Int} (hs : s = m) (hc : v = (c : Int)) (h : ¬ (m / 2 ^ c) % 2 = 1) : bitOn s v = false := by
 subst hs; subst hc
 unfold bitOn
 rw [Int.toNat_natCast, decide_eq_false h]
theorem qpn {m c : Nat} {v : Int} (hc : v = (c : Int)) (h : (m / 2 ^ c) % 2 = 1) : bitOn m v = true := by
 subst hc
 unfold bitOn
 rw [Int.toNat_natCast, decide_eq_true h]
theorem qlq (W w : World) (x : Stm) (gm : Nat) (ng nl nu nt ns : Nat) (hx : MdOk x ng nl nu nt ns) (o : Op30) (ho : o.Ok) (T : List Fact) (I : Mem W w (mdA gm x ng nl nu nt ns ++ T)) :
    Calls Tryz.prog 69 #[vP gm 0, .agg o.cells] w (OpIs W gm T (qbt x.sta o)) := by
 obtain ⟨cp, cr, gA, gc, gs, lA, lc, cl, uA, uc, cu, tA, tc, ts, sA, sc, rs⟩ := x
 replace I : Mem W w (fM gm cp cr gA ng gc lA nl lc uA nu uc tA nt tc sA ns sc :: fG gA ng gc gs :: fI lA nl lc cl :: fI uA nu uc cu :: fT tA nt tc ts :: fS sA ns sc rs :: (fR rs ++ (T))) := I
 obtain ⟨hlg, hll, hlu, hlt, hls⟩ := hx.ln
 replace hlg : gs.length = ng := hlg; replace hll : cl.length = nl := hll; replace hlu : cu.length = nu := hlu; replace hlt : ts.length = nt := hlt; replace hls : rs.length = ns := hls
 have hlns := hx.ln
 have hsp : SpsOk gs cp rs := hx.spots
 have hrg : rs.length = gs.length := hx.sh.rs
 have hcr : cr < 18446744073709551616 := hx.ok.credit
 obtain ⟨hcp1, hcp2, _, hgs⟩ := z9 hx.sh.cfg
 replace hcp1 : 1 ≤ cp := hcp1; replace hcp2 : cp ≤ 64 := hcp2; replace hgs : gsOk gs = true := hgs
 have hgl1 := (qo hgs).1; have hgl2 := (qo hgs).2.1
 have hcll : (cl.length : Int) = cp := hx.sh.cl; have hcul : (cu.length : Int) = cp := hx.sh.cu
 have hfts : ts.length ≤ 1000000 := hx.few.t
 have hoc := ho.cpu; have hot := ho.task; have hog := ho.group; have how := ho.weight; have hoto := ho.to; have hotk := ho.ticks; have hom := ho.mask; have hok8 := ho.kind; unfold I64 at hoc hot hog how hoto hotk
 obtain ⟨ggA, rfl⟩ := qm (I.own (i := 1) rfl) om
 obtain ⟨gsA, rfl⟩ := qm (I.own (i := 5) rfl) om
 refine (Jin2 I Tryz.func69 102) ?_
 refine (JP∘JE) fun w3 g3 => (Jp 2∘Jr∘Jp 1∘Jn∘Jf 0∘Jp 1∘Jd3∘Jj∘JQ∘JB) fun a Z I => ?_
 refine zp (fun aS wS => Fr aS 102 [] [(14, .bool (!(decide (1 ≤ o.group ∧ o.group < rs.length)))), (6, vP gm 0), (5, vI 0), (4, vI 0), (3, vP g3 0)] ∧ Mem W wS (.blk g3 o.cells 98 :: fM gm cp cr (some ⟨ggA, 0, none⟩) ng gc lA nl lc uA nu uc tA nt tc (some ⟨gsA, 0, none⟩) ns sc :: fG (some ⟨ggA, 0, none⟩) ng gc gs :: fI lA nl lc cl :: fI uA nu uc cu :: fT tA nt tc ts :: fS (some ⟨gsA, 0, none⟩) ns sc rs :: (fR rs ++ (T)))) ?_ ?_
 ·
  refine Jb Z I ((Vs .n []) fun wd2 => (Vf 0 3∘Vc 1 O0∘Vp [2, 3]) fun a Z I HS => ?_)
  rcases Z.tf 18 rfl with ⟨hb18, Z⟩ | ⟨hb18, Z⟩
  ·
   have hd18 := of_decide_eq_true hb18
   refine Vb Z I HS ((Vq [4, 5, 6, 7, 8, 9, 10, 11, 12, 13] [(14, .bool true)]∘Vd∘Jd5) fun a Z I => ?_)
   have Z := Z.sp 14 (.bool (!(decide (1 ≤ o.group ∧ o.group < rs.length)))) rfl (congrArg Value.bool (by rw [decide_eq_false om]; rfl))
   exact ⟨Z.sub kr, I.pt 7 [0, 1, 2, 3, 4, 5, 6]⟩
  have hd18 := of_decide_eq_false hb18
  refine ap Z (fun _ => HS) [4, 6] (bf 14 [0, 1, 2, 3, 4, 6]) [(21, vP gm 0), (19, vP g3 3)] fun a Z => ?_
  refine s_ac Z HS 5 0 (v := vI o.group) fun a Z => ?_
  refine s_am Z HS 7 fun a Z => ?_
  refine ap Z (fun _ => HS) [8] (bt 14 [9, 10, 11, 12, 13]) [(23, vP gm 6)] fun a Z => ?_
  refine s_ac Z HS 9 1 fun a Z => ?_
  refine s_al Z HS 10 fun a Z => ?_
  refine ap Z (fun _ => HS) [11, 12, 13] (bt 14 []) [(14, .bool (decide ((o.group : Int) ≥ (ns : Int))))] fun a Z => ?_
  refine qc kr ?_
  have Z := Z.sp 14 (.bool (!(decide (1 ≤ o.group ∧ o.group < rs.length)))) rfl (congrArg Value.bool (by rw [← decide_not]; exact decide_eq_decide.2 om))
  exact ⟨Z.sub kr, I.pt 7 [0, 1, 2, 3, 4, 5, 6]⟩
 clear Z I; rintro a w2 ⟨Z, I⟩
 refine Jb Z I (Ji' (fun hd14 => ?_) fun hd14 => ?_)
 ·
  exact (JT∘JP∘Jp 2∘Jj∘JZ∘Jz2) fun I => by exact qs (y := (⟨cp, cr, some ⟨ggA, 0, none⟩, gc, gs, lA, lc, cl, uA, uc, cu, tA, tc, ts, some ⟨gsA, 0, none⟩, sc, rs⟩ : Stm)) 1 I rfl hlns (if_pos (by show ¬ (1 ≤ o.group ∧ o.group < ((rs.map Rw.l).length : Nat)); rw [List.length_map]; exact hd14))
 refine (JF∘JP∘Jg 4 O0∘JL (h:=by exact fun I => qcc o.weight _)) ?_
 rintro I _ w31 ⟨rfl, hbw⟩
 refine ⟨_, rfl, _, I.call hbw, ?_⟩
 refine (Jp 2∘Jd3∘Jj) (Ju (fun hb28 => ?_) fun hb28 => ?_)
 ·
  intro a Z I
  have hd28 := of_decide_eq_false ((Bool.not_eq_true' _).mp hb28)
  exact Jb Z I ((JT∘JP∘Jp 2∘Jj∘JZ∘Jz2) fun I => by exact qs (y := (⟨cp, cr, some ⟨ggA, 0, none⟩, gc, gs, lA, lc, cl, uA, uc, cu, tA, tc, ts, some ⟨gsA, 0, none⟩, sc, rs⟩ : Stm)) 1 I rfl hlns ((if_neg (by show ¬ ¬ (1 ≤ o.group ∧ o.group < ((rs.map Rw.l).length : Nat)); rw [List.length_map]; omega)).trans (if_pos (decide_eq_false hd28))))
 intro a Z I
 have hd28 := of_decide_eq_true ((Bool.not_eq_false' _).mp hb28)
 have hgb : 1 ≤ o.group ∧ o.group < rs.length := by omega
 obtain ⟨z, hoz⟩ : ∃ n : Nat, o.weight = (n : Int) := ⟨o.weight.toNat, by omega⟩
 have hz : 1 ≤ z ∧ z ≤ 65536 := by omega
 obtain ⟨g, hgg⟩ : ∃ n : Nat, o.group = (n : Int) := ⟨o.group.toNat, by omega⟩
 obtain ⟨⟨yA, yc, yl⟩, hy⟩ : ∃ y, rs.getD g Rw.zero = y := ⟨_, rfl⟩
 have hys := hsp g om; rw [hy] at hys
 have hyl : (yl.length : Int) = cp := hys.1
 obtain ⟨gr, hgr⟩ : ∃ z, gs[g]? = some z := ⟨_, List.getElem?_eq_getElem om⟩
 obtain ⟨zw, hzw, hzw1, hzw2⟩ := qcx hgs (g := g) om
 have hgrd := qad Gr.zero hgr
 rw [hgrd] at hzw
 revert I; revert a; repeat (first | clear Z | clear I)
 intro a Z I
 obtain ⟨gy, rfl⟩ := I.rwSome 7 rfl om hy om
 refine Jb Z I ((JF∘JS'∘JQ) fun a Z I => ?_)
 refine wp_seq ?_
 refine Jb Z I ((Vs .n []) fun wd6 => (Vp [0]∘Vf 4 3∘Vp [9]∘Vn 1∘Vf 2 6∘Vc 3 O1∘Vc 5 O0∘Vo (vI g) (by rw [hgg])∘Vy 6 (h:=by exact Yl.ix0 gsA g 1 rfl rfl rfl)∘Vy 7 (v := .slice ((rs.getD g Rw.zero).A) ((rs.getD g Rw.zero).l.length) ((rs.getD g Rw.zero).c)) (h:=by exact Yl.r1 6 g Rw.zero om rfl rfl rfl)∘Vo (vS gy yl.length yc) (by rw [hy])∘Vl 8∘Vd∘Jd6∘JB) fun a Z I => ?_)
 refine qe (fun mS aS wS => ∃ (c : Nat) (rs2 : List Rw), (c ≤ yl.length) ∧ (rs2.length = ns) ∧ (rs2 = (rs.set g ⟨some ⟨gy, 0, none⟩, yc, upd r0 yl c⟩)) ∧ mS = yl.length - c ∧ Fr aS 102 [] [(41, vI yl.length), (42, vI c), (28, .bool false), (14, .bool false), (6, vP gm 0), (5, vI 0), (4, vI 0), (3, vP g3 0)] ∧ Mem W wS (.blk g3 o.cells 98 :: fM gm cp cr (some ⟨ggA, 0, none⟩) ng gc lA nl lc uA nu uc tA nt tc (some ⟨gsA, 0, none⟩) ns sc :: fG (some ⟨ggA, 0, none⟩) ng gc gs :: fI lA nl lc cl :: fI uA nu uc cu :: fT tA nt tc ts :: fS (some ⟨gsA, 0, none⟩) ns sc rs2 :: (fR rs2 ++ (T)))) (m := yl.length - 0) ⟨0, rs, Nat.zero_le _, hls, by rw [q03, ← hy]; exact (qig _ om).symm, rfl, Z.sub kr, I.pt 7 [0, 1, 2, 3, 4, 5, 6]⟩ ?_
 clear Z I; rintro mS a w_ ⟨c, rs2, hc, hl2, hr2, rfl, Z, I⟩
 refine Jb Z I ((JP∘Jp 1∘Jj∘JQ) (Ju (fun hb43 => ?_) fun hb43 => ?_))
 ·
  intro a Z I
  have hd43 := of_decide_eq_true hb43
  have hc43 : c < yl.length := by omega
  obtain ⟨yz, hyz⟩ : ∃ z, yl[c]? = some z := ⟨_, List.getElem?_eq_getElem om⟩
  have hyz2 := (q5a r0 (Nat.le_refl c)).trans hyz
  have hyo := hys.2 yz (List.mem_of_getElem? hyz)
  rw [hgrd] at hyo
  have hyv := hyo.1.v; have hyr := hyo.1.r
  have hFo : (⟨yz.v, yz.r, zw⟩ : En).Ok := En.qjm hyo.2 hzw hyo.1.v
  have hy2 : rs2.getD g Rw.zero = ⟨some ⟨gy, 0, none⟩, yc, upd r0 yl c⟩ := by rw [hr2]; exact qj _ _ om
  refine Jb Z I ((JT∘JS'∘JQ∘JB∘JP∘Jp 2∘Jd1∘Jj) fun a Z I => ?_)
  refine wp_seq ?_
  refine Jb Z I ((Vs .n []) fun wd9 => (Vp [0]∘Vf 4 3∘Vp [8]∘Vn 1∘Vf 2 6∘Vc 3 O1∘Vc 5 O0∘Vo (vI g) (by rw [hgg])∘Vy 6 (h:=by exact Yl.ix0 gsA g 1 rfl rfl rfl)∘Vy 7 (v := .slice ((rs2.getD g Rw.zero).A) ((rs2.getD g Rw.zero).l.length) ((rs2.getD g Rw.zero).c)) (h:=by exact Yl.r1 6 g Rw.zero om rfl rfl rfl)∘Vo (vS gy yl.length yc) (by rw [hy2]; show Value.slice _ (upd r0 yl c).length _ = _; rw [q48])∘Vy 9 (h:=by exact Yl.ix0 gy c 3 rfl rfl rfl)∘Vp [10]∘Vd∘Jd6) fun a Z I => ?_)
  refine zp (fun aS wS => ∃ (g9 : Nat), Fr aS 102 [] [(9, vP g9 0), (8, vP gy (c * 3)), (7, vI c), (43, .bool true), (41, vI yl.length), (42, vI c), (28, .bool false), (14, .bool false), (6, vP gm 0), (5, vI 0), (4, vI 0), (3, vP g3 0)] ∧ Mem W wS (.blk g9 ((⟨yz.v, 0, z⟩ : En).cells) 168 :: .blk g3 o.cells 98 :: fM gm cp cr (some ⟨ggA, 0, none⟩) ng gc lA nl lc uA nu uc tA nt tc (some ⟨gsA, 0, none⟩) ns sc :: fG (some ⟨ggA, 0, none⟩) ng gc gs :: fI lA nl lc cl :: fI uA nu uc cu :: fT tA nt tc ts :: fS (some ⟨gsA, 0, none⟩) ns sc rs2 :: (fR rs2 ++ (T)))) ?_ ?_
  ·
   refine Jb Z I ((Vs .n [26]) fun wd10 => (Vp [0, 4, 8]∘Vf 13 3∘Vf 19 4∘Vn 1∘Vf 2 0∘Vy 3 (v := vQ yz.v) (h:=by exact Yl.qr rfl rfl kr (fun _ h => h.qdm 7 (j := 0) rfl om hy2 (hyz2) rfl))∘Vn 5∘Vf 6 1∘Vy 7 (v := vW yz.r) (h:=by exact Yl.qr rfl rfl kr (fun _ h => h.qdm 7 (j := 1) rfl om hy2 (hyz2) rfl))∘Vn 9∘Vf 10 0∘Vf 11 2∘Vc 12 O1∘Vc 14 O0∘Vo (vI g) (by rw [hgg])∘Vy 15 (h:=by exact Yl.ix0 ggA g 2 rfl rfl rfl)∘Vf 16 1∘Vy 17 (v := vI gr.weight) (h:=by exact Yl.qr rfl rfl kr (fun _ h => h.qw qai (i := 2) rfl (k := g) (off := 1) (x := gr) (hgr) rfl))∘Vo (vI zw) (by rw [hzw])∘Vc 20 O0∘Vo (vI z) (by rw [hoz])) fun a Z I HS => ?_)
   refine ze [18, 25] kr rfl ?_
   refine all_cons ?_ ?_
   ·refine q3 Z (i := 18) rfl rfl ?_
    refine e_is Z I [vQ yz.v, vW yz.r, vI zw] (.agg #[vQ yz.v, vW yz.r, vW zw]) rfl rfl (q4 yz.v yz.r (zw : Int) om _) fun w74 hbw I a Z => ?_
    refine keepS (I.pt 7 [0, 1, 2, 3, 4, 5, 6]) (fun HS => ?_)
    refine ze [21, 25] kr rfl ?_
    refine all_cons ?_ ?_
    ·refine q3 Z (i := 21) rfl rfl ?_
     refine e_is Z I [.agg #[vQ yz.v, vW yz.r, vW zw], vI z] (.tuple #[.agg ((⟨yz.v, 0, z⟩ : En).cells), vI 0]) rfl rfl (qcz (⟨yz.v, yz.r, zw⟩ : En) hFo z hz _) fun w77 hbw I a Z => ?_
     refine keepS (I.pt 7 [0, 1, 2, 3, 4, 5, 6]) (fun HS => ?_)
     refine Vb Z I HS ((Vp [22]∘Vx 23∘Vx 24∘VA 25 .n #[vQ 0, vW 0, vW 0]) fun w9 g9 => fun a Z I HS => ?_)
     refine s_on Z 26 rfl (e_sa Z I 0 rfl rfl rfl rfl rfl qk rfl rfl (zu (⟨yz.v, 0, z⟩ : En)) ?_)
     clear I; intro w10_26 I
     refine noS kr ?_
     refine ap Z (pastS kr) [27] (bt 28 []) [] fun a Z => ?_
     refine qc kr ?_
     exact ⟨g9, Z.sub kr, I.pt 8 [0, 1, 2, 3, 4, 5, 6, 7]⟩
    refine all_cons ?_ all_nil
    refine q3 Z (i := 25) rfl rfl ?_
    refine s_ea Z I #[vQ 0, vW 0, vW 0] ?_
    clear Z I; intro a w9 g9 Z I
    refine keepS (I.pt 8 [1, 2, 3, 4, 5, 6, 7]) (fun HS => ?_)
    refine Vb Z I HS ((VI 21 (.f .n) (h:=by exact fun I => qcz (⟨yz.v, yz.r, zw⟩ : En) hFo z hz _)) fun w77 hbw => (Vp [22]∘Vx 23∘Vx 24) fun a Z I HS => ?_)
    refine s_on Z 26 rfl (e_sa Z I 0 rfl rfl rfl rfl rfl qk rfl rfl (zu (⟨yz.v, 0, z⟩ : En)) ?_)
    clear I; intro w10_26 I
    refine noS kr ?_
    refine ap Z (pastS kr) [27] (bt 28 []) [] fun a Z => ?_
    refine qc kr ?_
    exact ⟨g9, Z.sub kr, I.pt 8 [0, 1, 2, 3, 4, 5, 6, 7]⟩
   refine all_cons ?_ all_nil
   refine q3 Z (i := 25) rfl rfl ?_
   refine s_ea Z I #[vQ 0, vW 0, vW 0] ?_
   clear Z I; intro a w9 g9 Z I
   refine keepS (I.pt 8 [1, 2, 3, 4, 5, 6, 7]) (fun HS => ?_)
   refine Vb Z I HS ((VI 18 (.f .n) (h:=by exact fun I => q4 yz.v yz.r (zw : Int) om _)) fun w74 hbw => (VI 21 (.f .n) (h:=by exact fun I => qcz (⟨yz.v, yz.r, zw⟩ : En) hFo z hz _)) fun w77 hbw => (Vp [22]∘Vx 23∘Vx 24) fun a Z I HS => ?_)
   refine s_on Z 26 rfl (e_sa Z I 0 rfl rfl rfl rfl rfl qk rfl rfl (zu (⟨yz.v, 0, z⟩ : En)) ?_)
   clear I; intro w10_26 I
   refine noS kr ?_
   refine ap Z (pastS kr) [27] (bt 28 []) [] fun a Z => ?_
   refine qc kr ?_
   exact ⟨g9, Z.sub kr, I.pt 8 [0, 1, 2, 3, 4, 5, 6, 7]⟩
  clear Z I; rintro a w10 ⟨g9, Z, I⟩
  refine qmm I [.blk g9 ((⟨yz.v, 0, z⟩ : En).cells) 168, .blk g3 o.cells 98, fM gm cp cr (some ⟨ggA, 0, none⟩) ng gc lA nl lc uA nu uc tA nt tc (some ⟨gsA, 0, none⟩) ns sc, fG (some ⟨ggA, 0, none⟩) ng gc gs, fI lA nl lc cl, fI uA nu uc cu, fT tA nt tc ts] [0, 1, 2, 3, 4, 5, 6] [11] fun I HS => ?_
  refine ap Z (fun _ => HS) [0, 1, 2, 4] (bf 12 [0, 1, 2, 4]) [(84, vP g9 1), (82, vP g9 0), (81, vP gy (c * 3)), (80, vP gy (c * 3))] fun a Z => ?_
  refine s_ac Z HS 3 0 (v := vQ ((⟨yz.v, 0, z⟩ : En).v)) fun a Z => ?_
  refine s_ac Z HS 5 0 (v := vW ((⟨yz.v, 0, z⟩ : En).r)) fun a Z => ?_
  refine s_am Z HS 6 fun a Z => ?_
  refine ap Z (fun _ => HS) [7] (bt 12 [8, 9, 10, 11]) [(87, vP gy (c * 3))] fun a Z => ?_
  refine s_on Z 8 rfl ?_
  refine qb2 Z I 7 (c := c) 0 ({ yz with v := yz.v }) rfl rfl rfl rfl kr rfl rfl om (hy2) (hyz2) rfl de rfl ?_
  clear I; intro w11_8 I
  replace I : Mem W w11_8 (.blk g9 ((⟨yz.v, 0, z⟩ : En).cells) 168 :: .blk g3 o.cells 98 :: fM gm cp cr (some ⟨ggA, 0, none⟩) ng gc lA nl lc uA nu uc tA nt tc (some ⟨gsA, 0, none⟩) ns sc :: fG (some ⟨ggA, 0, none⟩) ng gc gs :: fI lA nl lc cl :: fI uA nu uc cu :: fT tA nt tc ts :: fS (some ⟨gsA, 0, none⟩) ns sc (rsPut rs2 g c ({ yz with v := yz.v })) :: (fR (rsPut rs2 g c ({ yz with v := yz.v })) ++ (T))) := I
  refine keepS (I.pk [0, 1, 2, 3, 4, 5, 6]) (fun HS => ?_)
  refine s_an Z (fun _ => HS) 9 fun a Z => ?_
  refine ap Z (fun _ => HS) [10] (bt 12 [11]) [(89, vP gy (c * 3 + 1))] fun a Z => ?_
  refine s_on Z 11 rfl ?_
  refine qb2 Z I 7 (c := c) 1 (r0 yz) rfl rfl rfl rfl kr rfl rfl (by first | omega | (rw [q6]; omega)) (qq3 om hy2) (qeo hyz2) rfl de rfl ?_
  clear I; intro w11_11 I
  replace I : Mem W w11_11 (.blk g9 ((⟨yz.v, 0, z⟩ : En).cells) 168 :: .blk g3 o.cells 98 :: fM gm cp cr (some ⟨ggA, 0, none⟩) ng gc lA nl lc uA nu uc tA nt tc (some ⟨gsA, 0, none⟩) ns sc :: fG (some ⟨ggA, 0, none⟩) ng gc gs :: fI lA nl lc cl :: fI uA nu uc cu :: fT tA nt tc ts :: fS (some ⟨gsA, 0, none⟩) ns sc (rsPut (rsPut rs2 g c ({ yz with v := yz.v })) g c (r0 yz)) :: (fR (rsPut (rsPut rs2 g c ({ yz with v := yz.v })) g c (r0 yz)) ++ (T))) := I
  rw [qih (by first | omega | (rw [q6]; omega))] at I
  refine noS kr ?_
  refine qc kr ?_
  refine Jb Z I ((JG∘JR∘JaK 1∘Jp 1∘Jd6∘Jq) fun a Z I => ?_)
  exact ⟨_, om, c + 1, (rsPut rs2 g c (r0 yz)), by omega, by rw [q6]; exact hl2, qw6 om hyz hr2, rfl, Z.sub kr, I.pt 8 [1, 2, 3, 4, 5, 6, 7]⟩
 intro a Z I
 have hd43 := of_decide_eq_false hb43
 refine Jb Z I ((JF∘JX) fun a Z I => ?_)
 refine wp_seq ?_
 refine Jb Z I ((Vs .n [11]) fun wd13 => (Vp [0]∘Vf 5 3∘Vf 7 4∘Vn 1∘Vf 2 0∘Vf 3 2∘Vc 4 O1∘Vc 6 O0∘Vo (vI g) (by rw [hgg])∘Vc 8 O0∘Vo (vI z) (by rw [hoz])∘Vu 9 (h:=by exact fun _ => Yl.ix0 ggA g 2 rfl rfl rfl)∘Vf 10 1) fun a Z I HS => ?_)
 refine s_on Z 11 rfl ?_
 refine qx Z I (i := 2) rfl rfl rfl rfl kr rfl rfl (by rw [qal grL 2 qai]; omega) ?_
 clear I; intro w13_11 I
 replace I := I.asRow (i := 2) (ys := (gs.set g { gr with weight := (z : Int) }).flatMap grL) rfl (qas grL 2 qai gs g gr { gr with weight := (z : Int) } hgr 1 de _ rfl)
 refine noS kr ?_
 refine qc kr ?_
 exact Jb Z I ((JP∘Jp 2∘Jj∘JZ∘Jz2) fun I => by exact qs (y := (⟨cp, cr, some ⟨ggA, 0, none⟩, gc, (gs.set g { gr with weight := (z : Int) }), lA, lc, cl, uA, uc, cu, tA, tc, ts, some ⟨gsA, 0, none⟩, sc, rs2⟩ : Stm)) 1 I rfl ⟨by show (gs.set _ _).length = ng; rw [List.length_set]; exact hlg, hlns.l, hlns.u, hlns.t, hl2⟩ ((qpi (x := (⟨cp, cr, some ⟨ggA, 0, none⟩, gc, gs, lA, lc, cl, uA, uc, cu, tA, tc, ts, some ⟨gsA, 0, none⟩, sc, rs⟩ : Stm)) hgg hgb (decide_eq_true hd28) hy hgrd).trans (by rw [hoz]; exact congrArg (fun r => (Stm.sta (⟨cp, cr, some ⟨ggA, 0, none⟩, gc, (gs.set g { gr with weight := (z : Int) }), lA, lc, cl, uA, uc, cu, tA, tc, ts, some ⟨gsA, 0, none⟩, sc, r⟩ : Stm), (0 : Int), 0)) (show _ = rs2 by rw [hr2, q49 r0 yl om]))))
theorem qt4 (W w : World) (x : Stm) (gm k to : Nat) (t : Tk) (ng nl nu nt ns : Nat) (hx : MdOk x ng nl nu nt ns) (ht : x.ts[k]? = some t) (hto_ : (to : Int) < x.cpus) (T : List Fact) (I : Mem W w (mdA gm x ng nl nu nt ns ++ T)) :
    Calls Tryz.prog 118 #[vP gm 0, vI k, vI to] w (StIs W gm T (moveS x.sta k (to : Int))) := by
 obtain ⟨cp, cr, gA, gc, gs, lA, lc, cl, uA, uc, cu, tA, tc, ts, sA, sc, rs⟩ := x
 replace I : Mem W w (fM gm cp cr gA ng gc lA nl lc uA nu uc tA nt tc sA ns sc :: fG gA ng gc gs :: fI lA nl lc cl :: fI uA nu uc cu :: fT tA nt tc ts :: fS sA ns sc rs :: (fR rs ++ (T))) := I
 obtain ⟨hlg, hll, hlu, hlt, hls⟩ := hx.ln
 replace hlg : gs.length = ng := hlg; replace hll : cl.length = nl := hll; replace hlu : cu.length = nu := hlu; replace hlt : ts.length = nt := hlt; replace hls : rs.length = ns := hls
 have hlns := hx.ln
 have hsp : SpsOk gs cp rs := hx.spots
 have hrg : rs.length = gs.length := hx.sh.rs
 have hcr : cr < 18446744073709551616 := hx.ok.credit
 obtain ⟨hcp1, hcp2, _, hgs⟩ := z9 hx.sh.cfg
 replace hcp1 : 1 ≤ cp := hcp1; replace hcp2 : cp ≤ 64 := hcp2; replace hgs : gsOk gs = true := hgs
 have hgl1 := (qo hgs).1; have hgl2 := (qo hgs).2.1
 have hcll : (cl.length : Int) = cp := hx.sh.cl; have hcul : (cu.length : Int) = cp := hx.sh.cu
 have hfts : ts.length ≤ 1000000 := hx.few.t
 replace ht : ts[k]? = some t := ht; replace hto_ : (to : Int) < cp := hto_
 have hkl := (List.getElem?_eq_some_iff.1 ht).1
 obtain ⟨htg, hto⟩ := hx.task ht
 have hti := htg.id; have htgr := htg.group; have htc := htg.cpu; have htw := htg.weight; have htv := hto.v; have htr := hto.r; have htm := hto.mask
 replace htc : 0 ≤ t.cpu ∧ t.cpu < cp := htc
 obtain ⟨gt, hgt⟩ : ∃ n : Nat, t.group = (n : Int) := ⟨t.group.toNat, by omega⟩
 obtain ⟨ct, hct⟩ : ∃ n : Nat, t.cpu = (n : Int) := ⟨t.cpu.toNat, by omega⟩
 obtain ⟨wt, hwt⟩ : ∃ n : Nat, t.weight = (n : Int) := ⟨t.weight.toNat, by omega⟩
 have hEo : (⟨t.v, t.r, wt⟩ : En).Ok := En.qjm htg.ent hwt htv
 obtain ⟨gsA, rfl⟩ := qm (I.own (i := 5) rfl) om
 obtain ⟨gtA, rfl⟩ := qm (I.own (i := 4) rfl) om
 obtain ⟨em, hem⟩ : ∃ l, zi (⟨cp, cr, gA, gc, gs, lA, lc, cl, uA, uc, cu, some ⟨gtA, 0, none⟩, tc, ts, some ⟨gsA, 0, none⟩, sc, rs⟩ : Stm).sta gt to = l := ⟨_, rfl⟩
 have hemm := fun h hh => qln (x := (⟨cp, cr, gA, gc, gs, lA, lc, cl, uA, uc, cu, some ⟨gtA, 0, none⟩, tc, ts, some ⟨gsA, 0, none⟩, sc, rs⟩ : Stm)) hx (by omega : gt < ns) hem h hh
 have hemn := qiv (x := (⟨cp, cr, gA, gc, gs, lA, lc, cl, uA, uc, cu, some ⟨gtA, 0, none⟩, tc, ts, some ⟨gsA, 0, none⟩, sc, rs⟩ : Stm)) hx (by omega : gt < ns) hem
 obtain ⟨⟨yA, yc, yl⟩, hy⟩ : ∃ y, rs.getD gt Rw.zero = y := ⟨_, rfl⟩
 have hys := hsp gt om; rw [hy] at hys
 have hyl : (yl.length : Int) = cp := hys.1
 obtain ⟨gy, rfl⟩ := I.rwSome 6 rfl om hy om
 obtain ⟨yz, hyz⟩ : ∃ z, yl[ct]? = some z := ⟨_, List.getElem?_eq_getElem om⟩
 have hyo := hys.2 yz (List.mem_of_getElem? hyz)
 have hyv := hyo.1.v; have hyr := hyo.1.r; have hyf := hyo.1.floor
 obtain ⟨z2, hz2⟩ : ∃ z, yl[to]? = some z := ⟨_, List.getElem?_eq_getElem om⟩
 have hzf := (hys.2 z2 (List.mem_of_getElem? hz2)).1.floor
 obtain ⟨e, hew⟩ : ∃ e, (⟨t.v, t.r, wt⟩ : En).moved yz.floor z2.floor = e := ⟨_, rfl⟩
 have heo : e.Ok ∧ e.w = wt := by rw [← hew]; exact En.qsx hEo _ _ hzf
 have hev := heo.1.2; have her := qg1 heo.1.1
 have hmo := q04 (x := (⟨cp, cr, gA, gc, gs, lA, lc, cl, uA, uc, cu, some ⟨gtA, 0, none⟩, tc, ts, some ⟨gsA, 0, none⟩, sc, rs⟩ : Stm)) (to := to) ht hgt hct hwt (qcm (x := (⟨cp, cr, gA, gc, gs, lA, lc, cl, uA, uc, cu, some ⟨gtA, 0, none⟩, tc, ts, some ⟨gsA, 0, none⟩, sc, rs⟩ : Stm)) (by show gt < rs.length; omega) hy hyz) (qcm (x := (⟨cp, cr, gA, gc, gs, lA, lc, cl, uA, uc, cu, some ⟨gtA, 0, none⟩, tc, ts, some ⟨gsA, 0, none⟩, sc, rs⟩ : Stm)) (by show gt < rs.length; omega) hy hz2) hew hem
 refine (Jin3 I Tryz.func118 81) ?_
 refine (JP∘Jp 1∘Jn∘Jf 0∘Jg 5 O0∘Jp 1∘Jy (h:=by exact Yl.ix0 gtA k 8 rfl rfl rfl)∘Jp 1∘Jd6∘Jr∘Jp 2∘Jn∘Jf 1∘Jy (v := vI t.group) (h:=by exact Yl.qr rfl rfl kr (fun _ h => h.qw qi (i := 4) rfl (k := k) (off := 1) (x := t) (ht) rfl))∘Jo (vI gt) (by rw [hgt])∘Jp 1∘JK (h:=by exact fun I => qlm 0 I rfl hx (by show ((to : Nat) : Int) < cp; omega) om hem)) fun A24 c24 w24 hc24 => (Jp 1∘Jd6∘Jj) fun a Z I => ?_
 refine wp_seq ?_
 refine Jb Z I ((Vs .n []) fun wd2 => (Vp [0, 5]∘Vn 1∘Vf 2 0∘Vf 3 6∘Vc 4 O1∘Vn 6∘Vf 7 1∘Vy 8 (v := vI t.group) (h:=by exact Yl.qr rfl rfl kr (fun _ h => h.qw qi (i := 5) rfl (k := k) (off := 1) (x := t) (ht) rfl))∘Vo (vI gt) (by rw [hgt])∘Vy 9 (h:=by exact Yl.ix0 gsA gt 1 rfl rfl rfl)∘Vy 10 (v := .slice ((rs.getD gt Rw.zero).A) ((rs.getD gt Rw.zero).l.length) ((rs.getD gt Rw.zero).c)) (h:=by exact Yl.r1 6 gt Rw.zero om rfl rfl rfl)∘Vo (vS gy yl.length yc) (by rw [hy])∘Vp [11]∘Vd∘Jd6) fun a Z I => ?_)
 refine zp (fun aS wS => ∃ (g9 : Nat), Fr aS 81 [] [(9, vP g9 0), (7, .slice A24 em.length c24), (6, vP gtA (k * 8)), (0, vP gm 0), (2, vI to)] ∧ Mem W wS (.blk g9 e.cells 168 :: .row (.slice A24 em.length c24) em.length (em.map I64v) 3 1 :: fM gm cp cr gA ng gc lA nl lc uA nu uc (some ⟨gtA, 0, none⟩) nt tc (some ⟨gsA, 0, none⟩) ns sc :: fG gA ng gc gs :: fI lA nl lc cl :: fI uA nu uc cu :: fT (some ⟨gtA, 0, none⟩) nt tc ts :: fS (some ⟨gsA, 0, none⟩) ns sc rs :: (fR rs ++ (T)))) ?_ ?_
 ·
  refine Jb Z I ((Vs .n [31]) fun wd3 => (Vp [0, 4, 8, 13, 14, 21, 22]∘Vn 1∘Vf 2 6∘Vy 3 (v := vQ t.v) (h:=by exact Yl.qr rfl rfl kr (fun _ h => h.qw qi (i := 5) rfl (k := k) (off := 6) (x := t) (ht) rfl))∘Vn 5∘Vf 6 7∘Vy 7 (v := vW t.r) (h:=by exact Yl.qr rfl rfl kr (fun _ h => h.qw qi (i := 5) rfl (k := k) (off := 7) (x := t) (ht) rfl))∘Vn 9∘Vf 10 2∘Vy 11 (v := vI t.weight) (h:=by exact Yl.qr rfl rfl kr (fun _ h => h.qw qi (i := 5) rfl (k := k) (off := 2) (x := t) (ht) rfl))∘Vo (vI wt) (by rw [hwt])∘Vn 15∘Vf 16 3∘Vy 17 (v := vI t.cpu) (h:=by exact Yl.qr rfl rfl kr (fun _ h => h.qw qi (i := 5) rfl (k := k) (off := 3) (x := t) (ht) rfl))∘Vo (vI ct) (by rw [hct])∘Vy 18 (h:=by exact Yl.ix0 gy ct 3 rfl rfl rfl)∘Vf 19 2∘Vy 20 (v := vQ yz.floor) (h:=by exact Yl.qr rfl rfl kr (fun _ h => h.qdm 7 (j := 2) rfl om hy (hyz) rfl))∘Vy 23 (h:=by exact Yl.ix0 gy to 3 rfl rfl rfl)∘Vf 24 2∘Vy 25 (v := vQ z2.floor) (h:=by exact Yl.qr rfl rfl kr (fun _ h => h.qdm 7 (j := 2) rfl om hy (hz2) rfl))) fun a Z I HS => ?_)
  refine ze [12, 30] kr rfl ?_
  refine all_cons ?_ ?_
  ·refine q3 Z (i := 12) rfl rfl ?_
   refine e_is Z I [vQ t.v, vW t.r, vI wt] (.agg #[vQ t.v, vW t.r, vW wt]) rfl rfl (q4 t.v t.r (wt : Int) om _) fun w49 hbw I a Z => ?_
   refine keepS (I.pt 7 [0, 1, 2, 3, 4, 5, 6]) (fun HS => ?_)
   refine ze [26, 30] kr rfl ?_
   refine all_cons ?_ ?_
   ·refine q3 Z (i := 26) rfl rfl ?_
    refine e_is Z I [.agg #[vQ t.v, vW t.r, vW wt], vQ yz.floor, vQ z2.floor] (.tuple #[.agg e.cells, vI 0]) rfl rfl (qlp (⟨t.v, t.r, wt⟩ : En) e hEo yz.floor z2.floor hyf hzf hew _) fun w63 hbw I a Z => ?_
    refine keepS (I.pt 7 [0, 1, 2, 3, 4, 5, 6]) (fun HS => ?_)
    refine Vb Z I HS ((Vp [27]∘Vx 28∘Vx 29∘VA 30 .n #[vQ 0, vW 0, vW 0]) fun w9 g9 => fun a Z I HS => ?_)
    refine s_on Z 31 rfl (e_sa Z I 0 rfl rfl rfl rfl rfl qk rfl rfl (zu e) ?_)
    clear I; intro w3_31 I
    refine noS kr ?_
    refine ap Z (pastS kr) [32] (bt 33 []) [] fun a Z => ?_
    refine qc kr ?_
    exact ⟨g9, Z.sub kr, I.pt 8 [0, 1, 2, 3, 4, 5, 6, 7]⟩
   refine all_cons ?_ all_nil
   refine q3 Z (i := 30) rfl rfl ?_
   refine s_ea Z I #[vQ 0, vW 0, vW 0] ?_
   clear Z I; intro a w9 g9 Z I
   refine keepS (I.pt 8 [1, 2, 3, 4, 5, 6, 7]) (fun HS => ?_)
   refine Vb Z I HS ((VI 26 (.f .n) (h:=by exact fun I => qlp (⟨t.v, t.r, wt⟩ : En) e hEo yz.floor z2.floor hyf hzf hew _)) fun w63 hbw => (Vp [27]∘Vx 28∘Vx 29) fun a Z I HS => ?_)
   refine s_on Z 31 rfl (e_sa Z I 0 rfl rfl rfl rfl rfl qk rfl rfl (zu e) ?_)
   clear I; intro w3_31 I
   refine noS kr ?_
   refine ap Z (pastS kr) [32] (bt 33 []) [] fun a Z => ?_
   refine qc kr ?_
   exact ⟨g9, Z.sub kr, I.pt 8 [0, 1, 2, 3, 4, 5, 6, 7]⟩
  refine all_cons ?_ all_nil
  refine q3 Z (i := 30) rfl rfl ?_
  refine s_ea Z I #[vQ 0, vW 0, vW 0] ?_
  clear Z I; intro a w9 g9 Z I
  refine keepS (I.pt 8 [1, 2, 3, 4, 5, 6, 7]) (fun HS => ?_)
  refine Vb Z I HS ((VI 12 (.f .n) (h:=by exact fun I => q4 t.v t.r (wt : Int) om _)) fun w49 hbw => (VI 26 (.f .n) (h:=by exact fun I => qlp (⟨t.v, t.r, wt⟩ : En) e hEo yz.floor z2.floor hyf hzf hew _)) fun w63 hbw => (Vp [27]∘Vx 28∘Vx 29) fun a Z I HS => ?_)
  refine s_on Z 31 rfl (e_sa Z I 0 rfl rfl rfl rfl rfl qk rfl rfl (zu e) ?_)
  clear I; intro w3_31 I
  refine noS kr ?_
  refine ap Z (pastS kr) [32] (bt 33 []) [] fun a Z => ?_
  refine qc kr ?_
  exact ⟨g9, Z.sub kr, I.pt 8 [0, 1, 2, 3, 4, 5, 6, 7]⟩
 clear Z I; rintro a w3 ⟨g9, Z, I⟩
 refine Jb Z I ((JP∘Jp 1∘Jy (v := .agg e.cells) (h:=by exact Yl.loadS rfl rfl qk rfl (fun _ h => qb (h.blk (i := 0) rfl)))∘JO (h:=by exact fun I => qq7 t e O6' I ht hlt heo.1)) fun w68 => (Jt3∘Jr∘Jp 2∘Jn∘Jf 3) fun a Z I => ?_)
 refine fo Z 4 rfl rfl ?_
 refine qx Z I (i := 6) rfl rfl rfl rfl kr rfl rfl (by rw [qal tkL 8 qi, List.length_set]; omega) ?_
 clear I; intro w5_4 I
 replace I := I.asRow (i := 6) (ys := (ts.set k { t.put e with cpu := (to : Int) }).flatMap tkL) rfl ((qas tkL 8 qi (ts.set k (t.put e)) k (t.put e) { t.put e with cpu := (to : Int) } (qeo ht) 3 de _ rfl).trans (by rw [List.set_set]))
 refine Jb Z I ((Jt4∘Jr∘Jp 1∘Jn∘Jf 5∘Jy (v := .bool (({ t.put e with cpu := (to : Int) } : Tk).ready)) (h:=by exact Yl.qr rfl rfl kr (fun _ h => h.qw qi (i := 6) rfl (k := k) (off := 5) (x := ({ t.put e with cpu := (to : Int) } : Tk)) ((qeo ht)) rfl))∘Jo (.bool t.ready) (by exact rfl)∘Jd3∘Jj) (Ju (fun hb76 => ?_) fun hb76 => ?_))
 ·
  refine (JT∘JR∘Jp 3∘JL (h:=by exact fun I => qlo 2 I rfl (j := 1) rfl de (qj5 (ts' := ts.set k { t.put e with cpu := (to : Int) }) hlns (by rw [List.length_set]; exact hlt)) (hemm) (hemn) hgs hrg hsp hcr hcp2 (by show ((to : Nat) : Int) < cp; omega))) ?_
  rintro I _ w80 ⟨rs2, rfl, hl2, hsp2, hst2, HM2⟩
  refine ⟨_, rfl, _, (show Mem W w80 (.blk g9 e.cells 168 :: .row (.slice A24 em.length c24) em.length (em.map I64v) 3 1 :: fM gm cp cr gA ng gc lA nl lc uA nu uc (some ⟨gtA, 0, none⟩) nt tc (some ⟨gsA, 0, none⟩) ns sc :: fG gA ng gc gs :: fI lA nl lc cl :: fI uA nu uc cu :: fT (some ⟨gtA, 0, none⟩) nt tc (ts.set k { t.put e with cpu := (to : Int) }) :: fS (some ⟨gsA, 0, none⟩) ns sc rs2 :: (fR rs2 ++ (T))) from HM2), ?_⟩
  refine (Jt4∘Jq) fun a Z I => ?_
  exact norm0 rfl Z (qw5 (y := (⟨cp, cr, gA, gc, gs, lA, lc, cl, uA, uc, cu, some ⟨gtA, 0, none⟩, tc, (ts.set k { t.put e with cpu := (to : Int) }), some ⟨gsA, 0, none⟩, sc, rs2⟩ : Stm)) 2 I rfl (qq8 (qj5 hlns (by rw [List.length_set]; exact hlt)) hl2) (by rw [hmo, if_pos hb76]; exact hst2))
 refine (JF∘JS) fun a Z I => ?_
 exact norm0 rfl Z (qw5 (y := (⟨cp, cr, gA, gc, gs, lA, lc, cl, uA, uc, cu, some ⟨gtA, 0, none⟩, tc, (ts.set k { t.put e with cpu := (to : Int) }), some ⟨gsA, 0, none⟩, sc, rs⟩ : Stm)) 2 I rfl (qj5 hlns (by rw [List.length_set]; exact hlt)) (by rw [hmo, if_neg (nt' hb76)]))
theorem qxo {W w : World} {F T : List Fact} {x : Stm} {ng nl nu nt ns gm k to : Nat} {t : Tk} (n : Nat) (I : Mem W w F) (he : F.drop n = mdA gm x ng nl nu nt ns ++ T) (hx : MdOk x ng nl nu nt ns) (ht : x.ts[k]? = some t) (hto : (to : Int) < x.cpus) :
  Calls Tryz.prog 118 #[vP gm 0, vI k, vI to] w (fun r w' => ∃ y : Stm, r = .returned (.tuple #[]) ∧ y.sta = moveS x.sta k (to : Int) ∧ Mem W w' (F.take n ++ (mdB gm y ++ T))) :=
 (qt4 W w x gm k to t ng nl nu nt ns hx ht hto (F.take n ++ T) (I.front n he)).mono fun r w' ⟨y, h1, h2, h3⟩ => ⟨y, h1, h2, h3.back⟩
theorem qt5 (A : Option Addr) (c : Nat) (l : List Int) (v : Int) (w : World) (hr : Rd w w.heap.size 1 A l.length (l.map I64i)) (hn : l.length ≤ 1000000) :
    Calls Tryz.prog 146 #[.slice A l.length c, vI v] w (IdxIs w l v) := by
 refine (JN2 Tryz.func146 19) ?_
 refine (JP∘Jp 1∘Jj∘JQ∘JP∘Jp 1∘Jl∘Jp 1∘Jj∘JB) fun a Z I => ?_
 refine qe (fun mS aS wS => ∃ (k : Nat), (k ≤ l.length) ∧ (∀ i, i < k → l.getD i 0 ≠ v) ∧ mS = l.length - k ∧ Fr aS 19 [] [(8, vI k), (7, vI l.length), (4, vI 0), (0, .slice A l.length c), (1, vI v)] ∧ Mem w wS []) (m := l.length - 0) ⟨0, Nat.zero_le _, fun i h => by omega, rfl, Z.sub kr, I.pk []⟩ ?_
 clear Z I; rintro mS a w_ ⟨k, hk, hu, rfl, Z, I⟩
 refine Jb Z I ((JP∘Jp 1∘Jj∘JQ) (Ju (fun hb9 => ?_) fun hb9 => ?_))
 ·
  intro a Z I
  have hd9 := of_decide_eq_true hb9
  have hk9 : k < l.length := by omega
  refine Jb Z I ((JT∘JS'∘JQ∘JB∘JP∘Jp 2∘Jd1∘Jr∘Jp 3) ?_)
  repeat (first | clear Z | clear I)
  intro a Z I
  obtain ⟨gA, oA, rfl, _⟩ := hr.qt (Nat.lt_of_le_of_lt (Nat.zero_le _) (show k < l.length from by omega)) de
  refine Jb Z I ((Jy (h:=by exact Yl.ix gA oA k 1 rfl rfl rfl)∘Jy (h:=by exact Yl.o1 hr k 0 om rfl rfl)∘Jp 1∘Jd5∘Jj) (Je (fun hd16 => ?_) fun hd16 => ?_))
  ·
   exact (JT∘JP∘Jp 2∘Jd1∘Jj∘JZ∘Jz1) fun I => qt2 hk9 hd16.symm I.below
  refine (JF∘JS'∘JR∘JaK 1∘Jp 1∘Jd1∘Jq) fun a Z I => ?_
  exact ⟨_, om, k + 1, by omega, q5g hu (fun h => hd16 h.symm), rfl, Z.sub kr, I.pk []⟩
 intro a Z I
 have hd9 := of_decide_eq_false hb9
 exact Jb Z I ((JF∘JX∘JG∘JP∘Jp 1∘Jj∘JZ∘Jz1) fun I => qt3 (fun i hi => hu i om) I.below)
theorem qlr (A : Option Addr) (c : Nat) (l : List Int) (v : Int) (w : World) (hr : Rd w w.heap.size 1 A l.length (l.map I64i)) (hn : l.length ≤ 1000000) :
    Calls Tryz.prog 117 #[.slice A l.length c, vI v] w (Is w (.bool (decide (v ∈ l)))) := by
 refine (JN2 Tryz.func117 9) ?_
 refine (JP∘Jp 1∘Jr∘Jp 2∘JL (h:=by exact fun I => qt5 A c l v _ (I.old hr) hn)) ?_
 rintro I _ w7 ⟨⟨i, rfl, he⟩, hbw⟩
 refine ⟨_, rfl, _, I.call hbw, ?_⟩
 exact (Jp 2∘Jd4∘Jj∘JZ∘Jz1) fun I => is_as he I.below
theorem qpo {w : World} {A : Option Addr} {c n : Nat} {l : List Int} {v : Int} (hl : l.length = n) (hr : Rd w w.heap.size 1 A n (l.map I64i)) (hn : l.length ≤ 1000000) : Calls Tryz.prog 117 #[.slice A n c, vI v] w (Is w (.bool (decide (v ∈ l)))) := by
 subst hl
 exact qlr A c l v w hr hn
theorem qls (W w : World) (x : Stm) (gm : Nat) (ng nl nu nt ns : Nat) (hx : MdOk x ng nl nu nt ns) (o : Op30) (ho : o.Ok) (T : List Fact) (I : Mem W w (mdA gm x ng nl nu nt ns ++ T)) :
    Calls Tryz.prog 70 #[vP gm 0, .agg o.cells] w (OpIs W gm T (qbu x.sta o)) := by
 obtain ⟨cp, cr, gA, gc, gs, lA, lc, cl, uA, uc, cu, tA, tc, ts, sA, sc, rs⟩ := x
 replace I : Mem W w (fM gm cp cr gA ng gc lA nl lc uA nu uc tA nt tc sA ns sc :: fG gA ng gc gs :: fI lA nl lc cl :: fI uA nu uc cu :: fT tA nt tc ts :: fS sA ns sc rs :: (fR rs ++ (T))) := I
 obtain ⟨hlg, hll, hlu, hlt, hls⟩ := hx.ln
 replace hlg : gs.length = ng := hlg; replace hll : cl.length = nl := hll; replace hlu : cu.length = nu := hlu; replace hlt : ts.length = nt := hlt; replace hls : rs.length = ns := hls
 have hlns := hx.ln
 have hsp : SpsOk gs cp rs := hx.spots
 have hrg : rs.length = gs.length := hx.sh.rs
 have hcr : cr < 18446744073709551616 := hx.ok.credit
 obtain ⟨hcp1, hcp2, _, hgs⟩ := z9 hx.sh.cfg
 replace hcp1 : 1 ≤ cp := hcp1; replace hcp2 : cp ≤ 64 := hcp2; replace hgs : gsOk gs = true := hgs
 have hgl1 := (qo hgs).1; have hgl2 := (qo hgs).2.1
 have hcll : (cl.length : Int) = cp := hx.sh.cl; have hcul : (cu.length : Int) = cp := hx.sh.cu
 have hfts : ts.length ≤ 1000000 := hx.few.t
 have hoc := ho.cpu; have hot := ho.task; have hog := ho.group; have how := ho.weight; have hoto := ho.to; have hotk := ho.ticks; have hom := ho.mask; have hok8 := ho.kind; unfold I64 at hoc hot hog how hoto hotk
 obtain ⟨guA, rfl⟩ := qm (I.own (i := 3) rfl) om
 refine (Jin2 I Tryz.func70 67) ?_
 refine (JP∘JE) fun w3 g3 => (Jp 2∘Jj∘JQ∘JB∘JP∘Jp 1∘Jg 5 O0∘JI (h:=by exact fun I => qj4 1 I rfl hx o.to)) fun w11 hbw => (Jp 2∘Jd4∘Jj) (Ju (fun hb7 => ?_) fun hb7 => ?_)
 ·
  intro a Z I
  have hd7 := of_decide_eq_false ((Bool.not_eq_true' _).mp hb7)
  exact Jb Z I ((JT∘JP∘Jp 2∘Jj∘JZ∘Jz2) fun I => by exact qs (y := (⟨cp, cr, gA, gc, gs, lA, lc, cl, some ⟨guA, 0, none⟩, uc, cu, tA, tc, ts, sA, sc, rs⟩ : Stm)) 1 I rfl hlns (if_pos (decide_eq_false hd7)))
 intro a Z I
 have hd7 := of_decide_eq_true ((Bool.not_eq_false' _).mp hb7)
 replace hd7 : 0 ≤ o.to ∧ o.to < cp := hd7
 obtain ⟨c, hcc⟩ : ∃ n : Nat, o.to = (n : Int) := ⟨o.to.toNat, by omega⟩
 have hccp : ((c : Nat) : Int) < cp := by omega
 have hfcu : cu.length ≤ 1000000 := hx.few.u
 refine Jb Z I ((JF∘JP∘Jg 2 O0∘JI (h:=by exact fun I => qhc o.task _)) fun w16 hbw => (Jp 2∘Jd3∘Jj) (Ju (fun hb13 => ?_) fun hb13 => ?_))
 ·
  intro a Z I
  have hd13 := of_decide_eq_false ((Bool.not_eq_true' _).mp hb13)
  exact Jb Z I ((JT∘JP∘Jp 2∘Jj∘JZ∘Jz2) fun I => by exact qs (y := (⟨cp, cr, gA, gc, gs, lA, lc, cl, some ⟨guA, 0, none⟩, uc, cu, tA, tc, ts, sA, sc, rs⟩ : Stm)) 1 I rfl hlns ((if_neg (nf (decide_eq_true hd7))).trans (if_pos (decide_eq_false hd13))))
 intro a Z I
 have hd13 := of_decide_eq_true ((Bool.not_eq_false' _).mp hb13)
 refine Jb Z I ((JF∘JS'∘JP∘Jp 1∘Jg 2 O0∘JI (h:=by exact fun I => qft 1 I rfl hx o.task)) fun w21 hbw => (Jp 1∘Jd3∘Jj∘JQ∘JB∘JP∘Jp 3∘Jd2∘Jj) (Ju (fun hb22 => ?_) fun hb22 => ?_))
 ·
  intro a Z I
  have hd22 := of_decide_eq_true hb22
  exact Jb Z I ((JT∘JP∘Jp 2∘Jj∘JZ∘Jz2) fun I => by exact qs (y := (⟨cp, cr, gA, gc, gs, lA, lc, cl, some ⟨guA, 0, none⟩, uc, cu, tA, tc, ts, sA, sc, rs⟩ : Stm)) 1 I rfl hlns ((if_neg (nf (decide_eq_true hd7))).trans ((if_neg (nf (decide_eq_true hd13))).trans (if_pos (hd22)))))
 intro a Z I
 have hd22 := of_decide_eq_false hb22
 obtain ⟨k, t, hk, ht, hkl, hkid⟩ := qip hd22
 replace hk : fidx ts o.task = (k : Int) := hk; replace ht : ts[k]? = some t := ht; replace hkl : k < ts.length := hkl
 obtain ⟨htg, hto⟩ := hx.task ht
 have hti := htg.id; have htgr := htg.group; have htc := htg.cpu; have htw := htg.weight; have htv := hto.v; have htr := hto.r; have htm := hto.mask
 replace htc : 0 ≤ t.cpu ∧ t.cpu < cp := htc
 obtain ⟨gt, hgt⟩ : ∃ n : Nat, t.group = (n : Int) := ⟨t.group.toNat, by omega⟩
 obtain ⟨ct, hct⟩ : ∃ n : Nat, t.cpu = (n : Int) := ⟨t.cpu.toNat, by omega⟩
 obtain ⟨wt, hwt⟩ : ∃ n : Nat, t.weight = (n : Int) := ⟨t.weight.toNat, by omega⟩
 have hEo : (⟨t.v, t.r, wt⟩ : En).Ok := En.qjm htg.ent hwt htv
 revert I; revert a; repeat (first | clear Z | clear I)
 intro a Z I
 obtain ⟨gtA, rfl⟩ := qm (I.own (i := 5) rfl) (Nat.lt_of_le_of_lt (Nat.zero_le _) (show k < nt from (by omega : k < nt)))
 refine Jb Z I ((JF) fun a Z I => ?_)
 refine wp_seq ?_
 refine Jb Z I ((Vs .n []) fun wd8 => (Vp [0]∘Vf 5 2∘Vn 1∘Vf 2 0∘Vf 3 4∘Vc 4 O1∘Vc 6 O0∘VI 7 .n (h:=by exact fun I => qpo hlu (I.rd (i := 4) rfl) hfcu)) fun w33 hbw => (Vp [8]∘Vd∘Jd6) (Ji (fun hd25 => ?_) fun hd25 => ?_))
 ·
  exact (JT∘JP∘Jp 2∘Jj∘JZ∘Jz2) fun I => by exact qs (y := (⟨cp, cr, gA, gc, gs, lA, lc, cl, some ⟨guA, 0, none⟩, uc, cu, some ⟨gtA, 0, none⟩, tc, ts, sA, sc, rs⟩ : Stm)) 1 I rfl hlns ((if_neg (nf (decide_eq_true hd7))).trans ((if_neg (nf (decide_eq_true hd13))).trans ((if_neg (by show ¬ fidx ts o.task < 0; rw [hk]; omega)).trans (if_pos (hd25)))))
 refine (JF) fun a Z I => ?_
 refine wp_seq ?_
 refine Jb Z I ((Vs .n []) fun wd10 => (Vp [0]∘Vf 9 5∘Vn 1∘Vf 2 0∘Vf 3 5∘Vc 4 O1∘Vp [5]∘Vo (vI k) (by rw [hk])∘Vy 6 (h:=by exact Yl.ix0 gtA k 8 rfl rfl rfl)∘Vf 7 3∘Vy 8 (v := vI t.cpu) (h:=by exact Yl.qr rfl rfl kr (fun _ h => h.qw qi (i := 5) rfl (k := k) (off := 3) (x := t) (ht) rfl))∘Vc 10 O0∘Vp [11, 12]∘Vd∘Jd6) (Ju (fun hb34 => ?_) fun hb34 => ?_))
 ·
  intro a Z I
  have hd34 := eq_of_beq hb34
  exact Jb Z I ((JT∘JP∘Jp 2∘Jj∘JZ∘Jz2) fun I => by exact qs (y := (⟨cp, cr, gA, gc, gs, lA, lc, cl, some ⟨guA, 0, none⟩, uc, cu, some ⟨gtA, 0, none⟩, tc, ts, sA, sc, rs⟩ : Stm)) 1 I rfl hlns ((if_neg (nf (decide_eq_true hd7))).trans ((if_neg (nf (decide_eq_true hd13))).trans ((if_neg (by show ¬ fidx ts o.task < 0; rw [hk]; omega)).trans ((if_neg (hd25)).trans (if_pos (by rw [qcn (s := Stm.sta (⟨cp, cr, gA, gc, gs, lA, lc, cl, some ⟨guA, 0, none⟩, uc, cu, some ⟨gtA, 0, none⟩, tc, ts, sA, sc, rs⟩ : Stm)) hk ht]; exact hd34)))))))
 intro a Z I
 have hd34 := ne_of_beq_false hb34
 have hmb := Nat.div_le_self t.mask (2 ^ c)
 refine Jb Z I ((JF) fun a Z I => ?_)
 refine wp_seq ?_
 refine Jb Z I ((Vs .n []) fun wd12 => (Vp [0]∘Vf 9 5∘Vn 1∘Vf 2 0∘Vf 3 5∘Vc 4 O1∘Vp [5]∘Vo (vI k) (by rw [hk])∘Vy 6 (h:=by exact Yl.ix0 gtA k 8 rfl rfl rfl)∘Vf 7 4∘Vy 8 (v := vQ t.mask) (h:=by exact Yl.qr rfl rfl kr (fun _ h => h.qw qi (i := 5) rfl (k := k) (off := 4) (x := t) (ht) rfl))∘Vc 10 O0∘Vo (vI c) (by rw [hcc])∘Vy 11 (v := vQ (t.mask / 2 ^ c : Nat)) (h:=by exact Yl.shrN (m := t.mask) (n := c) rfl rfl rfl (by show _ ≤ 64; omega))∘Vp [12]∘Vo (vQ ((t.mask / 2 ^ c) % 2 : Nat)) (by exact qg9 (n := 1) (j := 1) rfl de om)∘Vp [13, 14]∘Vd∘Jd6) (Je (fun hd47 => ?_) fun hd47 => ?_))
 ·
  exact (JT∘JP∘Jp 2∘Jj∘JZ∘Jz2) fun I => by exact qs (y := (⟨cp, cr, gA, gc, gs, lA, lc, cl, some ⟨guA, 0, none⟩, uc, cu, some ⟨gtA, 0, none⟩, tc, ts, sA, sc, rs⟩ : Stm)) 1 I rfl hlns ((if_neg (nf (decide_eq_true hd7))).trans ((if_neg (nf (decide_eq_true hd13))).trans ((if_neg (by show ¬ fidx ts o.task < 0; rw [hk]; omega)).trans ((if_neg (hd25)).trans ((if_neg (by rw [qcn (s := Stm.sta (⟨cp, cr, gA, gc, gs, lA, lc, cl, some ⟨guA, 0, none⟩, uc, cu, some ⟨gtA, 0, none⟩, tc, ts, sA, sc, rs⟩ : Stm)) hk ht]; exact hd34)).trans (if_pos (q3r (by rw [qcn (s := Stm.sta (⟨cp, cr, gA, gc, gs, lA, lc, cl, some ⟨guA, 0, none⟩, uc, cu, some ⟨gtA, 0, none⟩, tc, ts, sA, sc, rs⟩ : Stm)) hk ht]) hcc om)))))))
 refine (JF∘JS'∘JP∘Jp 2∘Jo (vI k) (by rw [hk])∘Jf 5∘Jc O0∘Jo (vI c) (by rw [hcc])∘JL (h:=by exact fun I => qxo 1 I rfl hx ht hccp)) ?_
 rintro I _ w66 ⟨y, rfl, hys, HM2⟩
 refine ⟨_, rfl, _, (show Mem W w66 (.blk g3 o.cells 98 :: (mdB gm y ++ (T))) from HM2), ?_⟩
 exact (Jt5∘Jr∘Jp 2∘Jj∘JZ∘Jz2) fun I => by exact q3o 1 I rfl ((qpj (x := (⟨cp, cr, gA, gc, gs, lA, lc, cl, some ⟨guA, 0, none⟩, uc, cu, some ⟨gtA, 0, none⟩, tc, ts, sA, sc, rs⟩ : Stm)) (decide_eq_true hd7) (decide_eq_true hd13) hk ht hd25 hd34 (qpn hcc om)).trans (by rw [hys, hcc]))
end Go.Proofs.YtcajpeiobkcliaaGreatDoor
