/- Parts. -/
import Derived.Test.YtfeheccoijnbaaaGreatDoorQvBlkR
import Derived.Test.YtfeheccoijnbaaaGreatDoorQvDoorE
import Derived.Test.YtfeheccoijnbaaaGreatDoorQvCrcP
import Derived.Test.YtfeheccoijnbaaaGreatDoorQvVarint
import Derived.Test.YtfeheccoijnbaaaGreatDoorQvCheck
import Derived.Test.YtfeheccoijnbaaaGreatDoorQvRef06f
import Derived.Test.YtfeheccoijnbaaaGreatDoorQvRWith
import Derived.Test.YtfeheccoijnbaaaGreatDoorQvRef01
import Derived.Test.YtfeheccoijnbaaaGreatDoorQvZ1
set_option linter.all false
set_option maxRecDepth 100000
set_option maxHeartbeats 8000000
namespace Go.Proofs.YtfeheccoijnbaaaGreatDoor
open Go.RowKit
theorem qwi {l : List Nat} (hl : ∀ x ∈ l, x < 256) (h : 4 ≤ l.length) : le4 (num4 (l.drop (l.length - 4))) = l.drop (l.length - 4) := by
 have h1 : (l.drop (l.length - 4)).length = 4 := by rw [List.length_drop]; omega
 rw [qpg (qbm hl _) (by omega), List.take_of_length_le (by omega)]
theorem qyi {l : List Nat} (hl : ∀ x ∈ l, x < 256) (h : qca l = true) : sealL (l.take (l.length - 4)) = l := by
 unfold qca at h
 rw [decide_eq_true_eq] at h
 unfold sealL
 rw [h.2, qwi hl h.1, List.take_append_drop]
theorem qtl {l : List Nat} {b : Bk} {m er : Nat} (h : readB l = (b, m, er)) (he : er ≠ 0) : b = Bk.zero ∧ m = 0 := by
 unfold readB at h
 split at h
 ·simp only [Prod.mk.injEq] at h; exact ⟨h.1.symm, h.2.1.symm⟩
 ·split at h
  ·simp only [Prod.mk.injEq] at h; exact absurd h.2.2.symm he
  ·simp only [Prod.mk.injEq] at h; exact ⟨h.1.symm, h.2.1.symm⟩
theorem qtm {l : List Nat} (h : (blkOf l).1 = none) : (blkOf l).2 ≠ 0 := by
 unfold blkOf at h ⊢
 split
 ·decide
 ·rename_i h1
  rw [if_neg h1] at h
  split
  ·decide
  ·rename_i h2
   rw [if_neg h2] at h
   split
   ·decide
   ·rename_i h3
    rw [if_neg h3] at h
    split
    ·decide
    ·rename_i h4
     rw [if_neg h4] at h
     split
     ·decide
     ·rename_i b hb
      rw [hb] at h
      cases h
structure OneForm (l : List Nat) (b : Bk) (m : Nat) : Prop where
 ok : b.Ok
 fits : b.fits = true
 err : b.err = 0
 out : b.out = l.take m
 len : m ≤ l.length
 evs : b.evs.length ≤ 4096
 least : 13 ≤ m
 most : m ≤ 4096
theorem qkx {l : List Nat} {b : Bk} {m : Nat} (hl : ∀ x ∈ l, x < 256) (h : readB l = (b, m, 0)) : OneForm l b m := by
 unfold readB at h
 split at h
 ·rename_i h0; simp only [Prod.mk.injEq] at h; exact absurd h.2.2 h0
 ·rename_i h0
  obtain ⟨h1, h2, h3, h4⟩ := qti (show (lenR l).2 = 0 by omega)
  split at h
  ·rename_i b' hb
   simp only [Prod.mk.injEq] at h
   obtain ⟨rfl, rfl, _⟩ := h
   generalize (lenR l).1 = n at h1 h2 h3 h4 hb
   have hL : ∀ x ∈ l.take n, x < 256 := qbl hl n
   have hlen : (l.take n).length = n := by rw [List.length_take]; omega
   have hnum : num4 (l.take n) = n := by rw [qtj (by omega)]; exact h1
   obtain ⟨L, hLe⟩ : ∃ L, L = l.take n := ⟨_, rfl⟩
   rw [← hLe] at hb hL hlen hnum
   unfold blkOf at hb
   split at hb
   ·cases hb
   ·rename_i s1
    split at hb
    ·cases hb
    ·rename_i s2
     split at hb
     ·cases hb
     ·rename_i s3
      split at hb
      ·cases hb
      ·rename_i s4
       split at hb
       ·cases hb
       ·rename_i b'' hp
        injection hb with hb
        subst hb
        have hk : L.getD 7 0 = 1 ∨ L.getD 7 0 = 2 := by omega
        have s2 : L.getD 4 0 = 113 ∧ L.getD 5 0 = 116 := Decidable.of_not_not s2
        obtain ⟨q1, q2, q3, q4, q5⟩ := qqr hk (qbm (qbl hL _) _) hp
        have herr : b''.err = 0 := by
         unfold Bk.err
         rw [if_neg (by simp [q3]), if_neg (by rw [q4, List.length_drop, List.length_take]; omega)]
        refine ⟨q2, q3, herr, ?_, h4, q5, h2, h3⟩
        rw [← hLe, qte herr, qwh hL (by omega) (by omega) s2.1 s2.2 (by omega) q1.symm q4]
        exact qyi hL (by simpa using s1)
  ·rename_i hb
   simp only [Prod.mk.injEq] at h
   exact absurd h.2.2 (qtm hb)
theorem qwj {b : Bk} (h : b.err = 0) : b.fits = true ∧ 12 + b.body.length ≤ 4096 := by
 unfold Bk.err at h
 split at h
 ·cases h
 ·rename_i h1
  split at h
  ·cases h
  ·rename_i h2
   exact ⟨by simpa using h1, by omega⟩
structure Hb where
 b : Bk
 A : Option Addr
 c : Nat
def Hb.zero : Hb := ⟨Bk.zero, none, 0⟩
def hbL (h : Hb) : List Value := (h.b.cells h.A h.c).toList
theorem qcb (h : Hb) : (hbL h).length = 5 := rfl
def Hb.own (h : Hb) : Own := ⟨h.A, h.b.evs.length, h.c, h.b.evs.flatMap evL⟩
def hbF (t : TypeId) (q : List Hb) : List Fact := ownsF t 11 (q.map Hb.own)
def HbRd (w : World) (q : List Hb) : Prop := ∀ h ∈ q, Rd w w.heap.size 11 h.A h.b.evs.length (h.b.evs.flatMap evL)
section
variable {W w w' : World} {fs gs a b : List Fact} {t bt : TypeId} {q : List Hb}
theorem qwe (h : Hb) : hbF t (q ++ [h]) = hbF t q ++ [.row (.slice h.A h.b.evs.length h.c) h.b.evs.length (h.b.evs.flatMap evL) t 11] := by
 unfold hbF ownsF
 rw [List.map_append, List.map_append]
 rfl
theorem qyh {h : Hb} (hq : h ∈ q) : Fact.row (.slice h.A h.b.evs.length h.c) h.b.evs.length (h.b.evs.flatMap evL) t 11 ∈ hbF t q := List.mem_map_of_mem (List.mem_map_of_mem hq)
theorem Mem.hbRd (h : Mem W w fs) (hs : ∀ f ∈ hbF t q, f ∈ fs) : HbRd w q := fun _ hx => h.q0j (hs _ (qyh hx))
theorem HbRd.old (h : HbRd W q) (HM : Mem W w fs) : HbRd w q := fun x hx => HM.old (h x hx)
theorem HbRd.at {k : Nat} (h : HbRd w q) (hk : k < q.length) : Rd w w.heap.size 11 (q.getD k Hb.zero).A (q.getD k Hb.zero).b.evs.length ((q.getD k Hb.zero).b.evs.flatMap evL) := by
 refine h _ ?_
 rw [List.getD_eq_getElem?_getD, List.getElem?_eq_getElem hk]
 exact List.getElem_mem hk
theorem Mem.toHb {x : Bk} {A : Option Addr} {c : Nat} (h : Mem W w (.row (.slice A x.evs.length c) x.evs.length (x.evs.flatMap evL) t 11 :: (a ++ (hbF t q ++ b)))) : Mem W w (a ++ (hbF t (q ++ [⟨x, A, c⟩]) ++ b)) := by
 refine h.perm ?_
 rw [qwe]
 have h1 : (Fact.row (.slice A x.evs.length c) x.evs.length (x.evs.flatMap evL) t 11 :: (a ++ (hbF t q ++ b))).Perm (a ++ Fact.row (.slice A x.evs.length c) x.evs.length (x.evs.flatMap evL) t 11 :: (hbF t q ++ b)) := (List.perm_middle).symm
 refine h1.trans (List.Perm.append_left a ?_)
 rw [List.append_assoc]
 exact (List.perm_middle (l₁ := hbF t q) (l₂ := b)).symm
theorem Mem.q0c {f : Fact} (h : Mem W w (a ++ b)) (k : Mem w w' (f :: hbF t q)) : Mem W w' (f :: (a ++ (hbF t q ++ b))) := by
 refine (h.join k).perm (List.Perm.cons f ?_)
 show (hbF t q ++ (a ++ b)).Perm _
 rw [← List.append_assoc, ← List.append_assoc]
 exact List.Perm.append_right b List.perm_append_comm
end
theorem hb_eq {q q2 : List Hb} {k : Nat} (h : q.map Hb.b = q2.map Hb.b) (hk : k < q.length) : (q.getD k Hb.zero).b = (q2.getD k Hb.zero).b := by
 have hl : q.length = q2.length := by have h := congrArg List.length h; rwa [List.length_map, List.length_map] at h
 have h1 := congrArg (·[k]?) h
 simp only [List.getElem?_map] at h1
 rw [List.getElem?_eq_getElem hk, List.getElem?_eq_getElem (by omega)] at h1
 rw [List.getD_eq_getElem?_getD, List.getD_eq_getElem?_getD, List.getElem?_eq_getElem hk, List.getElem?_eq_getElem (by omega)]
 injection h1
def qh0 (t bt : TypeId) (w : World) (er : Nat) (bs : List Bk) : Ending → World → Prop := fun r w' => ∃ A c q, r = .returned (.tuple #[.slice A bs.length c, .int .i64 (er : Int)]) ∧ q.map Hb.b = bs ∧ bs.length ≤ c ∧ Mem w w' (.row (.slice A bs.length c) bs.length (q.flatMap hbL) bt 5 :: hbF t q)
section
variable {W w : World} {fs a : List Fact} {t bt : TypeId} {q : List Hb}
theorem Mem.only (h : Mem W w fs) {f : Fact} (hf : f ∈ fs) : Mem W w [f] := ⟨h.below, fun k hk => by rw [List.mem_singleton] at hk; subst hk; exact h.holds k hf, List.pairwise_singleton _ _⟩
theorem Mem.qy5 {x : Bk} {A : Option Addr} {c : Nat} (h : Mem W w (.row (.slice A x.evs.length c) x.evs.length (x.evs.flatMap evL) t 11 :: fs)) (hfs : fs = a ++ hbF t q) : Mem W w (a ++ hbF t (q ++ [⟨x, A, c⟩])) := by
 subst hfs
 have h1 := Mem.toHb (b := []) (by rwa [List.append_nil])
 rwa [List.append_nil] at h1
theorem qb0 {er : Nat} {n : Int} (h : Mem W w fs) (he : n = er) : qh0 t bt W er [] (.returned (.tuple #[.slice none 0 0, .int .i64 n])) w := by
 subst he
 exact ⟨none, 0, [], rfl, rfl, Nat.le_refl _, Mem.nil ⟨h.below, fun f hf => absurd hf List.not_mem_nil, .nil⟩ _ _⟩
theorem qwf {cpu : Nat} {opn : Int} (h : Mem W w fs) {i g : Nat} (hi : fs[i]? = some (.blk g #[.int .u8 1, .int .u8 (cpu : Int), .int .i64 opn, .int .i64 0, .slice none 0 0] bt)) : qh0 t bt W 0 [⟨1, cpu, opn, 0, []⟩] (.returned (.tuple #[.slice (some ⟨g, 0, none⟩) 1 1, .int .i64 0])) w := by
 refine ⟨some ⟨g, 0, none⟩, 1, [⟨⟨1, cpu, opn, 0, []⟩, none, 0⟩], rfl, rfl, Nat.le_refl _, ?_⟩
 have h1 := (h.only (List.mem_of_getElem? hi)).blkRow (i := 0) (n := 1) (size := 5) rfl rfl (by decide)
 exact (h1.nil t 11).perm (List.Perm.swap _ _ _)
theorem qn9 {A : Option Addr} {c : Nat} (h : Mem W w (.row (.slice A q.length c) q.length (q.flatMap hbL) bt 5 :: hbF t q)) (hc : q.length ≤ c) : qh0 t bt W 0 (q.map Hb.b) (.returned (.tuple #[.slice A q.length c, .int .i64 0])) w :=
 ⟨A, c, q, by rw [List.length_map]; rfl, rfl, by rwa [List.length_map], by rwa [List.length_map]⟩
end
theorem qjl (b : Bk) (hok : b.Ok) (A : Option Addr) (c B : Nat) (w : World) (hL : LaidX B w) (hB : B ≤ w.heap.size) (hr : Rd w w.heap.size 11 A b.evs.length (b.evs.flatMap evL)) (hn : b.evs.length ≤ 1000000) :
    Calls Tryz.prog 54 #[.agg (b.cells A c)] w (qah w b.err b.out) := by
 refine qg (vs := [.agg (b.cells A c)]) Tryz.func54 rfl rfl (by kernel_rfl) (σ0 := [(0, .agg (b.cells A c))]) rfl ?_
 intro a HF
 have HM := Mem.start w
 refine wp_seq (qa ?_)
 refine fo HF 0 rfl rfl ?_
 refine e_box HF HM (cs := (b.cells A c)) rfl rfl rfl rfl (by decide) ?_
 clear HF HM; intro a w1 g1 HF HM
 refine fp HF 2 1 [(3, vI 0), (2, .slice none 0 0)] fun a HF => ?_
 refine qb rfl (wp_seq (wp_seq (qa ?_)))
 refine fy HF HM 0 rfl rfl rfl (v := .agg (b.cells A c)) (Yl.zc rfl rfl si_bk rfl (fun _ h => qf (h.blk (i := 0) rfl))) fun a HF => ?_
 refine fo HF 1 rfl rfl ?_
 refine e_is HF HM [.agg (b.cells A c)] (.bool b.fits) rfl rfl (qeh b hok A c B _ (hL.mem HM hB) (HM.le hB) (HM.old hr) hn) fun w8 hbw HM a HF => ?_
 refine fp HF 1 2 [(9, .bool (!b.fits))] fun a HF => ?_
 refine qb rfl ?_
 rcases HF.tf 9 rfl with ⟨hb9, HF⟩ | ⟨hb9, HF⟩
 ·
  have hfit : b.fits = false := by simpa using hb9
  refine qe HF rfl (wp_seq (qa ?_))
  refine fp HF 2 0 [(3, vI 107), (2, .slice none 0 0)] fun a HF => ?_
  refine qb rfl (wp_ret ?_)
  exact ret2 rfl HF (.tmp HF rfl) (.tmp HF rfl) (qtd (by unfold Bk.err; rw [if_pos hfit]) (by decide) HM.below)
 have hfit : b.fits = true := by simpa using hb9
 have hbl := qbt b
 refine qd HF rfl (wp_skip (wp_seq (qa ?_)))
 refine fy HF HM 0 rfl rfl rfl (v := .agg (b.cells A c)) (Yl.zc rfl rfl si_bk rfl (fun _ h => qf (h.blk (i := 0) rfl))) fun a HF => ?_
 refine fo HF 1 rfl rfl ?_
 refine e_cl HF [.agg (b.cells A c)] rfl rfl (qwc b hok A c B _ (hL.mem HM hB) (HM.le hB) (HM.old hr) hn hfit) ?_
 rintro _ w11 ⟨⟨A11, c11, rfl, ho, hc11⟩, hbw⟩
 refine ⟨_, rfl, ?_⟩
 replace HM := HM.callRow hbw ho
 clear HF; intro a HF
 refine fp HF 1 2 [(4, .slice A11 ((b.body).length) c11)] fun a HF => ?_
 refine qb rfl (wp_seq (qa ?_))
 refine fp HF 1 0 [(12, .slice A11 ((b.body).length) c11)] fun a HF => ?_
 refine fy HF HM 1 rfl rfl rfl (Yl.len rfl rfl (by kernel_rfl)) fun a HF => ?_
 refine fp HF 1 2 [(14, vI (IntKind.i64.wrap (8 + (((b.body).length : Nat) : Int))))] fun a HF => ?_
 replace HF := HF.sp 14 (vI (8 + ((b.body).length) : Nat)) rfl (qi (by omega) (by omega))
 refine fp HF 1 3 [(15, vI (IntKind.i64.wrap (((8 + ((b.body).length) : Nat) : Int) + 4)))] fun a HF => ?_
 replace HF := HF.sp 15 (vI (8 + ((b.body).length) + 4 : Nat)) rfl (qi (by omega) (by omega))
 refine fp HF 1 4 [(5, vI (8 + ((b.body).length) + 4 : Nat))] fun a HF => ?_
 refine qb rfl (wp_seq (wp_seq (qa ?_)))
 refine fp HF 2 0 [(17, .bool (decide (((8 + ((b.body).length) + 4 : Nat) : Int) > (4096 : Int))))] fun a HF => ?_
 refine qb rfl ?_
 rcases HF.tf 17 rfl with ⟨hb17, HF⟩ | ⟨hb17, HF⟩
 ·
  have hd17 := of_decide_eq_true hb17
  refine qe HF rfl (wp_seq (qa ?_))
  refine fp HF 2 0 [(3, vI 3), (2, .slice none 0 0)] fun a HF => ?_
  refine qb rfl (wp_ret ?_)
  exact ret2 rfl HF (.tmp HF rfl) (.tmp HF rfl) (qtd (by unfold Bk.err; rw [if_neg (by simp [hfit]), if_pos (by omega)]) (by decide) HM.below)
 have hd17 := of_decide_eq_false hb17
 refine qd HF rfl (wp_skip (wp_seq (qa ?_)))
 refine fp HF 2 0 [(19, vB (IntKind.u8.wrap ((8 + ((b.body).length) + 4 : Nat) : Int)))] fun a HF => ?_
 replace HF := HF.sp 19 (vB ((8 + ((b.body).length) + 4) % 256 : Nat)) rfl (qbi (8 + ((b.body).length) + 4))
 refine fp HF 2 2 [(21, vI (Int.fdiv ((8 + ((b.body).length) + 4 : Nat) : Int) (2 ^ (min (8 : Int).toNat (IntKind.i64).bits))))] fun a HF => ?_
 replace HF := HF.sp 21 (vI ((8 + ((b.body).length) + 4) / 256 : Nat)) rfl (qdm .i64 (8 + ((b.body).length) + 4) (j := 8) (q := 256) rfl rfl)
 refine fp HF 1 4 [(22, vB (IntKind.u8.wrap (((8 + ((b.body).length) + 4) / 256 : Nat) : Int)))] fun a HF => ?_
 replace HF := HF.sp 22 (vB (((8 + ((b.body).length) + 4) / 256) % 256 : Nat)) rfl (qbi ((8 + ((b.body).length) + 4) / 256))
 refine fy HF HM 5 rfl rfl rfl (v := vP 0 0) (Yl.qep (ad := ⟨0, 0, none⟩) (m := 2) (y := 0) (sz := 1) rfl rfl rfl (by kernel_rfl) (by decide)) fun a HF => ?_
 refine fy HF HM 6 rfl rfl rfl (v := vB 113) (Yl.qh rfl rfl (by kernel_rfl) (fun _ h => (hL.mem h hB).magic0)) fun a HF => ?_
 refine fy HF HM 7 rfl rfl rfl (v := vP 0 1) (Yl.qep (ad := ⟨0, 0, none⟩) (m := 2) (y := 1) (sz := 1) rfl rfl rfl (by kernel_rfl) (by decide)) fun a HF => ?_
 refine fy HF HM 8 rfl rfl rfl (v := vB 116) (Yl.qh rfl rfl (by kernel_rfl) (fun _ h => (hL.mem h hB).magic1)) fun a HF => ?_
 refine fp HF 1 9 [(27, vP g1 0)] fun a HF => ?_
 refine fy HF HM 10 rfl rfl rfl (v := vB b.kind) (Yl.qh rfl rfl (by kernel_rfl) (fun _ h => h.cell (i := 1) rfl (rfl))) fun a HF => ?_
 refine fo HF 11 rfl rfl ?_
 refine ze HF HM (vs := [(0, vB ((8 + ((b.body).length) + 4) % 256 : Nat)), (1, vB (((8 + ((b.body).length) + 4) / 256) % 256 : Nat)), (2, vB 0), (3, vB 0), (4, vB 113), (5, vB 116), (6, vB 1), (7, vB b.kind)]) (cs := #[vB ((8 + ((b.body).length) + 4) % 256 : Nat), vB (((8 + ((b.body).length) + 4) / 256) % 256 : Nat), vB 0, vB 0, vB 113, vB 116, vB 1, vB b.kind]) rfl ei_u8 (by decide) rfl (by kernel_rfl) rfl (by decide) ?_
 clear HF HM; intro a w29 g29 HF HM
 refine fp HF 1 12 [(6, vS g29 8 8)] fun a HF => ?_
 refine qb rfl (wp_seq (qa ?_))
 refine fp HF 2 0 [(31, .slice A11 ((b.body).length) c11), (30, vS g29 8 8)] fun a HF => ?_
 refine fo HF 2 rfl rfl ?_
 replace HM := HM.blkRow (i := 0) (n := 8) (size := 1) rfl rfl (by decide)
 refine qu HF HM (i := 0) rfl ei_u8 rfl rfl rfl (news := (b.body.map B8)) (HM.rd (i := 1) rfl) (qa2 _) (by omega) (by omega) rfl (by decide) ?_
 clear HF HM; intro a w32 A32 c32 HF HM hc32
 rw [show ((#[vB ((8 + ((b.body).length) + 4) % 256 : Nat), vB (((8 + ((b.body).length) + 4) / 256) % 256 : Nat), vB 0, vB 0, vB 113, vB 116, vB 1, vB b.kind]).toList) ++ (b.body.map B8) = b.raw.map B8 from qtb (by omega)] at HM
 refine fo HF 3 rfl rfl ?_
 refine e_cl HF [.slice A32 (8 + (b.body).length) c32] rfl rfl (qwb _ _ _ b.raw B _ (hL.mem HM hB) (HM.le hB) (HM.rd (i := 0) rfl) (qcj b) (by omega) (qxl hok)) ?_
 rintro _ w33 ⟨⟨A33, c33, rfl, ho, hc33⟩, hbw⟩
 refine ⟨_, rfl, ?_⟩
 replace HM := HM.callRow hbw ho
 clear HF; intro a HF
 refine fp HF 4 4 [(3, vI 0), (2, .slice A33 ((sealL b.raw).length) c33)] fun a HF => ?_
 refine qb rfl (wp_ret ?_)
 replace HM := HM.picks (fs' := [.row (.slice A33 ((sealL b.raw).length) c33) ((sealL b.raw).length) ((sealL b.raw).map B8) 5 1, .row (.slice A11 ((b.body).length) c11) ((b.body).length) (b.body.map B8) 5 1, .blk g1 (b.cells A c) 27]) [0, 2, 3] (by decide) rfl
 have herr : b.err = 0 := by unfold Bk.err; rw [if_neg (by simp [hfit]), if_neg (by omega)]
 exact ret2 rfl HF (.tmp HF rfl) (.tmp HF rfl) ((by rw [herr, qte herr]; exact ⟨⟨_, _, rfl, HM.own (i := 0) rfl, hc33⟩, HM.below⟩))
theorem qq0 (b : Bk) (hok : b.Ok) (A : Option Addr) (c B : Nat) (w : World) (hL : LaidX B w) (hB : B ≤ w.heap.size) (hr : Rd w w.heap.size 11 A b.evs.length (b.evs.flatMap evL)) (hn : b.evs.length ≤ 1000000) :
    Calls Tryz.prog 48 #[.agg (b.cells A c)] w (Is w (.int .i64 (b.err : Int))) := by
 refine qg (vs := [.agg (b.cells A c)]) Tryz.func48 rfl rfl (by kernel_rfl) (σ0 := [(0, .agg (b.cells A c))]) rfl ?_
 intro a HF
 have HM := Mem.start w
 refine wp_seq (qa ?_)
 refine fo HF 0 rfl rfl ?_
 refine e_box HF HM (cs := (b.cells A c)) rfl rfl rfl rfl (by decide) ?_
 clear HF HM; intro a w1 g1 HF HM
 refine fp HF 1 1 [(2, vI 0)] fun a HF => ?_
 refine qb rfl (wp_seq (qa ?_))
 refine fy HF HM 0 rfl rfl rfl (v := .agg (b.cells A c)) (Yl.zc rfl rfl si_bk rfl (fun _ h => qf (h.blk (i := 0) rfl))) fun a HF => ?_
 refine fo HF 1 rfl rfl ?_
 refine e_cl HF [.agg (b.cells A c)] rfl rfl (qjl b hok A c B _ (hL.mem HM hB) (HM.le hB) (HM.old hr) hn) ?_
 rintro _ w7 ⟨⟨A7, c7, rfl, ho, hc7⟩, hbw⟩
 refine ⟨_, rfl, ?_⟩
 replace HM := HM.callRow hbw ho
 clear HF; intro a HF
 refine fp HF 5 2 [(4, vI b.err)] fun a HF => ?_
 refine qb rfl (wp_seq (qa ?_))
 refine fp HF 2 0 [(2, vI b.err)] fun a HF => ?_
 refine qb rfl (wp_ret ?_)
 replace HM := HM.picks (fs' := []) [] (by decide) rfl
 exact ret1 rfl HF (.tmp HF rfl) (⟨rfl, HM.below⟩)
theorem qdb (W w : World) (gb gk : Nat) (A : Option Addr) (n c : Nat) (l : List Nat) (okb : Bool) (most : Nat) (fr : List Fact) (hl : ∀ b ∈ l, b < 256) (hln : n = l.length) (hn : n ≤ 1000000000) (hr0 : Rd W W.heap.size 1 A n (l.map B8)) (hc0 : n ≤ c) (hmost : most ≤ 281474976710657)
    (HM : Mem W w (.blk gb #[.slice A n c] 34 :: .blk gk #[.bool okb] 4 :: fr)) :
    Calls Tryz.prog 93 #[.int .i64 (most : Int), .pointer (some ⟨gb, 0, none⟩), .pointer (some ⟨gk, 0, none⟩)] w (qxm W gb gk l okb most fr) := by
 have hr : Rd W W.heap.size 1 A l.length (l.map B8) := hln ▸ hr0
 have hc : l.length ≤ c := hln ▸ hc0
 refine qg (vs := [vI most, vP gb 0, vP gk 0]) Tryz.func93 rfl rfl (by kernel_rfl) (σ0 := [(0, vI most), (1, vP gb 0), (2, vP gk 0)]) rfl ?_
 intro a HF
 refine wp_seq (qa ?_)
 refine fp HF 1 0 [(4, vI 0)] fun a HF => ?_
 refine qb rfl ?_
 have hvl := qc1 l
 have hvb := qex l hl
 have htv := qdp most l
 refine wp_seq (qa ?_)
 refine fy HF HM 0 rfl rfl rfl (Yl.qh rfl rfl (by kernel_rfl) (fun _ h => h.cell (i := 0) rfl rfl)) fun a HF => ?_
 refine fo HF 1 rfl rfl ?_
 refine e_cl HF [.slice A n c] rfl rfl (qo0 A n c l _ (hln ▸ HM.old hr) hl (by omega)) ?_
 rintro _ w10 ⟨rfl, hbw⟩
 refine ⟨_, rfl, ?_⟩
 replace HM := HM.call hbw
 clear HF; intro a HF
 refine fp HF 7 2 [(7, vI ((vread l).2.2)), (6, vI ((vread l).2.1)), (5, vQ ((vread l).1))] fun a HF => ?_
 refine qb rfl (wp_seq (qa ?_))
 refine fy HF HM 0 rfl rfl rfl (Yl.qh rfl rfl (by kernel_rfl) (fun _ h => h.cell (i := 1) rfl rfl)) fun a HF => ?_
 refine fp HF 1 1 [(15, .bool okb)] fun a HF => ?_
 rcases HF.tf 15 rfl with ⟨hb15, HF⟩ | ⟨hb15, HF⟩
 ·
  refine fp HF 4 2 [(19, .bool (((vread l).2.2 : Int) == (0 : Int)))] fun a HF => ?_
  rcases HF.tf 19 rfl with ⟨hb19, HF⟩ | ⟨hb19, HF⟩
  ·
   have hd19 := eq_of_beq hb19
   refine fp HF 3 6 [(22, vQ (IntKind.u64.wrap (most : Int))), (20, vQ ((vread l).1))] fun a HF => ?_
   replace HF := HF.sp 22 (vQ most) rfl (qaj rfl (by omega))
   refine fp HF 2 9 [(24, .bool (decide (((vread l).1 : Int) ≤ (most : Int))))] fun a HF => ?_
   refine fo HF 11 rfl rfl ?_
   refine zd HF HM (i := 1) rfl rfl rfl rfl (by kernel_rfl) rfl rfl (by simp) ?_
   clear HM; intro w2_11 HM
   refine qb rfl (wp_seq (qa ?_))
   refine fy HF HM 0 rfl rfl rfl (Yl.qh rfl rfl (by kernel_rfl) (fun _ h => h.cell (i := 0) rfl rfl)) fun a HF => ?_
   refine fp HF 1 1 [(26, vI ((vread l).2.1))] fun a HF => ?_
   refine fy HF HM 2 rfl rfl rfl (v := .slice (if c = (vread l).2.1 then A else A.map (·.add ((vread l).2.1 * 1))) (n - (vread l).2.1) (c - (vread l).2.1)) (Yl.sliceFrom ei_u8 (j := (vread l).2.1) rfl rfl rfl (by omega)) fun a HF => ?_
   refine fo HF 3 rfl rfl ?_
   refine zd HF HM (i := 0) rfl rfl rfl rfl (by kernel_rfl) rfl rfl (by simp) ?_
   clear HM; intro w3_3 HM
   refine qb rfl (wp_seq (qa ?_))
   refine fp HF 3 0 [(30, vQ (IntKind.u64.wrap (most : Int))), (28, vQ ((vread l).1))] fun a HF => ?_
   replace HF := HF.sp 30 (vQ most) rfl (qaj rfl (by omega))
   refine fy HF HM 3 rfl rfl rfl (v := vQ (if (most : Int) < ((vread l).1 : Int) then (most : Int) else ((vread l).1 : Int))) (Yl.min rfl rfl rfl) fun a HF => ?_
   replace HF := HF.sp 31 (vQ (tkVal most l)) rfl (by rw [qhy])
   refine fp HF 1 4 [(32, vI (IntKind.i64.wrap (tkVal most l : Int)))] fun a HF => ?_
   replace HF := HF.sp 32 (vI (tkVal most l : Nat)) rfl (qi rfl (by omega))
   refine fp HF 1 5 [(4, vI (tkVal most l : Nat))] fun a HF => ?_
   refine qb rfl (wp_ret ?_)
   replace HM := HM.picksT (fs' := (.blk gb #[.slice (if c = (vread l).2.1 then A else A.map (·.add ((vread l).2.1 * 1))) (n - (vread l).2.1) (c - (vread l).2.1)] 34 :: .blk gk #[.bool (decide (((vread l).1 : Int) ≤ (most : Int)))] 4 :: fr)) 2 [0, 1] (by decide) (by decide) rfl
   exact ret1 rfl HF (.tmp HF rfl) (qhz hr hc (by rw [hb15, Bool.true_and]; unfold tkOk; rw [Bool.eq_iff_iff]; simp only [decide_eq_true_eq]; omega) hln HM)
  have hd19 := ne_of_beq_false hb19
  refine fp HF 5 6 [(24, .bool false)] fun a HF => ?_
  refine fo HF 11 rfl rfl ?_
  refine zd HF HM (i := 1) rfl rfl rfl rfl (by kernel_rfl) rfl rfl (by simp) ?_
  clear HM; intro w2_11 HM
  refine qb rfl (wp_seq (qa ?_))
  refine fy HF HM 0 rfl rfl rfl (Yl.qh rfl rfl (by kernel_rfl) (fun _ h => h.cell (i := 0) rfl rfl)) fun a HF => ?_
  refine fp HF 1 1 [(26, vI ((vread l).2.1))] fun a HF => ?_
  refine fy HF HM 2 rfl rfl rfl (v := .slice (if c = (vread l).2.1 then A else A.map (·.add ((vread l).2.1 * 1))) (n - (vread l).2.1) (c - (vread l).2.1)) (Yl.sliceFrom ei_u8 (j := (vread l).2.1) rfl rfl rfl (by omega)) fun a HF => ?_
  refine fo HF 3 rfl rfl ?_
  refine zd HF HM (i := 0) rfl rfl rfl rfl (by kernel_rfl) rfl rfl (by simp) ?_
  clear HM; intro w3_3 HM
  refine qb rfl (wp_seq (qa ?_))
  refine fp HF 3 0 [(30, vQ (IntKind.u64.wrap (most : Int))), (28, vQ ((vread l).1))] fun a HF => ?_
  replace HF := HF.sp 30 (vQ most) rfl (qaj rfl (by omega))
  refine fy HF HM 3 rfl rfl rfl (v := vQ (if (most : Int) < ((vread l).1 : Int) then (most : Int) else ((vread l).1 : Int))) (Yl.min rfl rfl rfl) fun a HF => ?_
  replace HF := HF.sp 31 (vQ (tkVal most l)) rfl (by rw [qhy])
  refine fp HF 1 4 [(32, vI (IntKind.i64.wrap (tkVal most l : Int)))] fun a HF => ?_
  replace HF := HF.sp 32 (vI (tkVal most l : Nat)) rfl (qi rfl (by omega))
  refine fp HF 1 5 [(4, vI (tkVal most l : Nat))] fun a HF => ?_
  refine qb rfl (wp_ret ?_)
  replace HM := HM.picksT (fs' := (.blk gb #[.slice (if c = (vread l).2.1 then A else A.map (·.add ((vread l).2.1 * 1))) (n - (vread l).2.1) (c - (vread l).2.1)] 34 :: .blk gk #[.bool false] 4 :: fr)) 2 [0, 1] (by decide) (by decide) rfl
  exact ret1 rfl HF (.tmp HF rfl) (qhz hr hc (by rw [qqz (by omega), Bool.and_false]) hln HM)
 refine fp HF 9 2 [(24, .bool false)] fun a HF => ?_
 refine fo HF 11 rfl rfl ?_
 refine zd HF HM (i := 1) rfl rfl rfl rfl (by kernel_rfl) rfl rfl (by simp) ?_
 clear HM; intro w2_11 HM
 refine qb rfl (wp_seq (qa ?_))
 refine fy HF HM 0 rfl rfl rfl (Yl.qh rfl rfl (by kernel_rfl) (fun _ h => h.cell (i := 0) rfl rfl)) fun a HF => ?_
 refine fp HF 1 1 [(26, vI ((vread l).2.1))] fun a HF => ?_
 refine fy HF HM 2 rfl rfl rfl (v := .slice (if c = (vread l).2.1 then A else A.map (·.add ((vread l).2.1 * 1))) (n - (vread l).2.1) (c - (vread l).2.1)) (Yl.sliceFrom ei_u8 (j := (vread l).2.1) rfl rfl rfl (by omega)) fun a HF => ?_
 refine fo HF 3 rfl rfl ?_
 refine zd HF HM (i := 0) rfl rfl rfl rfl (by kernel_rfl) rfl rfl (by simp) ?_
 clear HM; intro w3_3 HM
 refine qb rfl (wp_seq (qa ?_))
 refine fp HF 3 0 [(30, vQ (IntKind.u64.wrap (most : Int))), (28, vQ ((vread l).1))] fun a HF => ?_
 replace HF := HF.sp 30 (vQ most) rfl (qaj rfl (by omega))
 refine fy HF HM 3 rfl rfl rfl (v := vQ (if (most : Int) < ((vread l).1 : Int) then (most : Int) else ((vread l).1 : Int))) (Yl.min rfl rfl rfl) fun a HF => ?_
 replace HF := HF.sp 31 (vQ (tkVal most l)) rfl (by rw [qhy])
 refine fp HF 1 4 [(32, vI (IntKind.i64.wrap (tkVal most l : Int)))] fun a HF => ?_
 replace HF := HF.sp 32 (vI (tkVal most l : Nat)) rfl (qi rfl (by omega))
 refine fp HF 1 5 [(4, vI (tkVal most l : Nat))] fun a HF => ?_
 refine qb rfl (wp_ret ?_)
 replace HM := HM.picksT (fs' := (.blk gb #[.slice (if c = (vread l).2.1 then A else A.map (·.add ((vread l).2.1 * 1))) (n - (vread l).2.1) (c - (vread l).2.1)] 34 :: .blk gk #[.bool false] 4 :: fr)) 2 [0, 1] (by decide) (by decide) rfl
 exact ret1 rfl HF (.tmp HF rfl) (qhz hr hc (by rw [hb15, Bool.false_and]) hln HM)
theorem qkw {l : List Nat} {es : List Ev} {L er : Nat} (h3 : qc9 l = true) (h0 : 0 < tkVal 4096 (qc (qc l)))
  (hq : readR ⟨(tkVal 281474976710656 (qc (qc (qc l))) : Int), (tkVal 281474976710656 (qc (qc (qc (qc l)))) : Int)⟩ (tkVal 63 l) (tkVal 4096 (qc (qc l)) : Int) (qc (qc (qc (qc (qc l))))) = (es, L, er)) (her : er = 0) :
  zp l = qau (tkVal 63 l) (tkVal 281474976710656 (qc l)) (qc (qc (qc l))) (es, L, 0) := by
 rw [qfl h3 h0 hq, her]
theorem qb6 (k : Nat) (hk : k = 1 ∨ k = 2) (A : Option Addr) (n c : Nat) (l : List Nat) (B : Nat) (w : World) (hL : LaidX B w) (hB : B ≤ w.heap.size) (hr : Rd w w.heap.size 1 A n (l.map B8)) (hc : n ≤ c) (hln : n = l.length) (hn : n ≤ 100000000) (hl : ∀ b ∈ l, b < 256) :
    Calls Tryz.prog 75 #[.int .u8 (k : Int), .slice A n c] w (qe0 w (qes k l)) := by
 refine qg (vs := [vB k, .slice A n c]) Tryz.func75 rfl rfl (by kernel_rfl) (σ0 := [(0, vB k), (1, .slice A n c)]) rfl ?_
 intro a HF
 have HM := Mem.start w
 refine wp_seq (qa ?_)
 refine fo HF 0 rfl rfl ?_
 refine e_box HF HM (cs := #[.slice A n c]) rfl rfl rfl rfl (by decide) ?_
 clear HF HM; intro a w3 g3 HF HM
 refine fo HF 1 rfl rfl ?_
 refine qt HF HM (cs := #[vB 0, vB 0, vI 0, vI 0, .slice none 0 0]) rfl (by kernel_rfl) rfl (by decide) ?_
 clear HF HM; intro a w4 g4 HF HM
 refine fp HF 1 2 [(5, .bool false)] fun a HF => ?_
 refine qb rfl (wp_seq (qa ?_))
 refine fo HF 0 rfl rfl ?_
 refine qt HF HM (cs := #[.bool false]) rfl (by kernel_rfl) rfl (by decide) ?_
 clear HF HM; intro a w6 g6 HF HM
 refine fo HF 1 rfl rfl ?_
 refine zd HF HM (i := 0) rfl rfl rfl rfl (by kernel_rfl) rfl rfl (by simp) ?_
 clear HM; intro w1_1 HM
 refine qb rfl (wp_seq (qa ?_))
 refine fy HF HM 0 rfl rfl rfl (v := .func (.func 93) #[] #[vP g3 0, vP g6 0]) (Yl.makeFunc (fst := []) (caps := [vP g3 0, vP g6 0]) rfl rfl rfl) fun a HF => ?_
 refine fp HF 1 1 [(7, .func (.func 93) #[] #[vP g3 0, vP g6 0])] fun a HF => ?_
 refine qb rfl (wp_seq (qa ?_))
 refine fp HF 1 0 [(15, vB k)] fun a HF => ?_
 refine fy HF HM 1 rfl rfl rfl (v := .agg #[vB k, vB 0, vI 0, vI 0, .slice none 0 0]) (Yl.build (vs := [(0, vB k)]) rfl (by kernel_rfl) (by kernel_rfl)) fun a HF => ?_
 refine fo HF 2 rfl rfl ?_
 refine qt HF HM (cs := #[vB 0, vB 0, vI 0, vI 0, .slice none 0 0]) rfl (by kernel_rfl) rfl (by decide) ?_
 clear HF HM; intro a w8 g8 HF HM
 refine fo HF 3 rfl rfl ?_
 refine e_sa HF HM 0 rfl rfl rfl rfl rfl si_bk rfl rfl (by simp [Value.oneCell']) ?_
 clear HM; intro w3_3 HM
 refine qb rfl (wp_seq (wp_seq (qa ?_)))
 refine fp HF 2 0 [(18, .bool ((k : Int) == (2 : Int)))] fun a HF => ?_
 refine qb rfl ?_
 rcases HF.tf 18 rfl with ⟨hb18, HF⟩ | ⟨hb18, HF⟩
 ·
  have hd18 := eq_of_beq hb18
  obtain rfl : k = 2 := by omega
  refine qe HF rfl (wp_seq (qa ?_))
  refine fp HF 1 0 [(19, .func (.func 93) #[] #[vP g3 0, vP g6 0])] fun a HF => ?_
  refine fo HF 1 rfl rfl ?_
  replace HM := HM.picks (fs' := [.blk g3 #[.slice A n c] 34, .blk g6 #[.bool true] 4, .blk g8 #[vB (2 : Nat), vB 0, vI 0, vI 0, .slice none 0 0] 27, .blk g4 #[vB 0, vB 0, vI 0, vI 0, .slice none 0 0] 27]) [3, 1, 0, 2] (by decide) rfl
  have hl1 := qaa hl
  refine qcz HF (f := 93) (vs := [vI 281474976710657]) (fst := []) (caps := [vP g3 0, vP g6 0]) rfl rfl rfl (by kernel_rfl) rfl (by decide) (qdb w _ g3 g6 A n c l true 281474976710657 [.blk g8 #[vB (2 : Nat), vB 0, vI 0, vI 0, .slice none 0 0] 27, .blk g4 #[vB 0, vB 0, vI 0, vI 0, .slice none 0 0] 27] hl hln (by omega) hr hc (by omega) HM) ?_
  rintro _ w20 ⟨rfl, Aq1, cq1, hr1, hc1, hm⟩
  refine ⟨_, rfl, ?_⟩
  replace HM := hm
  clear HF; intro a HF
  have ht0 := qdp 281474976710657 l
  have hs0 := qda l
  refine fp HF 1 2 [(21, vP g8 3)] fun a HF => ?_
  refine fo HF 3 rfl rfl ?_
  refine zd HF HM (i := 2) rfl rfl rfl rfl (by kernel_rfl) rfl rfl (by simp) ?_
  clear HM; intro w5_3 HM
  refine qb rfl ?_
  refine qax (fun aS wS => Fr aS 99 [] [(5, .bool ((qa8 l).isSome)), (18, .bool true), (8, vP g8 0), (7, .func (.func 93) #[] #[vP g3 0, vP g6 0]), (6, vP g6 0), (4, vP g4 0), (3, vP g3 0), (0, vB (2 : Nat))] ∧ Mem w wS [.blk g3 #[.slice Aq1 ((qc l).length) cq1] 34, .blk g6 #[.bool (true && tkOk 281474976710657 l)] 4, .blk g8 #[vB (2 : Nat), vB 0, vI 0, vI (tkVal 281474976710657 l), .slice none 0 0] 27, .blk g4 #[vB (2 : Nat), vB 0, vI 0, vI (tkVal 281474976710657 l), .slice none 0 0] 27]) ?_ ?_
  ·
   refine qag HM [.blk g3 #[.slice Aq1 ((qc l).length) cq1] 34, .blk g6 #[.bool (true && tkOk 281474976710657 l)] 4, .blk g8 #[vB (2 : Nat), vB 0, vI 0, vI (tkVal 281474976710657 l), .slice none 0 0] 27] [0, 1, 2] [] fun HM HS => ?_
   refine ay HF HS 0 rfl rfl rfl (v := .agg #[vB (2 : Nat), vB 0, vI 0, vI (tkVal 281474976710657 l), .slice none 0 0]) (Yl.zc rfl rfl si_bk rfl (fun _ h => qf (h.blk (i := 2) rfl))) fun a HF => ?_
   refine ay HF HS 1 rfl rfl rfl (Yl.qh rfl rfl (by kernel_rfl) (fun _ h => h.cell (i := 1) rfl rfl)) fun a HF => ?_
   refine ap HF (fun _ => HS) [2] #[true, true, true, false, false, false, false, false, false, false, false, false, false] [(24, .bool (true && tkOk 281474976710657 l))] fun a HF => ?_
   rcases HF.tf 24 rfl with ⟨hb24, HF⟩ | ⟨hb24, HF⟩
   ·
    refine ay HF HS 3 rfl rfl rfl (Yl.qh rfl rfl (by kernel_rfl) (fun _ h => h.cell (i := 0) rfl rfl)) fun a HF => ?_
    refine ay HF HS 4 rfl rfl rfl (Yl.len rfl rfl (by kernel_rfl)) fun a HF => ?_
    refine ap HF (fun _ => HS) [5, 6, 7] #[true, true, true, true, true, true, true, true, false, false, false, false, false] [(29, .bool ((((qc l).length : Nat) : Int) == (0 : Int)))] fun a HF => ?_
    rcases HF.tf 29 rfl with ⟨hb29, HF⟩ | ⟨hb29, HF⟩
    ·
     have hd29 := eq_of_beq hb29
     refine ay HF HS 8 rfl rfl rfl (v := .agg #[vB (2 : Nat), vB 0, vI 0, vI (tkVal 281474976710657 l), .slice none 0 0]) (Yl.zc rfl rfl si_bk rfl (fun _ h => qf (h.blk (i := 2) rfl))) fun a HF => ?_
     refine qj [9] (by kernel_rfl) rfl ?_
     refine all_cons ?_ all_nil
     refine qo HF (i := 9) rfl rfl ?_
     refine e_is HF HM [.agg #[vB (2 : Nat), vB 0, vI 0, vI (tkVal 281474976710657 l), .slice none 0 0]] (.bool (Bk.fits ⟨2, 0, 0, (tkVal 281474976710657 l : Int), []⟩)) rfl rfl (qeh ⟨2, 0, 0, (tkVal 281474976710657 l : Int), []⟩ (endOk ht0) none 0 B _ (hL.mem HM hB) (HM.le hB) Rd.nil (by show 0 ≤ _; omega)) fun w31 hbw HM a HF => ?_
     refine keepS (HM.picks [0, 1, 2] (by decide) rfl) (fun HS => ?_)
     refine ap HF (fun _ => HS) [10] #[true, true, true, true, true, true, true, true, true, true, true, false, false] [(32, .bool (Bk.fits ⟨2, 0, 0, (tkVal 281474976710657 l : Int), []⟩))] fun a HF => ?_
     refine qj [11] (by kernel_rfl) rfl ?_
     refine all_cons ?_ all_nil
     refine qo HF (i := 11) rfl rfl ?_
     refine e_sa HF HM 3 rfl rfl rfl rfl rfl si_bk rfl rfl (by simp [Value.oneCell']) ?_
     clear HM; intro w6_11 HM
     refine keepS (HM.picks [0, 1, 2] (by decide) rfl) (fun HS => ?_)
     refine ap HF (fun _ => HS) [12] #[true, true, true, true, true, true, true, true, true, true, true, true, true] [(5, .bool (Bk.fits ⟨2, 0, 0, (tkVal 281474976710657 l : Int), []⟩))] fun a HF => ?_
     refine qn (by kernel_rfl) ?_
     have HF := HF.as (t := 5) (u := .bool ((qa8 l).isSome)) rfl (congrArg Value.bool (by rw [qe1, show tkOk 281474976710657 l = true by simpa using hb24, decide_eq_true (by omega), Bool.true_and, Bool.true_and]))
     exact ⟨HF.sub (by kernel_rfl), HM.picks [0, 1, 2, 3] (by decide) rfl⟩
    have hd29 := ne_of_beq_false hb29
    refine ap HF (fun _ => HS) [8, 9, 10] #[true, true, true, true, true, true, true, true, true, true, true, false, false] [(32, .bool false)] fun a HF => ?_
    refine qj [11] (by kernel_rfl) rfl ?_
    refine all_cons ?_ all_nil
    refine qo HF (i := 11) rfl rfl ?_
    refine e_sa HF HM 3 rfl rfl rfl rfl rfl si_bk rfl rfl (by simp [Value.oneCell']) ?_
    clear HM; intro w6_11 HM
    refine keepS (HM.picks [0, 1, 2] (by decide) rfl) (fun HS => ?_)
    refine ap HF (fun _ => HS) [12] #[true, true, true, true, true, true, true, true, true, true, true, true, true] [(5, .bool false)] fun a HF => ?_
    refine qn (by kernel_rfl) ?_
    have HF := HF.as (t := 5) (u := .bool ((qa8 l).isSome)) rfl (congrArg Value.bool (by rw [qe1, decide_eq_false (by omega), Bool.false_and, Bool.and_false]))
    exact ⟨HF.sub (by kernel_rfl), HM.picks [0, 1, 2, 3] (by decide) rfl⟩
   refine ap HF (fun _ => HS) [3, 4, 5, 6, 7, 8, 9, 10] #[true, true, true, true, true, true, true, true, true, true, true, false, false] [(32, .bool false)] fun a HF => ?_
   refine qj [11] (by kernel_rfl) rfl ?_
   refine all_cons ?_ all_nil
   refine qo HF (i := 11) rfl rfl ?_
   refine e_sa HF HM 3 rfl rfl rfl rfl rfl si_bk rfl rfl (by simp [Value.oneCell']) ?_
   clear HM; intro w6_11 HM
   refine keepS (HM.picks [0, 1, 2] (by decide) rfl) (fun HS => ?_)
   refine ap HF (fun _ => HS) [12] #[true, true, true, true, true, true, true, true, true, true, true, true, true] [(5, .bool false)] fun a HF => ?_
   refine qn (by kernel_rfl) ?_
   have HF := HF.as (t := 5) (u := .bool ((qa8 l).isSome)) rfl (congrArg Value.bool (by rw [qe1, show tkOk 281474976710657 l = false by simpa using hb24]; rfl))
   exact ⟨HF.sub (by kernel_rfl), HM.picks [0, 1, 2, 3] (by decide) rfl⟩
  clear HF HM; rintro a w6 ⟨HF, HM⟩
  refine wp_ret ?_
  rcases HF.tf 5 rfl with ⟨hb5, HF⟩ | ⟨hb5, HF⟩
  ·
   have hfin := hb5
   exact ret2 rfl HF (.cellS (i := 3) HF HM rfl rfl si_bk rfl) (.tmp HF rfl) (qcy (b := ⟨2, 0, 0, (tkVal 281474976710657 l : Int), []⟩) (A := none) (c := 0) (by rw [qji]; exact qma hfin) (World.ownsRow_nil _ _ _ _) (Nat.le_refl _) HM.below)
  have hfin := hb5
  exact ret2 rfl HF (.cellS (i := 3) HF HM rfl rfl si_bk rfl) (.tmp HF rfl) (qb5 (by rw [qji]; exact Option.not_isSome_iff_eq_none.1 (by rw [hfin]; decide)) rfl (by simp [Value.oneCell']) HM.below)
 have hd18 := ne_of_beq_false hb18
 obtain rfl : k = 1 := by omega
 refine qd HF rfl (wp_skip (wp_seq (qa ?_)))
 refine fp HF 1 0 [(33, .func (.func 93) #[] #[vP g3 0, vP g6 0])] fun a HF => ?_
 refine fo HF 1 rfl rfl ?_
 replace HM := HM.picks (fs' := [.blk g3 #[.slice A n c] 34, .blk g6 #[.bool true] 4, .blk g8 #[vB (1 : Nat), vB 0, vI 0, vI 0, .slice none 0 0] 27, .blk g4 #[vB 0, vB 0, vI 0, vI 0, .slice none 0 0] 27]) [3, 1, 0, 2] (by decide) rfl
 have hl1 := qaa hl
 refine qcz HF (f := 93) (vs := [vI 63]) (fst := []) (caps := [vP g3 0, vP g6 0]) rfl rfl rfl (by kernel_rfl) rfl (by decide) (qdb w _ g3 g6 A n c l true 63 [.blk g8 #[vB (1 : Nat), vB 0, vI 0, vI 0, .slice none 0 0] 27, .blk g4 #[vB 0, vB 0, vI 0, vI 0, .slice none 0 0] 27] hl hln (by omega) hr hc (by omega) HM) ?_
 rintro _ w34 ⟨rfl, Aq1, cq1, hr1, hc1, hm⟩
 refine ⟨_, rfl, ?_⟩
 replace HM := hm
 clear HF; intro a HF
 have ht0 := qdp 63 l
 have hs0 := qda l
 refine fp HF 1 2 [(35, vB (IntKind.u8.wrap (tkVal 63 l : Int)))] fun a HF => ?_
 replace HF := HF.sp 35 (vB (tkVal 63 l)) rfl (qzn rfl (by omega))
 refine fp HF 1 3 [(36, .func (.func 93) #[] #[vP g3 0, vP g6 0])] fun a HF => ?_
 refine fo HF 4 rfl rfl ?_
 replace HM := HM.picks (fs' := [.blk g3 #[.slice Aq1 ((qc l).length) cq1] 34, .blk g6 #[.bool (true && tkOk 63 l)] 4, .blk g8 #[vB (1 : Nat), vB 0, vI 0, vI 0, .slice none 0 0] 27, .blk g4 #[vB 0, vB 0, vI 0, vI 0, .slice none 0 0] 27]) [0, 1, 2, 3] (by decide) rfl
 have hl2 := qaa hl1
 refine qcz HF (f := 93) (vs := [vI 281474976710656]) (fst := []) (caps := [vP g3 0, vP g6 0]) rfl rfl rfl (by kernel_rfl) rfl (by decide) (qdb w _ g3 g6 Aq1 ((qc l).length) cq1 (qc l) (true && tkOk 63 l) 281474976710656 [.blk g8 #[vB (1 : Nat), vB 0, vI 0, vI 0, .slice none 0 0] 27, .blk g4 #[vB 0, vB 0, vI 0, vI 0, .slice none 0 0] 27] hl1 rfl (by omega) hr1 hc1 (by omega) HM) ?_
 rintro _ w37 ⟨rfl, Aq2, cq2, hr2, hc2, hm⟩
 refine ⟨_, rfl, ?_⟩
 replace HM := hm
 clear HF; intro a HF
 have ht1 := qdp 281474976710656 (qc l)
 have hs1 := qda (qc l)
 refine fp HF 1 5 [(38, vP g8 1)] fun a HF => ?_
 refine fo HF 6 rfl rfl ?_
 refine zd HF HM (i := 2) rfl rfl rfl rfl (by kernel_rfl) rfl rfl (by simp) ?_
 clear HM; intro w7_6 HM
 refine fp HF 1 7 [(39, vP g8 2)] fun a HF => ?_
 refine fo HF 8 rfl rfl ?_
 refine zd HF HM (i := 2) rfl rfl rfl rfl (by kernel_rfl) rfl rfl (by simp) ?_
 clear HM; intro w7_8 HM
 refine qb rfl (wp_seq (qa ?_))
 refine fp HF 1 0 [(40, .func (.func 93) #[] #[vP g3 0, vP g6 0])] fun a HF => ?_
 refine fo HF 1 rfl rfl ?_
 replace HM := HM.picks (fs' := [.blk g3 #[.slice Aq2 ((qc (qc l)).length) cq2] 34, .blk g6 #[.bool ((true && tkOk 63 l) && tkOk 281474976710656 (qc l))] 4, .blk g8 #[vB (1 : Nat), vB (tkVal 63 l), vI (tkVal 281474976710656 (qc l)), vI 0, .slice none 0 0] 27, .blk g4 #[vB 0, vB 0, vI 0, vI 0, .slice none 0 0] 27]) [0, 1, 2, 3] (by decide) rfl
 have hl3 := qaa hl2
 refine qcz HF (f := 93) (vs := [vI 4096]) (fst := []) (caps := [vP g3 0, vP g6 0]) rfl rfl rfl (by kernel_rfl) rfl (by decide) (qdb w _ g3 g6 Aq2 ((qc (qc l)).length) cq2 (qc (qc l)) ((true && tkOk 63 l) && tkOk 281474976710656 (qc l)) 4096 [.blk g8 #[vB (1 : Nat), vB (tkVal 63 l), vI (tkVal 281474976710656 (qc l)), vI 0, .slice none 0 0] 27, .blk g4 #[vB 0, vB 0, vI 0, vI 0, .slice none 0 0] 27] hl2 rfl (by omega) hr2 hc2 (by omega) HM) ?_
 rintro _ w41 ⟨rfl, Aq3, cq3, hr3, hc3, hm⟩
 refine ⟨_, rfl, ?_⟩
 replace HM := hm
 clear HF; intro a HF
 have ht2 := qdp 4096 (qc (qc l))
 have hs2 := qda (qc (qc l))
 refine fp HF 1 2 [(9, vI (tkVal 4096 (qc (qc l))))] fun a HF => ?_
 refine qb rfl (wp_seq (wp_seq (qa ?_)))
 refine fy HF HM 0 rfl rfl rfl (Yl.qh rfl rfl (by kernel_rfl) (fun _ h => h.cell (i := 1) rfl rfl)) fun a HF => ?_
 refine fp HF 1 1 [(43, .bool (((true && tkOk 63 l) && tkOk 281474976710656 (qc l)) && tkOk 4096 (qc (qc l))))] fun a HF => ?_
 rcases HF.tf 43 rfl with ⟨hb43, HF⟩ | ⟨hb43, HF⟩
 ·
  have h3 : qc9 l = true := by rw [← tk3]; exact hb43
  refine fp HF 3 2 [(46, .bool (decide ((tkVal 4096 (qc (qc l)) : Int) > (0 : Int))))] fun a HF => ?_
  refine qb rfl ?_
  rcases HF.tf 46 rfl with ⟨hb46, HF⟩ | ⟨hb46, HF⟩
  ·
   have hd46 := of_decide_eq_true hb46
   refine qe HF rfl (wp_seq (qa ?_))
   refine fp HF 1 0 [(47, .func (.func 93) #[] #[vP g3 0, vP g6 0])] fun a HF => ?_
   refine fo HF 1 rfl rfl ?_
   replace HM := HM.picks (fs' := [.blk g3 #[.slice Aq3 ((qc (qc (qc l))).length) cq3] 34, .blk g6 #[.bool (((true && tkOk 63 l) && tkOk 281474976710656 (qc l)) && tkOk 4096 (qc (qc l)))] 4, .blk g8 #[vB (1 : Nat), vB (tkVal 63 l), vI (tkVal 281474976710656 (qc l)), vI 0, .slice none 0 0] 27, .blk g4 #[vB 0, vB 0, vI 0, vI 0, .slice none 0 0] 27]) [0, 1, 2, 3] (by decide) rfl
   have hl4 := qaa hl3
   refine qcz HF (f := 93) (vs := [vI 281474976710656]) (fst := []) (caps := [vP g3 0, vP g6 0]) rfl rfl rfl (by kernel_rfl) rfl (by decide) (qdb w _ g3 g6 Aq3 ((qc (qc (qc l))).length) cq3 (qc (qc (qc l))) (((true && tkOk 63 l) && tkOk 281474976710656 (qc l)) && tkOk 4096 (qc (qc l))) 281474976710656 [.blk g8 #[vB (1 : Nat), vB (tkVal 63 l), vI (tkVal 281474976710656 (qc l)), vI 0, .slice none 0 0] 27, .blk g4 #[vB 0, vB 0, vI 0, vI 0, .slice none 0 0] 27] hl3 rfl (by omega) hr3 hc3 (by omega) HM) ?_
   rintro _ w48 ⟨rfl, Aq4, cq4, hr4, hc4, hm⟩
   refine ⟨_, rfl, ?_⟩
   replace HM := hm
   clear HF; intro a HF
   have ht3 := qdp 281474976710656 (qc (qc (qc l)))
   have hs3 := qda (qc (qc (qc l)))
   refine fp HF 1 2 [(49, .func (.func 93) #[] #[vP g3 0, vP g6 0])] fun a HF => ?_
   refine fo HF 3 rfl rfl ?_
   replace HM := HM.picks (fs' := [.blk g3 #[.slice Aq4 ((qc (qc (qc (qc l)))).length) cq4] 34, .blk g6 #[.bool ((((true && tkOk 63 l) && tkOk 281474976710656 (qc l)) && tkOk 4096 (qc (qc l))) && tkOk 281474976710656 (qc (qc (qc l))))] 4, .blk g8 #[vB (1 : Nat), vB (tkVal 63 l), vI (tkVal 281474976710656 (qc l)), vI 0, .slice none 0 0] 27, .blk g4 #[vB 0, vB 0, vI 0, vI 0, .slice none 0 0] 27]) [0, 1, 2, 3] (by decide) rfl
   have hl5 := qaa hl4
   refine qcz HF (f := 93) (vs := [vI 281474976710656]) (fst := []) (caps := [vP g3 0, vP g6 0]) rfl rfl rfl (by kernel_rfl) rfl (by decide) (qdb w _ g3 g6 Aq4 ((qc (qc (qc (qc l)))).length) cq4 (qc (qc (qc (qc l)))) ((((true && tkOk 63 l) && tkOk 281474976710656 (qc l)) && tkOk 4096 (qc (qc l))) && tkOk 281474976710656 (qc (qc (qc l)))) 281474976710656 [.blk g8 #[vB (1 : Nat), vB (tkVal 63 l), vI (tkVal 281474976710656 (qc l)), vI 0, .slice none 0 0] 27, .blk g4 #[vB 0, vB 0, vI 0, vI 0, .slice none 0 0] 27] hl4 rfl (by omega) hr4 hc4 (by omega) HM) ?_
   rintro _ w50 ⟨rfl, Aq5, cq5, hr5, hc5, hm⟩
   refine ⟨_, rfl, ?_⟩
   replace HM := hm
   clear HF; intro a HF
   have ht4 := qdp 281474976710656 (qc (qc (qc (qc l))))
   have hs4 := qda (qc (qc (qc (qc l))))
   refine fy HF HM 4 rfl rfl rfl (v := .agg #[vI (tkVal 281474976710656 (qc (qc (qc l)))), vI (tkVal 281474976710656 (qc (qc (qc (qc l)))))]) (Yl.build (vs := [(0, vI (tkVal 281474976710656 (qc (qc (qc l))))), (1, vI (tkVal 281474976710656 (qc (qc (qc (qc l))))))]) rfl (by kernel_rfl) (by kernel_rfl)) fun a HF => ?_
   refine fo HF 5 rfl rfl ?_
   refine qt HF HM (cs := #[vI 0, vI 0]) rfl (by kernel_rfl) rfl (by decide) ?_
   clear HF HM; intro a w10 g10 HF HM
   refine fo HF 6 rfl rfl ?_
   refine e_sa HF HM 0 rfl rfl rfl rfl rfl ⟨(by kernel_rfl), (by kernel_rfl)⟩ rfl rfl (by simp [Value.oneCell']) ?_
   clear HM; intro w10_6 HM
   refine qb rfl ?_
   obtain ⟨es, L, er, hq⟩ : ∃ es L er, readR ⟨(tkVal 281474976710656 (qc (qc (qc l))) : Int), (tkVal 281474976710656 (qc (qc (qc (qc l)))) : Int)⟩ (tkVal 63 l) (tkVal 4096 (qc (qc l)) : Int) (qc (qc (qc (qc (qc l))))) = (es, L, er) := ⟨_, _, _, rfl⟩
   refine wp_seq (qa ?_)
   refine fy HF HM 0 rfl rfl rfl (v := .agg #[vI (tkVal 281474976710656 (qc (qc (qc l)))), vI (tkVal 281474976710656 (qc (qc (qc (qc l)))))]) (Yl.zc rfl rfl ⟨(by kernel_rfl), (by kernel_rfl)⟩ rfl (fun _ h => qf (h.blk (i := 0) rfl))) fun a HF => ?_
   refine fp HF 1 1 [(54, vP g8 1)] fun a HF => ?_
   refine fy HF HM 2 rfl rfl rfl (Yl.qh rfl rfl (by kernel_rfl) (fun _ h => h.cell (i := 3) rfl rfl)) fun a HF => ?_
   refine fp HF 1 3 [(56, vI (tkVal 4096 (qc (qc l))))] fun a HF => ?_
   refine fy HF HM 4 rfl rfl rfl (Yl.qh rfl rfl (by kernel_rfl) (fun _ h => h.cell (i := 1) rfl rfl)) fun a HF => ?_
   refine fo HF 5 rfl rfl ?_
   refine e_cl HF [.agg #[vI (tkVal 281474976710656 (qc (qc (qc l)))), vI (tkVal 281474976710656 (qc (qc (qc (qc l)))))], vB (tkVal 63 l), vI (tkVal 4096 (qc (qc l))), .slice Aq5 ((qc (qc (qc (qc (qc l))))).length) cq5] rfl rfl (qyb ⟨(tkVal 281474976710656 (qc (qc (qc l))) : Int), (tkVal 281474976710656 (qc (qc (qc (qc l)))) : Int)⟩ (tkVal 63 l) (by omega) Aq5 ((qc (qc (qc (qc (qc l))))).length) cq5 (tkVal 4096 (qc (qc l)) : Int) (by unfold I64; omega) (qc (qc (qc (qc (qc l))))) B _ (hL.mem HM hB).laid (HM.le hB) (HM.old hr5) hc5 hl5 (by omega) (.inl (by omega)) hq) ?_
   rintro _ w58 ⟨⟨A58, c58, rfl, ho, hc58⟩, hbw⟩
   refine ⟨_, rfl, ?_⟩
   replace HM := HM.callRow hbw ho
   clear HF; intro a HF
   refine fp HF 7 6 [(13, vI er), (12, vI L), (11, .slice A58 es.length c58)] fun a HF => ?_
   refine qb rfl (wp_seq ?_)
   refine qax (fun aS wS => Fr aS 99 [] [(81, .bool (!(decide (er = 0 ∧ (es.getD 0 Ev.zero).seq = (tkVal 281474976710656 (qc (qc (qc l))) : Int) ∧ (es.getD 0 Ev.zero).time = (tkVal 281474976710656 (qc (qc (qc (qc l)))) : Int))))), (12, vI L), (11, .slice A58 es.length c58), (10, vP g10 0), (46, .bool true), (9, vI (tkVal 4096 (qc (qc l)))), (18, .bool false), (8, vP g8 0), (7, .func (.func 93) #[] #[vP g3 0, vP g6 0]), (6, vP g6 0), (5, .bool false), (4, vP g4 0), (3, vP g3 0), (0, vB (1 : Nat))] ∧ Mem w wS [.row (.slice A58 es.length c58) es.length (es.flatMap evL) 41 11, .blk g10 #[vI (tkVal 281474976710656 (qc (qc (qc l)))), vI (tkVal 281474976710656 (qc (qc (qc (qc l)))))] 133, .blk g3 #[.slice Aq5 ((qc (qc (qc (qc (qc l))))).length) cq5] 34, .blk g6 #[.bool (((((true && tkOk 63 l) && tkOk 281474976710656 (qc l)) && tkOk 4096 (qc (qc l))) && tkOk 281474976710656 (qc (qc (qc l)))) && tkOk 281474976710656 (qc (qc (qc (qc l)))))] 4, .blk g8 #[vB (1 : Nat), vB (tkVal 63 l), vI (tkVal 281474976710656 (qc l)), vI 0, .slice none 0 0] 27, .blk g4 #[vB 0, vB 0, vI 0, vI 0, .slice none 0 0] 27]) ?_ ?_
   ·
    refine qag HM [.row (.slice A58 es.length c58) es.length (es.flatMap evL) 41 11, .blk g10 #[vI (tkVal 281474976710656 (qc (qc (qc l)))), vI (tkVal 281474976710656 (qc (qc (qc (qc l)))))] 133, .blk g3 #[.slice Aq5 ((qc (qc (qc (qc (qc l))))).length) cq5] 34, .blk g6 #[.bool (((((true && tkOk 63 l) && tkOk 281474976710656 (qc l)) && tkOk 4096 (qc (qc l))) && tkOk 281474976710656 (qc (qc (qc l)))) && tkOk 281474976710656 (qc (qc (qc (qc l)))))] 4, .blk g8 #[vB (1 : Nat), vB (tkVal 63 l), vI (tkVal 281474976710656 (qc l)), vI 0, .slice none 0 0] 27, .blk g4 #[vB 0, vB 0, vI 0, vI 0, .slice none 0 0] 27] [0, 1, 2, 3, 4, 5] [] fun HM HS => ?_
    refine ap HF (fun _ => HS) [0, 1, 2] #[true, true, true, false, false, false, false, false, false, false, false, false, false, false, false, false, false, false, false, false] [(64, .bool ((er : Int) != (0 : Int)))] fun a HF => ?_
    rcases HF.tf 64 rfl with ⟨hb64, HF⟩ | ⟨hb64, HF⟩
    ·
     have hd64 := bne_iff_ne.1 hb64
     refine ap HF (fun _ => HS) [3, 4, 5, 6, 7, 8, 9, 10, 11, 12, 13, 14, 15, 16, 17, 18, 19] #[true, true, true, true, true, true, true, true, true, true, true, true, true, true, true, true, true, true, true, true] [(81, .bool true)] fun a HF => ?_
     refine qn (by kernel_rfl) ?_
     have HF := HF.as (t := 81) (u := .bool (!(decide (er = 0 ∧ (es.getD 0 Ev.zero).seq = (tkVal 281474976710656 (qc (qc (qc l))) : Int) ∧ (es.getD 0 Ev.zero).time = (tkVal 281474976710656 (qc (qc (qc (qc l)))) : Int))))) rfl (congrArg Value.bool (by rw [decide_eq_false (by omega)]; rfl))
     exact ⟨HF.sub (by kernel_rfl), HM.picks [0, 1, 2, 3, 4, 5] (by decide) rfl⟩
    have hd64 := bne_eq_false_iff_eq.1 hb64
    have her : er = 0 := by omega
    have hq0 := hq; rw [her] at hq0; obtain ⟨rw1, rw2, rw3, rw4, rw5⟩ := qgd (cpu := tkVal 63 l) (by omega) hl5 hq0
    refine ap HF (fun _ => HS) [3, 7] #[true, true, true, true, false, false, false, true, false, false, false, false, false, false, false, false, false, false, false, false] [(69, vP g10 0), (65, .slice A58 es.length c58)] fun a HF => ?_
    obtain ⟨gA58, rfl⟩ := qch (HM.own (i := 0) rfl) (Nat.lt_of_le_of_lt (Nat.zero_le _) (show 0 < es.length from by omega))
    refine ay HF HS 4 rfl rfl rfl (v := vP gA58 0) (Yl.indexAddr (ad := ⟨gA58, 0, none⟩) (y := 0) (sz := 11) rfl rfl rfl (by omega) (by kernel_rfl)) fun a HF => ?_
    refine ap HF (fun _ => HS) [5] #[true, true, true, true, true, true, false, true, false, false, false, false, false, false, false, false, false, false, false, false] [(67, vP gA58 0)] fun a HF => ?_
    refine ay HF HS 6 rfl rfl rfl (v := vI ((es.getD 0 Ev.zero).seq)) (Yl.qh rfl rfl (by kernel_rfl) (fun _ h => (by have := h.qe7 zf (i := 0) rfl (k := 0) (off := 0) (x := (es.getD 0 Ev.zero)) ((getD_at Ev.zero (k := 0) (by first | omega | (simp; omega)))) rfl; simpa using this))) fun a HF => ?_
    refine ay HF HS 8 rfl rfl rfl (Yl.qh rfl rfl (by kernel_rfl) (fun _ h => h.cell (i := 1) rfl rfl)) fun a HF => ?_
    refine ap HF (fun _ => HS) [9, 10, 11] #[true, true, true, true, true, true, true, true, true, true, true, true, false, false, false, false, false, false, false, false] [(73, .bool (((es.getD 0 Ev.zero).seq : Int) != (tkVal 281474976710656 (qc (qc (qc l))) : Int)))] fun a HF => ?_
    rcases HF.tf 73 rfl with ⟨hb73, HF⟩ | ⟨hb73, HF⟩
    ·
     have hd73 := bne_iff_ne.1 hb73
     refine ap HF (fun _ => HS) [12, 13, 14, 15, 16, 17, 18, 19] #[true, true, true, true, true, true, true, true, true, true, true, true, true, true, true, true, true, true, true, true] [(81, .bool true)] fun a HF => ?_
     refine qn (by kernel_rfl) ?_
     replace HF := HF.to [(81, .bool true), (12, vI L), (11, vS gA58 es.length c58), (10, vP g10 0), (46, .bool true), (9, vI (tkVal 4096 (qc (qc l)))), (18, .bool false), (8, vP g8 0), (7, .func (.func 93) #[] #[vP g3 0, vP g6 0]), (6, vP g6 0), (5, .bool false), (4, vP g4 0), (3, vP g3 0), (0, vB (1 : Nat))]
     have HF := HF.as (t := 81) (u := .bool (!(decide (er = 0 ∧ (es.getD 0 Ev.zero).seq = (tkVal 281474976710656 (qc (qc (qc l))) : Int) ∧ (es.getD 0 Ev.zero).time = (tkVal 281474976710656 (qc (qc (qc (qc l)))) : Int))))) rfl (congrArg Value.bool (by rw [decide_eq_false (by omega)]; rfl))
     exact ⟨HF.sub (by kernel_rfl), HM.picks [0, 1, 2, 3, 4, 5] (by decide) rfl⟩
    have hd73 := bne_eq_false_iff_eq.1 hb73
    refine ap HF (fun _ => HS) [12, 16] #[true, true, true, true, true, true, true, true, true, true, true, true, true, false, false, false, true, false, false, false] [(78, vP g10 1), (74, vS gA58 es.length c58)] fun a HF => ?_
    refine ay HF HS 13 rfl rfl rfl (v := vP gA58 0) (Yl.indexAddr (ad := ⟨gA58, 0, none⟩) (y := 0) (sz := 11) rfl rfl rfl (by omega) (by kernel_rfl)) fun a HF => ?_
    refine ap HF (fun _ => HS) [14] #[true, true, true, true, true, true, true, true, true, true, true, true, true, true, true, false, true, false, false, false] [(76, vP gA58 1)] fun a HF => ?_
    refine ay HF HS 15 rfl rfl rfl (v := vI ((es.getD 0 Ev.zero).time)) (Yl.qh rfl rfl (by kernel_rfl) (fun _ h => h.qe7 zf (i := 0) rfl (k := 0) (off := 1) (x := (es.getD 0 Ev.zero)) ((getD_at Ev.zero (k := 0) (by first | omega | (simp; omega)))) rfl)) fun a HF => ?_
    refine ay HF HS 17 rfl rfl rfl (Yl.qh rfl rfl (by kernel_rfl) (fun _ h => h.cell (i := 1) rfl rfl)) fun a HF => ?_
    refine ap HF (fun _ => HS) [18, 19] #[true, true, true, true, true, true, true, true, true, true, true, true, true, true, true, true, true, true, true, true] [(81, .bool (((es.getD 0 Ev.zero).time : Int) != (tkVal 281474976710656 (qc (qc (qc (qc l)))) : Int)))] fun a HF => ?_
    refine qn (by kernel_rfl) ?_
    replace HF := HF.to [(81, .bool (((es.getD 0 Ev.zero).time : Int) != (tkVal 281474976710656 (qc (qc (qc (qc l)))) : Int))), (12, vI L), (11, vS gA58 es.length c58), (10, vP g10 0), (46, .bool true), (9, vI (tkVal 4096 (qc (qc l)))), (18, .bool false), (8, vP g8 0), (7, .func (.func 93) #[] #[vP g3 0, vP g6 0]), (6, vP g6 0), (5, .bool false), (4, vP g4 0), (3, vP g3 0), (0, vB (1 : Nat))]
    have HF := HF.as (t := 81) (u := .bool (!(decide (er = 0 ∧ (es.getD 0 Ev.zero).seq = (tkVal 281474976710656 (qc (qc (qc l))) : Int) ∧ (es.getD 0 Ev.zero).time = (tkVal 281474976710656 (qc (qc (qc (qc l)))) : Int))))) rfl (congrArg Value.bool (by rw [Bool.eq_iff_iff, bne_iff_ne, Bool.not_eq_true', decide_eq_false_iff_not]; omega))
    exact ⟨HF.sub (by kernel_rfl), HM.picks [0, 1, 2, 3, 4, 5] (by decide) rfl⟩
   clear HF HM; rintro a w12 ⟨HF, HM⟩
   rcases HF.tf 81 rfl with ⟨hb81, HF⟩ | ⟨hb81, HF⟩
   ·
    have hd81 := of_decide_eq_false ((Bool.not_eq_true' _).mp hb81)
    have hz : ¬ (er = 0 ∧ (es.getD 0 Ev.zero).seq = (tkVal 281474976710656 (qc (qc (qc l))) : Int) ∧ (es.getD 0 Ev.zero).time = (tkVal 281474976710656 (qc (qc (qc (qc l)))) : Int)) := fun hh => by rw [decide_eq_true hh] at hb81; cases hb81
    refine qe HF rfl (wp_seq (qa ?_))
    refine fy HF HM 0 rfl rfl rfl (v := .agg #[vB 0, vB 0, vI 0, vI 0, .slice none 0 0]) (Yl.build (vs := []) rfl (by kernel_rfl) (by kernel_rfl)) fun a HF => ?_
    refine fo HF 1 rfl rfl ?_
    refine e_sa HF HM 5 rfl rfl rfl rfl rfl si_bk rfl rfl (by simp [Value.oneCell']) ?_
    clear HM; intro w13_1 HM
    refine fp HF 1 2 [(5, .bool false)] fun a HF => ?_
    refine qb rfl (wp_ret ?_)
    exact ret2 rfl HF (.cellS (i := 5) HF HM rfl rfl si_bk rfl) (.tmp HF rfl) (qb5 (by rw [qbu, qfl h3 (by omega) hq]; exact qet (fun hh => hz ⟨hh.1, hh.2.1, hh.2.2.1⟩)) rfl (by simp [Value.oneCell']) HM.below)
   have hd81 := of_decide_eq_true ((Bool.not_eq_false' _).mp hb81)
   have hz : er = 0 ∧ (es.getD 0 Ev.zero).seq = (tkVal 281474976710656 (qc (qc (qc l))) : Int) ∧ (es.getD 0 Ev.zero).time = (tkVal 281474976710656 (qc (qc (qc (qc l)))) : Int) := Decidable.byContradiction fun hh => by rw [decide_eq_false hh] at hb81; cases hb81
   have her := hz.1
   have hq0 := hq; rw [her] at hq0; obtain ⟨rw1, rw2, rw3, rw4, rw5⟩ := qgd (cpu := tkVal 63 l) (by omega) hl5 hq0
   refine qd HF rfl (wp_skip ?_)
   refine qag HM [.row (.slice A58 es.length c58) es.length (es.flatMap evL) 41 11, .blk g10 #[vI (tkVal 281474976710656 (qc (qc (qc l)))), vI (tkVal 281474976710656 (qc (qc (qc (qc l)))))] 133, .blk g3 #[.slice Aq5 ((qc (qc (qc (qc (qc l))))).length) cq5] 34, .blk g6 #[.bool (((((true && tkOk 63 l) && tkOk 281474976710656 (qc l)) && tkOk 4096 (qc (qc l))) && tkOk 281474976710656 (qc (qc (qc l)))) && tkOk 281474976710656 (qc (qc (qc (qc l)))))] 4, .blk g4 #[vB 0, vB 0, vI 0, vI 0, .slice none 0 0] 27] [0, 1, 2, 3, 5] [6] fun HM HS => ?_
   refine ap HF (fun _ => HS) [0, 2, 4] #[true, false, true, false, true, false, false] [(87, vP g8 4), (85, vI L), (83, .slice A58 es.length c58)] fun a HF => ?_
   refine ay HF HS 1 rfl rfl rfl (Yl.qh rfl rfl (by kernel_rfl) (fun _ h => h.cell (i := 2) rfl rfl)) fun a HF => ?_
   refine ay HF HS 3 rfl rfl rfl (v := .slice (if cq5 = L then Aq5 else Aq5.map (·.add (L * 1))) (((qc (qc (qc (qc (qc l))))).length) - L) (cq5 - L)) (Yl.sliceFrom ei_u8 (j := L) rfl rfl rfl (by omega)) fun a HF => ?_
   refine qj [5] (by kernel_rfl) rfl ?_
   refine all_cons ?_ all_nil
   refine qo HF (i := 5) rfl rfl ?_
   refine zd HF HM (i := 4) rfl rfl rfl rfl (by kernel_rfl) rfl rfl (by simp) ?_
   clear HM; intro w14_5 HM
   refine keepS (HM.picks [0, 1, 2, 3, 5] (by decide) rfl) (fun HS => ?_)
   refine qj [6] (by kernel_rfl) rfl ?_
   refine all_cons ?_ all_nil
   refine qo HF (i := 6) rfl rfl ?_
   refine zd HF HM (i := 2) rfl rfl rfl rfl (by kernel_rfl) rfl rfl (by simp) ?_
   clear HM; intro w14_6 HM
   refine noS (by kernel_rfl) ?_
   refine qn (by kernel_rfl) ?_
   refine qax (fun aS wS => Fr aS 99 [] [(5, .bool ((zp l).isSome)), (81, .bool false), (11, .slice A58 es.length c58), (10, vP g10 0), (46, .bool true), (9, vI (tkVal 4096 (qc (qc l)))), (18, .bool false), (8, vP g8 0), (7, .func (.func 93) #[] #[vP g3 0, vP g6 0]), (6, vP g6 0), (4, vP g4 0), (3, vP g3 0), (0, vB (1 : Nat))] ∧ Mem w wS [.row (.slice A58 es.length c58) es.length (es.flatMap evL) 41 11, .blk g10 #[vI (tkVal 281474976710656 (qc (qc (qc l)))), vI (tkVal 281474976710656 (qc (qc (qc (qc l)))))] 133, .blk g3 #[.slice (if cq5 = L then Aq5 else Aq5.map (·.add (L * 1))) (((qc (qc (qc (qc (qc l))))).length) - L) (cq5 - L)] 34, .blk g6 #[.bool (((((true && tkOk 63 l) && tkOk 281474976710656 (qc l)) && tkOk 4096 (qc (qc l))) && tkOk 281474976710656 (qc (qc (qc l)))) && tkOk 281474976710656 (qc (qc (qc (qc l)))))] 4, .blk g8 #[vB (1 : Nat), vB (tkVal 63 l), vI (tkVal 281474976710656 (qc l)), vI 0, .slice A58 es.length c58] 27, .blk g4 #[vB (1 : Nat), vB (tkVal 63 l), vI (tkVal 281474976710656 (qc l)), vI 0, .slice A58 es.length c58] 27]) ?_ ?_
   ·
    refine qag HM [.row (.slice A58 es.length c58) es.length (es.flatMap evL) 41 11, .blk g10 #[vI (tkVal 281474976710656 (qc (qc (qc l)))), vI (tkVal 281474976710656 (qc (qc (qc (qc l)))))] 133, .blk g3 #[.slice (if cq5 = L then Aq5 else Aq5.map (·.add (L * 1))) (((qc (qc (qc (qc (qc l))))).length) - L) (cq5 - L)] 34, .blk g6 #[.bool (((((true && tkOk 63 l) && tkOk 281474976710656 (qc l)) && tkOk 4096 (qc (qc l))) && tkOk 281474976710656 (qc (qc (qc l)))) && tkOk 281474976710656 (qc (qc (qc (qc l)))))] 4, .blk g8 #[vB (1 : Nat), vB (tkVal 63 l), vI (tkVal 281474976710656 (qc l)), vI 0, .slice A58 es.length c58] 27] [0, 1, 2, 3, 4] [] fun HM HS => ?_
    refine ay HF HS 0 rfl rfl rfl (v := .agg #[vB (1 : Nat), vB (tkVal 63 l), vI (tkVal 281474976710656 (qc l)), vI 0, .slice A58 es.length c58]) (Yl.zc rfl rfl si_bk rfl (fun _ h => qf (h.blk (i := 4) rfl))) fun a HF => ?_
    refine ay HF HS 1 rfl rfl rfl (Yl.qh rfl rfl (by kernel_rfl) (fun _ h => h.cell (i := 3) rfl rfl)) fun a HF => ?_
    refine ap HF (fun _ => HS) [2] #[true, true, true, false, false, false, false, false, false, false, false, false, false] [(90, .bool (((((true && tkOk 63 l) && tkOk 281474976710656 (qc l)) && tkOk 4096 (qc (qc l))) && tkOk 281474976710656 (qc (qc (qc l)))) && tkOk 281474976710656 (qc (qc (qc (qc l))))))] fun a HF => ?_
    rcases HF.tf 90 rfl with ⟨hb90, HF⟩ | ⟨hb90, HF⟩
    ·
     refine ay HF HS 3 rfl rfl rfl (Yl.qh rfl rfl (by kernel_rfl) (fun _ h => h.cell (i := 2) rfl rfl)) fun a HF => ?_
     refine ay HF HS 4 rfl rfl rfl (Yl.len rfl rfl (by kernel_rfl)) fun a HF => ?_
     refine ap HF (fun _ => HS) [5, 6, 7] #[true, true, true, true, true, true, true, true, false, false, false, false, false] [(95, .bool (((((qc (qc (qc (qc (qc l))))).length) - L : Nat) : Int) == (0 : Int)))] fun a HF => ?_
     rcases HF.tf 95 rfl with ⟨hb95, HF⟩ | ⟨hb95, HF⟩
     ·
      have hd95 := eq_of_beq hb95
      refine ay HF HS 8 rfl rfl rfl (v := .agg #[vB (1 : Nat), vB (tkVal 63 l), vI (tkVal 281474976710656 (qc l)), vI 0, .slice A58 es.length c58]) (Yl.zc rfl rfl si_bk rfl (fun _ h => qf (h.blk (i := 4) rfl))) fun a HF => ?_
      refine qj [9] (by kernel_rfl) rfl ?_
      refine all_cons ?_ all_nil
      refine qo HF (i := 9) rfl rfl ?_
      refine e_is HF HM [.agg #[vB (1 : Nat), vB (tkVal 63 l), vI (tkVal 281474976710656 (qc l)), vI 0, .slice A58 es.length c58]] (.bool (Bk.fits ⟨1, tkVal 63 l, (tkVal 281474976710656 (qc l) : Int), 0, es⟩)) rfl rfl (qeh ⟨1, tkVal 63 l, (tkVal 281474976710656 (qc l) : Int), 0, es⟩ (evsOk (by omega) (by omega) (fun e he => (rw5 e he).1)) A58 c58 B _ (hL.mem HM hB) (HM.le hB) (HM.rd (i := 0) rfl) (by show es.length ≤ _; omega)) fun w97 hbw HM a HF => ?_
      refine keepS (HM.picks [0, 1, 2, 3, 4] (by decide) rfl) (fun HS => ?_)
      refine ap HF (fun _ => HS) [10] #[true, true, true, true, true, true, true, true, true, true, true, false, false] [(98, .bool (Bk.fits ⟨1, tkVal 63 l, (tkVal 281474976710656 (qc l) : Int), 0, es⟩))] fun a HF => ?_
      refine qj [11] (by kernel_rfl) rfl ?_
      refine all_cons ?_ all_nil
      refine qo HF (i := 11) rfl rfl ?_
      refine e_sa HF HM 5 rfl rfl rfl rfl rfl si_bk rfl rfl (by simp [Value.oneCell']) ?_
      clear HM; intro w15_11 HM
      refine keepS (HM.picks [0, 1, 2, 3, 4] (by decide) rfl) (fun HS => ?_)
      refine ap HF (fun _ => HS) [12] #[true, true, true, true, true, true, true, true, true, true, true, true, true] [(5, .bool (Bk.fits ⟨1, tkVal 63 l, (tkVal 281474976710656 (qc l) : Int), 0, es⟩))] fun a HF => ?_
      refine qn (by kernel_rfl) ?_
      have HF := HF.as (t := 5) (u := .bool ((zp l).isSome)) rfl (congrArg Value.bool (by rw [qkw h3 (by omega) hq her, qn7 ⟨hz.2.1, hz.2.2⟩, show (tkOk 281474976710656 (qc (qc (qc l))) && tkOk 281474976710656 (qc (qc (qc (qc l))))) = true by have h9 := hb90; rw [tk5 (l := l), tk3, h3, Bool.true_and] at h9; exact h9, decide_eq_true (by omega), Bool.true_and, Bool.true_and]))
      exact ⟨HF.sub (by kernel_rfl), HM.picks [0, 1, 2, 3, 4, 5] (by decide) rfl⟩
     have hd95 := ne_of_beq_false hb95
     refine ap HF (fun _ => HS) [8, 9, 10] #[true, true, true, true, true, true, true, true, true, true, true, false, false] [(98, .bool false)] fun a HF => ?_
     refine qj [11] (by kernel_rfl) rfl ?_
     refine all_cons ?_ all_nil
     refine qo HF (i := 11) rfl rfl ?_
     refine e_sa HF HM 5 rfl rfl rfl rfl rfl si_bk rfl rfl (by simp [Value.oneCell']) ?_
     clear HM; intro w15_11 HM
     refine keepS (HM.picks [0, 1, 2, 3, 4] (by decide) rfl) (fun HS => ?_)
     refine ap HF (fun _ => HS) [12] #[true, true, true, true, true, true, true, true, true, true, true, true, true] [(5, .bool false)] fun a HF => ?_
     refine qn (by kernel_rfl) ?_
     have HF := HF.as (t := 5) (u := .bool ((zp l).isSome)) rfl (congrArg Value.bool (by rw [qkw h3 (by omega) hq her, qn7 ⟨hz.2.1, hz.2.2⟩, decide_eq_false (by omega), Bool.false_and, Bool.and_false]))
     exact ⟨HF.sub (by kernel_rfl), HM.picks [0, 1, 2, 3, 4, 5] (by decide) rfl⟩
    refine ap HF (fun _ => HS) [3, 4, 5, 6, 7, 8, 9, 10] #[true, true, true, true, true, true, true, true, true, true, true, false, false] [(98, .bool false)] fun a HF => ?_
    refine qj [11] (by kernel_rfl) rfl ?_
    refine all_cons ?_ all_nil
    refine qo HF (i := 11) rfl rfl ?_
    refine e_sa HF HM 5 rfl rfl rfl rfl rfl si_bk rfl rfl (by simp [Value.oneCell']) ?_
    clear HM; intro w15_11 HM
    refine keepS (HM.picks [0, 1, 2, 3, 4] (by decide) rfl) (fun HS => ?_)
    refine ap HF (fun _ => HS) [12] #[true, true, true, true, true, true, true, true, true, true, true, true, true] [(5, .bool false)] fun a HF => ?_
    refine qn (by kernel_rfl) ?_
    have HF := HF.as (t := 5) (u := .bool ((zp l).isSome)) rfl (congrArg Value.bool (by rw [qkw h3 (by omega) hq her, qn7 ⟨hz.2.1, hz.2.2⟩, show (tkOk 281474976710656 (qc (qc (qc l))) && tkOk 281474976710656 (qc (qc (qc (qc l))))) = false by have h9 := hb90; rw [tk5 (l := l), tk3, h3, Bool.true_and] at h9; exact h9, Bool.false_and]))
    exact ⟨HF.sub (by kernel_rfl), HM.picks [0, 1, 2, 3, 4, 5] (by decide) rfl⟩
   clear HF HM; rintro a w15 ⟨HF, HM⟩
   refine wp_ret ?_
   rcases HF.tf 5 rfl with ⟨hb5, HF⟩ | ⟨hb5, HF⟩
   ·
    have hfin := hb5
    exact ret2 rfl HF (.cellS (i := 5) HF HM rfl rfl si_bk rfl) (.tmp HF rfl) (qcy (b := ⟨1, tkVal 63 l, (tkVal 281474976710656 (qc l) : Int), 0, es⟩) (A := A58) (c := c58) (by rw [qbu]; rw [qkw h3 (by omega) hq her] at hfin ⊢; exact qwd hfin) (HM.own (i := 0) rfl) hc58 HM.below)
   have hfin := hb5
   exact ret2 rfl HF (.cellS (i := 5) HF HM rfl rfl si_bk rfl) (.tmp HF rfl) (qb5 (by rw [qbu]; exact Option.not_isSome_iff_eq_none.1 (by rw [hfin]; decide)) rfl (by simp [Value.oneCell']) HM.below)
  have hd46 := of_decide_eq_false hb46
  refine qd HF rfl (wp_skip ?_)
  refine qax (fun aS wS => Fr aS 99 [] [(5, .bool ((zp l).isSome)), (46, .bool false), (9, vI (tkVal 4096 (qc (qc l)))), (18, .bool false), (8, vP g8 0), (7, .func (.func 93) #[] #[vP g3 0, vP g6 0]), (6, vP g6 0), (4, vP g4 0), (3, vP g3 0), (0, vB (1 : Nat))] ∧ Mem w wS [.blk g3 #[.slice Aq3 ((qc (qc (qc l))).length) cq3] 34, .blk g6 #[.bool (((true && tkOk 63 l) && tkOk 281474976710656 (qc l)) && tkOk 4096 (qc (qc l)))] 4, .blk g8 #[vB (1 : Nat), vB (tkVal 63 l), vI (tkVal 281474976710656 (qc l)), vI 0, .slice none 0 0] 27, .blk g4 #[vB (1 : Nat), vB (tkVal 63 l), vI (tkVal 281474976710656 (qc l)), vI 0, .slice none 0 0] 27]) ?_ ?_
  ·
   refine qag HM [.blk g3 #[.slice Aq3 ((qc (qc (qc l))).length) cq3] 34, .blk g6 #[.bool (((true && tkOk 63 l) && tkOk 281474976710656 (qc l)) && tkOk 4096 (qc (qc l)))] 4, .blk g8 #[vB (1 : Nat), vB (tkVal 63 l), vI (tkVal 281474976710656 (qc l)), vI 0, .slice none 0 0] 27] [0, 1, 2] [] fun HM HS => ?_
   refine ay HF HS 0 rfl rfl rfl (v := .agg #[vB (1 : Nat), vB (tkVal 63 l), vI (tkVal 281474976710656 (qc l)), vI 0, .slice none 0 0]) (Yl.zc rfl rfl si_bk rfl (fun _ h => qf (h.blk (i := 2) rfl))) fun a HF => ?_
   refine ay HF HS 1 rfl rfl rfl (Yl.qh rfl rfl (by kernel_rfl) (fun _ h => h.cell (i := 1) rfl rfl)) fun a HF => ?_
   refine ap HF (fun _ => HS) [2] #[true, true, true, false, false, false, false, false, false, false, false, false, false] [(90, .bool (((true && tkOk 63 l) && tkOk 281474976710656 (qc l)) && tkOk 4096 (qc (qc l))))] fun a HF => ?_
   rcases HF.tf 90 rfl with ⟨hb90, HF⟩ | ⟨hb90, HF⟩
   ·
    refine ay HF HS 3 rfl rfl rfl (Yl.qh rfl rfl (by kernel_rfl) (fun _ h => h.cell (i := 0) rfl rfl)) fun a HF => ?_
    refine ay HF HS 4 rfl rfl rfl (Yl.len rfl rfl (by kernel_rfl)) fun a HF => ?_
    refine ap HF (fun _ => HS) [5, 6, 7] #[true, true, true, true, true, true, true, true, false, false, false, false, false] [(95, .bool ((((qc (qc (qc l))).length : Nat) : Int) == (0 : Int)))] fun a HF => ?_
    rcases HF.tf 95 rfl with ⟨hb95, HF⟩ | ⟨hb95, HF⟩
    ·
     have hd95 := eq_of_beq hb95
     refine ay HF HS 8 rfl rfl rfl (v := .agg #[vB (1 : Nat), vB (tkVal 63 l), vI (tkVal 281474976710656 (qc l)), vI 0, .slice none 0 0]) (Yl.zc rfl rfl si_bk rfl (fun _ h => qf (h.blk (i := 2) rfl))) fun a HF => ?_
     refine qj [9] (by kernel_rfl) rfl ?_
     refine all_cons ?_ all_nil
     refine qo HF (i := 9) rfl rfl ?_
     refine e_is HF HM [.agg #[vB (1 : Nat), vB (tkVal 63 l), vI (tkVal 281474976710656 (qc l)), vI 0, .slice none 0 0]] (.bool (Bk.fits ⟨1, tkVal 63 l, (tkVal 281474976710656 (qc l) : Int), 0, []⟩)) rfl rfl (qeh ⟨1, tkVal 63 l, (tkVal 281474976710656 (qc l) : Int), 0, []⟩ (evsOk (by omega) (by omega) (by simp)) none 0 B _ (hL.mem HM hB) (HM.le hB) Rd.nil (by show 0 ≤ _; omega)) fun w97 hbw HM a HF => ?_
     refine keepS (HM.picks [0, 1, 2] (by decide) rfl) (fun HS => ?_)
     refine ap HF (fun _ => HS) [10] #[true, true, true, true, true, true, true, true, true, true, true, false, false] [(98, .bool (Bk.fits ⟨1, tkVal 63 l, (tkVal 281474976710656 (qc l) : Int), 0, []⟩))] fun a HF => ?_
     refine qj [11] (by kernel_rfl) rfl ?_
     refine all_cons ?_ all_nil
     refine qo HF (i := 11) rfl rfl ?_
     refine e_sa HF HM 3 rfl rfl rfl rfl rfl si_bk rfl rfl (by simp [Value.oneCell']) ?_
     clear HM; intro w15_11 HM
     refine keepS (HM.picks [0, 1, 2] (by decide) rfl) (fun HS => ?_)
     refine ap HF (fun _ => HS) [12] #[true, true, true, true, true, true, true, true, true, true, true, true, true] [(5, .bool (Bk.fits ⟨1, tkVal 63 l, (tkVal 281474976710656 (qc l) : Int), 0, []⟩))] fun a HF => ?_
     refine qn (by kernel_rfl) ?_
     have HF := HF.as (t := 5) (u := .bool ((zp l).isSome)) rfl (congrArg Value.bool (by rw [qpf (l := l) (fun hh => by have h0 := hh.2; omega), h3, decide_eq_true (by omega), Bool.true_and, Bool.true_and]))
     exact ⟨HF.sub (by kernel_rfl), HM.picks [0, 1, 2, 3] (by decide) rfl⟩
    have hd95 := ne_of_beq_false hb95
    refine ap HF (fun _ => HS) [8, 9, 10] #[true, true, true, true, true, true, true, true, true, true, true, false, false] [(98, .bool false)] fun a HF => ?_
    refine qj [11] (by kernel_rfl) rfl ?_
    refine all_cons ?_ all_nil
    refine qo HF (i := 11) rfl rfl ?_
    refine e_sa HF HM 3 rfl rfl rfl rfl rfl si_bk rfl rfl (by simp [Value.oneCell']) ?_
    clear HM; intro w15_11 HM
    refine keepS (HM.picks [0, 1, 2] (by decide) rfl) (fun HS => ?_)
    refine ap HF (fun _ => HS) [12] #[true, true, true, true, true, true, true, true, true, true, true, true, true] [(5, .bool false)] fun a HF => ?_
    refine qn (by kernel_rfl) ?_
    have HF := HF.as (t := 5) (u := .bool ((zp l).isSome)) rfl (congrArg Value.bool (by rw [qpf (l := l) (fun hh => by have h0 := hh.2; omega), decide_eq_false (by omega), Bool.false_and, Bool.and_false]))
    exact ⟨HF.sub (by kernel_rfl), HM.picks [0, 1, 2, 3] (by decide) rfl⟩
   refine ap HF (fun _ => HS) [3, 4, 5, 6, 7, 8, 9, 10] #[true, true, true, true, true, true, true, true, true, true, true, false, false] [(98, .bool false)] fun a HF => ?_
   refine qj [11] (by kernel_rfl) rfl ?_
   refine all_cons ?_ all_nil
   refine qo HF (i := 11) rfl rfl ?_
   refine e_sa HF HM 3 rfl rfl rfl rfl rfl si_bk rfl rfl (by simp [Value.oneCell']) ?_
   clear HM; intro w15_11 HM
   refine keepS (HM.picks [0, 1, 2] (by decide) rfl) (fun HS => ?_)
   refine ap HF (fun _ => HS) [12] #[true, true, true, true, true, true, true, true, true, true, true, true, true] [(5, .bool false)] fun a HF => ?_
   refine qn (by kernel_rfl) ?_
   have HF := HF.as (t := 5) (u := .bool ((zp l).isSome)) rfl (congrArg Value.bool (by have h9 := hb90; rw [tk3] at h9; rw [qpf (l := l) (fun hh => by have h0 := hh.2; omega), h9, Bool.false_and]))
   exact ⟨HF.sub (by kernel_rfl), HM.picks [0, 1, 2, 3] (by decide) rfl⟩
  clear HF HM; rintro a w15 ⟨HF, HM⟩
  refine wp_ret ?_
  rcases HF.tf 5 rfl with ⟨hb5, HF⟩ | ⟨hb5, HF⟩
  ·
   have hfin := hb5
   exact ret2 rfl HF (.cellS (i := 3) HF HM rfl rfl si_bk rfl) (.tmp HF rfl) (qcy (b := ⟨1, tkVal 63 l, (tkVal 281474976710656 (qc l) : Int), 0, []⟩) (A := none) (c := 0) (by rw [qbu]; exact qtf (fun hh => by have h0 := hh.2; omega) hfin) (World.ownsRow_nil _ _ _ _) (Nat.le_refl _) HM.below)
  have hfin := hb5
  exact ret2 rfl HF (.cellS (i := 3) HF HM rfl rfl si_bk rfl) (.tmp HF rfl) (qb5 (by rw [qbu]; exact Option.not_isSome_iff_eq_none.1 (by rw [hfin]; decide)) rfl (by simp [Value.oneCell']) HM.below)
 have h3 : qc9 l = false := by rw [← tk3]; exact hb43
 refine fp HF 3 2 [(46, .bool false)] fun a HF => ?_
 refine qb rfl (qd HF rfl (wp_skip ?_))
 refine qax (fun aS wS => Fr aS 99 [] [(5, .bool ((zp l).isSome)), (46, .bool false), (9, vI (tkVal 4096 (qc (qc l)))), (18, .bool false), (8, vP g8 0), (7, .func (.func 93) #[] #[vP g3 0, vP g6 0]), (6, vP g6 0), (4, vP g4 0), (3, vP g3 0), (0, vB (1 : Nat))] ∧ Mem w wS [.blk g3 #[.slice Aq3 ((qc (qc (qc l))).length) cq3] 34, .blk g6 #[.bool (((true && tkOk 63 l) && tkOk 281474976710656 (qc l)) && tkOk 4096 (qc (qc l)))] 4, .blk g8 #[vB (1 : Nat), vB (tkVal 63 l), vI (tkVal 281474976710656 (qc l)), vI 0, .slice none 0 0] 27, .blk g4 #[vB (1 : Nat), vB (tkVal 63 l), vI (tkVal 281474976710656 (qc l)), vI 0, .slice none 0 0] 27]) ?_ ?_
 ·
  refine qag HM [.blk g3 #[.slice Aq3 ((qc (qc (qc l))).length) cq3] 34, .blk g6 #[.bool (((true && tkOk 63 l) && tkOk 281474976710656 (qc l)) && tkOk 4096 (qc (qc l)))] 4, .blk g8 #[vB (1 : Nat), vB (tkVal 63 l), vI (tkVal 281474976710656 (qc l)), vI 0, .slice none 0 0] 27] [0, 1, 2] [] fun HM HS => ?_
  refine ay HF HS 0 rfl rfl rfl (v := .agg #[vB (1 : Nat), vB (tkVal 63 l), vI (tkVal 281474976710656 (qc l)), vI 0, .slice none 0 0]) (Yl.zc rfl rfl si_bk rfl (fun _ h => qf (h.blk (i := 2) rfl))) fun a HF => ?_
  refine ay HF HS 1 rfl rfl rfl (Yl.qh rfl rfl (by kernel_rfl) (fun _ h => h.cell (i := 1) rfl rfl)) fun a HF => ?_
  refine ap HF (fun _ => HS) [2] #[true, true, true, false, false, false, false, false, false, false, false, false, false] [(90, .bool (((true && tkOk 63 l) && tkOk 281474976710656 (qc l)) && tkOk 4096 (qc (qc l))))] fun a HF => ?_
  rcases HF.tf 90 rfl with ⟨hb90, HF⟩ | ⟨hb90, HF⟩
  ·
   refine ay HF HS 3 rfl rfl rfl (Yl.qh rfl rfl (by kernel_rfl) (fun _ h => h.cell (i := 0) rfl rfl)) fun a HF => ?_
   refine ay HF HS 4 rfl rfl rfl (Yl.len rfl rfl (by kernel_rfl)) fun a HF => ?_
   refine ap HF (fun _ => HS) [5, 6, 7] #[true, true, true, true, true, true, true, true, false, false, false, false, false] [(95, .bool ((((qc (qc (qc l))).length : Nat) : Int) == (0 : Int)))] fun a HF => ?_
   rcases HF.tf 95 rfl with ⟨hb95, HF⟩ | ⟨hb95, HF⟩
   ·
    have hd95 := eq_of_beq hb95
    refine ay HF HS 8 rfl rfl rfl (v := .agg #[vB (1 : Nat), vB (tkVal 63 l), vI (tkVal 281474976710656 (qc l)), vI 0, .slice none 0 0]) (Yl.zc rfl rfl si_bk rfl (fun _ h => qf (h.blk (i := 2) rfl))) fun a HF => ?_
    refine qj [9] (by kernel_rfl) rfl ?_
    refine all_cons ?_ all_nil
    refine qo HF (i := 9) rfl rfl ?_
    refine e_is HF HM [.agg #[vB (1 : Nat), vB (tkVal 63 l), vI (tkVal 281474976710656 (qc l)), vI 0, .slice none 0 0]] (.bool (Bk.fits ⟨1, tkVal 63 l, (tkVal 281474976710656 (qc l) : Int), 0, []⟩)) rfl rfl (qeh ⟨1, tkVal 63 l, (tkVal 281474976710656 (qc l) : Int), 0, []⟩ (evsOk (by omega) (by omega) (by simp)) none 0 B _ (hL.mem HM hB) (HM.le hB) Rd.nil (by show 0 ≤ _; omega)) fun w97 hbw HM a HF => ?_
    refine keepS (HM.picks [0, 1, 2] (by decide) rfl) (fun HS => ?_)
    refine ap HF (fun _ => HS) [10] #[true, true, true, true, true, true, true, true, true, true, true, false, false] [(98, .bool (Bk.fits ⟨1, tkVal 63 l, (tkVal 281474976710656 (qc l) : Int), 0, []⟩))] fun a HF => ?_
    refine qj [11] (by kernel_rfl) rfl ?_
    refine all_cons ?_ all_nil
    refine qo HF (i := 11) rfl rfl ?_
    refine e_sa HF HM 3 rfl rfl rfl rfl rfl si_bk rfl rfl (by simp [Value.oneCell']) ?_
    clear HM; intro w15_11 HM
    refine keepS (HM.picks [0, 1, 2] (by decide) rfl) (fun HS => ?_)
    refine ap HF (fun _ => HS) [12] #[true, true, true, true, true, true, true, true, true, true, true, true, true] [(5, .bool (Bk.fits ⟨1, tkVal 63 l, (tkVal 281474976710656 (qc l) : Int), 0, []⟩))] fun a HF => ?_
    refine qn (by kernel_rfl) ?_
    have HF := HF.as (t := 5) (u := .bool ((zp l).isSome)) rfl (congrArg Value.bool (by have h9 := hb90; rw [tk3, h3] at h9; cases h9))
    exact ⟨HF.sub (by kernel_rfl), HM.picks [0, 1, 2, 3] (by decide) rfl⟩
   have hd95 := ne_of_beq_false hb95
   refine ap HF (fun _ => HS) [8, 9, 10] #[true, true, true, true, true, true, true, true, true, true, true, false, false] [(98, .bool false)] fun a HF => ?_
   refine qj [11] (by kernel_rfl) rfl ?_
   refine all_cons ?_ all_nil
   refine qo HF (i := 11) rfl rfl ?_
   refine e_sa HF HM 3 rfl rfl rfl rfl rfl si_bk rfl rfl (by simp [Value.oneCell']) ?_
   clear HM; intro w15_11 HM
   refine keepS (HM.picks [0, 1, 2] (by decide) rfl) (fun HS => ?_)
   refine ap HF (fun _ => HS) [12] #[true, true, true, true, true, true, true, true, true, true, true, true, true] [(5, .bool false)] fun a HF => ?_
   refine qn (by kernel_rfl) ?_
   have HF := HF.as (t := 5) (u := .bool ((zp l).isSome)) rfl (congrArg Value.bool (by have h9 := hb90; rw [tk3, h3] at h9; cases h9))
   exact ⟨HF.sub (by kernel_rfl), HM.picks [0, 1, 2, 3] (by decide) rfl⟩
  refine ap HF (fun _ => HS) [3, 4, 5, 6, 7, 8, 9, 10] #[true, true, true, true, true, true, true, true, true, true, true, false, false] [(98, .bool false)] fun a HF => ?_
  refine qj [11] (by kernel_rfl) rfl ?_
  refine all_cons ?_ all_nil
  refine qo HF (i := 11) rfl rfl ?_
  refine e_sa HF HM 3 rfl rfl rfl rfl rfl si_bk rfl rfl (by simp [Value.oneCell']) ?_
  clear HM; intro w15_11 HM
  refine keepS (HM.picks [0, 1, 2] (by decide) rfl) (fun HS => ?_)
  refine ap HF (fun _ => HS) [12] #[true, true, true, true, true, true, true, true, true, true, true, true, true] [(5, .bool false)] fun a HF => ?_
  refine qn (by kernel_rfl) ?_
  have HF := HF.as (t := 5) (u := .bool ((zp l).isSome)) rfl (congrArg Value.bool (by have h9 := hb90; rw [tk3] at h9; rw [qpf (l := l) (fun hh => by rw [h3] at hh; cases hh.1), h9, Bool.false_and]))
  exact ⟨HF.sub (by kernel_rfl), HM.picks [0, 1, 2, 3] (by decide) rfl⟩
 clear HF HM; rintro a w15 ⟨HF, HM⟩
 refine wp_ret ?_
 rcases HF.tf 5 rfl with ⟨hb5, HF⟩ | ⟨hb5, HF⟩
 ·
  have hfin := hb5
  exact ret2 rfl HF (.cellS (i := 3) HF HM rfl rfl si_bk rfl) (.tmp HF rfl) (qcy (b := ⟨1, tkVal 63 l, (tkVal 281474976710656 (qc l) : Int), 0, []⟩) (A := none) (c := 0) (by rw [qbu]; exact qtf (fun hh => by rw [h3] at hh; cases hh.1) hfin) (World.ownsRow_nil _ _ _ _) (Nat.le_refl _) HM.below)
 have hfin := hb5
 exact ret2 rfl HF (.cellS (i := 3) HF HM rfl rfl si_bk rfl) (.tmp HF rfl) (qb5 (by rw [qbu]; exact Option.not_isSome_iff_eq_none.1 (by rw [hfin]; decide)) rfl (by simp [Value.oneCell']) HM.below)
theorem qtk (A : Option Addr) (n cp : Nat) (l : List Nat) (B : Nat) (w : World) (hL : LaidX B w) (hB : B ≤ w.heap.size) (hr : Rd w w.heap.size 1 A n (l.map B8)) (hc : n ≤ cp) (hln : l.length = n) (hn : n ≤ 9223372036854775807) (hl : ∀ b ∈ l, b < 256) :
    Calls Tryz.prog 53 #[.slice A n cp] w (qn8 41 w (readB l)) := by
 refine qg (vs := [.slice A n cp]) Tryz.func53 rfl rfl (by kernel_rfl) (σ0 := [(0, .slice A n cp)]) rfl ?_
 intro a HF
 have HM := Mem.start w
 refine wp_seq (qa ?_)
 refine fo HF 0 rfl rfl ?_
 refine qt HF HM (cs := #[vB 0, vB 0, vI 0, vI 0, .slice none 0 0]) rfl (by kernel_rfl) rfl (by decide) ?_
 clear HF HM; intro a w2 g2 HF HM
 refine fp HF 2 1 [(4, vI 0), (3, vI 0)] fun a HF => ?_
 refine qb rfl (wp_seq (qa ?_))
 refine fp HF 1 0 [(10, .slice A n cp)] fun a HF => ?_
 refine fo HF 1 rfl rfl ?_
 refine e_is HF HM [.slice A n cp] (.tuple #[vI ((lenR l).1), vI ((lenR l).2)]) rfl rfl (qqy A n cp l _ (HM.old hr) hln hn hl) fun w11 hbw HM a HF => ?_
 refine fp HF 5 2 [(6, vI ((lenR l).2)), (5, vI ((lenR l).1))] fun a HF => ?_
 refine qb rfl (wp_seq (wp_seq (qa ?_)))
 refine fp HF 2 0 [(15, .bool (((lenR l).2 : Int) != (0 : Int)))] fun a HF => ?_
 refine qb rfl ?_
 rcases HF.tf 15 rfl with ⟨hb15, HF⟩ | ⟨hb15, HF⟩
 ·
  have hd15 := bne_iff_ne.1 hb15
  refine qe HF rfl (wp_seq (qa ?_))
  refine fy HF HM 0 rfl rfl rfl (v := .agg #[vB 0, vB 0, vI 0, vI 0, .slice none 0 0]) (Yl.build (vs := []) rfl (by kernel_rfl) (by kernel_rfl)) fun a HF => ?_
  refine fp HF 1 1 [(17, vI ((lenR l).2))] fun a HF => ?_
  refine fo HF 2 rfl rfl ?_
  refine e_sa HF HM 0 rfl rfl rfl rfl rfl si_bk rfl rfl (by simp [Value.oneCell']) ?_
  clear HM; intro w3_2 HM
  refine fp HF 2 3 [(4, vI ((lenR l).2)), (3, vI 0)] fun a HF => ?_
  refine qb rfl (wp_ret ?_)
  exact ret3 rfl HF (.cellS (i := 0) HF HM rfl rfl si_bk rfl) (.tmp HF rfl) (.tmp HF rfl) (qa1 (qtg (by omega)) HM.below)
 have hd15 := bne_eq_false_iff_eq.1 hb15
 have hl0 : (lenR l).2 = 0 := by omega
 obtain ⟨v1, v2, v3, v4⟩ := qti hl0
 obtain ⟨Lb, hLb⟩ : ∃ x, x = l.take (lenR l).1 := ⟨_, rfl⟩
 have hrL : Rd w w.heap.size 1 A (lenR l).1 (Lb.map B8) := by rw [hLb]; exact hr.toB8 (by omega)
 have hlL : ∀ b ∈ Lb, b < 256 := by rw [hLb]; exact qbl hl _
 have hnL : Lb.length = (lenR l).1 := by rw [hLb, List.length_take]; omega
 refine qd HF rfl (wp_skip (wp_seq (qa ?_)))
 refine fp HF 2 0 [(19, vI ((lenR l).1)), (18, .slice A n cp)] fun a HF => ?_
 refine fy HF HM 2 rfl rfl rfl (v := .slice A ((lenR l).1) cp) (Yl.qbo ei_u8 (j := (lenR l).1) rfl rfl rfl (by omega)) fun a HF => ?_
 refine fp HF 1 3 [(0, .slice A ((lenR l).1) cp)] fun a HF => ?_
 refine qb rfl ?_
 obtain ⟨gA, oA, rfl, _⟩ := hrL.qy (Nat.lt_of_le_of_lt (Nat.zero_le _) (show 0 < (lenR l).1 from by omega)) (by decide)
 refine wp_seq (wp_block (wp_seq (qa ?_)))
 refine fp HF 1 0 [(22, .slice (some ⟨gA, oA, none⟩) ((lenR l).1) cp)] fun a HF => ?_
 refine fo HF 1 rfl rfl ?_
 refine e_is HF HM [.slice (some ⟨gA, oA, none⟩) ((lenR l).1) cp] (.bool (qca Lb)) rfl rfl (qqx _ (lenR l).1 cp Lb B _ (hL.mem HM hB) (HM.le hB) (HM.old hrL) (by omega) hnL (by omega) hlL) fun w23 hbw HM a HF => ?_
 refine fp HF 2 2 [(21, .bool (!(qca Lb)))] fun a HF => ?_
 refine qb rfl ?_
 rcases HF.tf 21 rfl with ⟨hb21, HF⟩ | ⟨hb21, HF⟩
 ·
  have hs : qca Lb = false := by simpa using hb21
  refine qe HF rfl (wp_seq (qa ?_))
  refine fy HF HM 0 rfl rfl rfl (v := .agg #[vB 0, vB 0, vI 0, vI 0, .slice none 0 0]) (Yl.build (vs := []) rfl (by kernel_rfl) (by kernel_rfl)) fun a HF => ?_
  refine fo HF 1 rfl rfl ?_
  refine e_sa HF HM 0 rfl rfl rfl rfl rfl si_bk rfl rfl (by simp [Value.oneCell']) ?_
  clear HM; intro w6_1 HM
  refine fp HF 2 2 [(4, vI 102), (3, vI 0)] fun a HF => ?_
  refine qb rfl (wp_ret ?_)
  exact ret3 rfl HF (.cellS (i := 0) HF HM rfl rfl si_bk rfl) (.tmp HF rfl) (.tmp HF rfl) (qa1 (qbv hl0 hLb (by unfold blkOf; rw [if_pos hs])) HM.below)
 have hs : qca Lb = true := by simpa using hb21
 refine qd HF rfl (wp_seq ?_)
 refine qag HM [.blk g2 #[vB 0, vB 0, vI 0, vI 0, .slice none 0 0] 27] [0] [] fun HM HS => ?_
 refine ap HF (fun _ => HS) [0] #[true, false, false, false, false, false, false] [(27, .slice (some ⟨gA, oA, none⟩) ((lenR l).1) cp)] fun a HF => ?_
 refine ay HF HS 1 rfl rfl rfl (v := .slice (if cp = 4 then some ⟨gA, oA, none⟩ else (some ⟨gA, oA, none⟩ : Option Addr).map (·.add (4 * 1))) (6 - 4) (cp - 4)) (Yl.qno ei_u8 (i := 4) (j := 6) rfl rfl rfl rfl (by omega) (by omega)) fun a HF => ?_
 replace HF := HF.sp 28 (.slice (some ⟨gA, oA + 4, none⟩) (6 - 4) (cp - 4)) rfl (by simp only [if_neg (show ¬ cp = 4 by omega), Option.map_some, Addr.add_mid, Nat.mul_one])
 refine ay HF HS 2 rfl rfl rfl (v := vP gA (oA + 4)) (Yl.arrayAt (k := 2) rfl rfl (by kernel_rfl) (by omega)) fun a HF => ?_
 refine ay HF HS 3 rfl rfl rfl (v := .agg #[vB (Lb.getD 4 0), vB (Lb.getD 5 0)]) (Yl.zc rfl rfl si_a2 rfl (fun _ h => qzv (k := 4) (l := Lb) (h.old hrL) (by omega))) fun a HF => ?_
 refine ay HF HS 4 rfl rfl rfl (v := .agg #[vB 113, vB 116]) (Yl.zc rfl rfl si_a2 rfl (fun _ h => qv8 hL h hB)) fun a HF => ?_
 refine ay HF HS 5 rfl rfl rfl (v := .bool (!(((Lb.getD 4 0 : Int) == (113 : Int)) && ((Lb.getD 5 0 : Int) == (116 : Int))))) (Yl.qy6 rfl rfl rfl (by kernel_rfl) (by kernel_rfl)) fun a HF => ?_
 refine ap HF (fun _ => HS) [6] #[true, true, true, true, true, true, true] [(26, .bool (!(((Lb.getD 4 0 : Int) == (113 : Int)) && ((Lb.getD 5 0 : Int) == (116 : Int)))))] fun a HF => ?_
 refine qn (by kernel_rfl) ?_
 rcases HF.tf 26 rfl with ⟨hb26, HF⟩ | ⟨hb26, HF⟩
 ·
  simp only [Bool.not_eq_true', Bool.and_eq_false_iff, beq_eq_false_iff_ne] at hb26
  have hmg : ¬ (Lb.getD 4 0 = 113 ∧ Lb.getD 5 0 = 116) := by omega
  refine qe HF rfl (wp_seq (qa ?_))
  refine fy HF HM 0 rfl rfl rfl (v := .agg #[vB 0, vB 0, vI 0, vI 0, .slice none 0 0]) (Yl.build (vs := []) rfl (by kernel_rfl) (by kernel_rfl)) fun a HF => ?_
  refine fo HF 1 rfl rfl ?_
  refine e_sa HF HM 0 rfl rfl rfl rfl rfl si_bk rfl rfl (by simp [Value.oneCell']) ?_
  clear HM; intro w8_1 HM
  refine fp HF 2 2 [(4, vI 103), (3, vI 0)] fun a HF => ?_
  refine qb rfl (wp_ret ?_)
  exact ret3 rfl HF (.cellS (i := 0) HF HM rfl rfl si_bk rfl) (.tmp HF rfl) (.tmp HF rfl) (qa1 (qbv hl0 hLb (by unfold blkOf; rw [if_neg (by rw [hs]; decide), if_pos hmg])) HM.below)
 simp only [Bool.not_eq_false', Bool.and_eq_true, beq_iff_eq] at hb26
 have hmg : Lb.getD 4 0 = 113 ∧ Lb.getD 5 0 = 116 := by omega
 refine qd HF rfl (wp_seq (qa ?_))
 refine fp HF 1 0 [(35, .slice (some ⟨gA, oA, none⟩) ((lenR l).1) cp)] fun a HF => ?_
 refine fy HF HM 1 rfl rfl rfl (v := vP gA (oA + 6)) (Yl.indexAddr (ad := ⟨gA, oA, none⟩) (y := 6) (sz := 1) rfl rfl rfl (by omega) (by kernel_rfl)) fun a HF => ?_
 have hx111 := getD_lt hlL (k := 6) (by first | omega | (simp; omega))
 refine fy HF HM 2 rfl rfl rfl (v := vB (Lb.getD 6 0)) (Yl.qh rfl rfl (by kernel_rfl) (fun _ h => (h.old hrL).qa4 (k := 6) (qai (F := B8) (k := 6) (x := (Lb.getD 6 0)) ((getD_at 0 (k := 6) (by first | omega | (simp; omega))))))) fun a HF => ?_
 refine fp HF 2 3 [(34, .bool (((Lb.getD 6 0) : Int) != (1 : Int)))] fun a HF => ?_
 refine qb rfl ?_
 rcases HF.tf 34 rfl with ⟨hb34, HF⟩ | ⟨hb34, HF⟩
 ·
  have hd34 := bne_iff_ne.1 hb34
  refine qe HF rfl (wp_seq (qa ?_))
  refine fy HF HM 0 rfl rfl rfl (v := .agg #[vB 0, vB 0, vI 0, vI 0, .slice none 0 0]) (Yl.build (vs := []) rfl (by kernel_rfl) (by kernel_rfl)) fun a HF => ?_
  refine fo HF 1 rfl rfl ?_
  refine e_sa HF HM 0 rfl rfl rfl rfl rfl si_bk rfl rfl (by simp [Value.oneCell']) ?_
  clear HM; intro w10_1 HM
  refine fp HF 2 2 [(4, vI 104), (3, vI 0)] fun a HF => ?_
  refine qb rfl (wp_ret ?_)
  exact ret3 rfl HF (.cellS (i := 0) HF HM rfl rfl si_bk rfl) (.tmp HF rfl) (.tmp HF rfl) (qa1 (qbv hl0 hLb (by unfold blkOf; rw [if_neg (by rw [hs]; decide), if_neg (fun hh => hh hmg), if_pos (by omega)])) HM.below)
 have hd34 := bne_eq_false_iff_eq.1 hb34
 refine qd HF rfl (wp_seq (qa ?_))
 refine fp HF 1 0 [(41, .slice (some ⟨gA, oA, none⟩) ((lenR l).1) cp)] fun a HF => ?_
 refine fy HF HM 1 rfl rfl rfl (v := vP gA (oA + 7)) (Yl.indexAddr (ad := ⟨gA, oA, none⟩) (y := 7) (sz := 1) rfl rfl rfl (by omega) (by kernel_rfl)) fun a HF => ?_
 have hx135 := getD_lt hlL (k := 7) (by first | omega | (simp; omega))
 refine fy HF HM 2 rfl rfl rfl (v := vB (Lb.getD 7 0)) (Yl.qh rfl rfl (by kernel_rfl) (fun _ h => (h.old hrL).qa4 (k := 7) (qai (F := B8) (k := 7) (x := (Lb.getD 7 0)) ((getD_at 0 (k := 7) (by first | omega | (simp; omega))))))) fun a HF => ?_
 refine fp HF 2 3 [(45, .bool (((Lb.getD 7 0) : Int) != (1 : Int)))] fun a HF => ?_
 rcases HF.tf 45 rfl with ⟨hb45, HF⟩ | ⟨hb45, HF⟩
 ·
  have hd45 := bne_iff_ne.1 hb45
  refine fp HF 1 5 [(46, .slice (some ⟨gA, oA, none⟩) ((lenR l).1) cp)] fun a HF => ?_
  refine fy HF HM 6 rfl rfl rfl (v := vP gA (oA + 7)) (Yl.indexAddr (ad := ⟨gA, oA, none⟩) (y := 7) (sz := 1) rfl rfl rfl (by omega) (by kernel_rfl)) fun a HF => ?_
  have hx143 := getD_lt hlL (k := 7) (by first | omega | (simp; omega))
  refine fy HF HM 7 rfl rfl rfl (v := vB (Lb.getD 7 0)) (Yl.qh rfl rfl (by kernel_rfl) (fun _ h => (h.old hrL).qa4 (k := 7) (qai (F := B8) (k := 7) (x := (Lb.getD 7 0)) ((getD_at 0 (k := 7) (by first | omega | (simp; omega))))))) fun a HF => ?_
  refine fp HF 3 8 [(40, .bool (((Lb.getD 7 0) : Int) != (2 : Int)))] fun a HF => ?_
  refine qb rfl ?_
  rcases hp : qes (Lb.getD 7 0) ((Lb.take (Lb.length - 4)).drop 8) with _ | b
  ·
   rcases HF.tf 40 rfl with ⟨hb40, HF⟩ | ⟨hb40, HF⟩
   ·
    have hd40 := bne_iff_ne.1 hb40
    have hkd : Lb.getD 7 0 ≠ 1 ∧ Lb.getD 7 0 ≠ 2 := by omega
    refine qe HF rfl (wp_seq (qa ?_))
    refine fy HF HM 0 rfl rfl rfl (v := .agg #[vB 0, vB 0, vI 0, vI 0, .slice none 0 0]) (Yl.build (vs := []) rfl (by kernel_rfl) (by kernel_rfl)) fun a HF => ?_
    refine fo HF 1 rfl rfl ?_
    refine e_sa HF HM 0 rfl rfl rfl rfl rfl si_bk rfl rfl (by simp [Value.oneCell']) ?_
    clear HM; intro w12_1 HM
    refine fp HF 2 2 [(4, vI 105), (3, vI 0)] fun a HF => ?_
    refine qb rfl (wp_ret ?_)
    exact ret3 rfl HF (.cellS (i := 0) HF HM rfl rfl si_bk rfl) (.tmp HF rfl) (.tmp HF rfl) (qa1 (qbv hl0 hLb (by unfold blkOf; rw [if_neg (by rw [hs]; decide), if_neg (fun hh => hh hmg), if_neg (by omega), if_pos hkd])) HM.below)
   have hd40 := bne_eq_false_iff_eq.1 hb40
   have hkd : Lb.getD 7 0 = 1 ∨ Lb.getD 7 0 = 2 := by omega
   refine qd HF rfl (wp_skip ?_)
   refine qax (fun aS wS => ∃ (cs : Array Value) (g7 : Nat), Fr aS 68 [] [(8, .bool false), (7, vP g7 0), (40, .bool false), (34, .bool false), (26, .bool false), (21, .bool false), (0, .slice (some ⟨gA, oA, none⟩) ((lenR l).1) cp), (15, .bool false), (6, vI ((lenR l).2)), (5, vI ((lenR l).1)), (4, vI 0), (3, vI 0), (2, vP g2 0)] ∧ Mem w wS [.blk g7 cs 27, .blk g2 #[vB 0, vB 0, vI 0, vI 0, .slice none 0 0] 27] ∧ (cs.size = 5) ∧ (∀ v ∈ cs.toList, v.oneCell' = true)) ?_ ?_
   ·
    refine qag HM [.blk g2 #[vB 0, vB 0, vI 0, vI 0, .slice none 0 0] 27] [0] [12] fun HM HS => ?_
    refine ap HF (fun _ => HS) [0, 3, 4] #[true, false, false, true, true, false, false, false, false, false, false, false, false, false] [(57, vI ((lenR l).1)), (56, .slice (some ⟨gA, oA, none⟩) ((lenR l).1) cp), (53, .slice (some ⟨gA, oA, none⟩) ((lenR l).1) cp)] fun a HF => ?_
    refine ay HF HS 1 rfl rfl rfl (v := vP gA (oA + 7)) (Yl.indexAddr (ad := ⟨gA, oA, none⟩) (y := 7) (sz := 1) rfl rfl rfl (by omega) (by kernel_rfl)) fun a HF => ?_
    have hx173 := getD_lt hlL (k := 7) (by first | omega | (simp; omega))
    refine ay HF HS 2 rfl rfl rfl (v := vB (Lb.getD 7 0)) (Yl.qh rfl rfl (by kernel_rfl) (fun _ h => (h.old hrL).qa4 (k := 7) (qai (F := B8) (k := 7) (x := (Lb.getD 7 0)) ((getD_at 0 (k := 7) (by first | omega | (simp; omega))))))) fun a HF => ?_
    refine zh HF (fun _ => HS) (i := 5) rfl rfl (d := 58) rfl (by decide) (by kernel_rfl) (fun _ _ _ h => h) (v := vI (IntKind.i64.wrap (((lenR l).1 : Int) - 4))) (fun _ => Yl.pure (by kernel_rfl)) fun a HF => ?_
    replace HF := HF.sp 58 (vI ((lenR l).1 - 4 : Nat)) rfl (qi (by omega) (by omega))
    refine ay HF HS 6 rfl rfl rfl (v := .slice (if cp = 8 then some ⟨gA, oA, none⟩ else (some ⟨gA, oA, none⟩ : Option Addr).map (·.add (8 * 1))) (((lenR l).1 - 4) - 8) (cp - 8)) (Yl.qno ei_u8 (i := 8) (j := (lenR l).1 - 4) rfl rfl rfl rfl (by omega) (by omega)) fun a HF => ?_
    refine qj [7, 11] (by kernel_rfl) rfl ?_
    refine all_cons ?_ ?_
    ·refine qo HF (i := 7) rfl rfl ?_
     refine e_cl HF [vB (Lb.getD 7 0), .slice (if cp = 8 then some ⟨gA, oA, none⟩ else (some ⟨gA, oA, none⟩ : Option Addr).map (·.add (8 * 1))) (((lenR l).1 - 4) - 8) (cp - 8)] rfl rfl ((qb6 (Lb.getD 7 0) hkd _ (((lenR l).1 - 4) - 8) (cp - 8) ((Lb.take (Lb.length - 4)).drop 8) B _ (hL.mem HM hB) (HM.le hB) (HM.old (by rw [hnL]; exact hrL.qnp (i := 8) (j := (lenR l).1 - 4) (by omega) (by omega) (by omega))) (by omega) (by rw [List.length_drop, List.length_take]; omega) (by omega) (qbm (qbl hlL _) _)).mono (fun _ _ h => h.none hp)) ?_
     rintro _ w60 ⟨⟨cs, rfl, hs5, h1⟩, hbw⟩
     refine ⟨_, rfl, ?_⟩
     replace HM := HM.call hbw
     clear HF; intro a HF
     refine keepS (HM.picks [0] (by decide) rfl) (fun HS => ?_)
     refine ap HF (fun _ => HS) [8, 9, 10] #[true, true, true, true, true, true, true, true, true, true, true, false, false, false] [(62, .bool false), (61, .agg cs)] fun a HF => ?_
     refine qj [11] (by kernel_rfl) rfl ?_
     refine all_cons ?_ all_nil
     refine qo HF (i := 11) rfl rfl ?_
     refine qt HF HM (cs := #[vB 0, vB 0, vI 0, vI 0, .slice none 0 0]) rfl (by kernel_rfl) rfl (by decide) ?_
     clear HF HM; intro a w7 g7 HF HM
     refine keepS (HM.picks [1] (by decide) rfl) (fun HS => ?_)
     refine qj [12] (by kernel_rfl) rfl ?_
     refine all_cons ?_ all_nil
     refine qo HF (i := 12) rfl rfl ?_
     refine e_sa HF HM 0 rfl rfl rfl rfl rfl si_bk rfl hs5 (h1) ?_
     clear HM; intro w13_12 HM
     refine noS (by kernel_rfl) ?_
     refine ap HF (pastS (by kernel_rfl)) [13] #[true, true, true, true, true, true, true, true, true, true, true, true, true, true] [(8, .bool false)] fun a HF => ?_
     refine qn (by kernel_rfl) ?_
     replace HF := HF.to [(8, .bool false), (7, vP g7 0), (40, .bool false), (34, .bool false), (26, .bool false), (21, .bool false), (0, .slice (some ⟨gA, oA, none⟩) ((lenR l).1) cp), (15, .bool false), (6, vI ((lenR l).2)), (5, vI ((lenR l).1)), (4, vI 0), (3, vI 0), (2, vP g2 0)]
     exact ⟨cs, g7, HF.sub (by kernel_rfl), HM.picks [0, 1] (by decide) rfl, hs5, h1⟩
    refine all_cons ?_ all_nil
    refine qo HF (i := 11) rfl rfl ?_
    refine qt HF HM (cs := #[vB 0, vB 0, vI 0, vI 0, .slice none 0 0]) rfl (by kernel_rfl) rfl (by decide) ?_
    clear HF HM; intro a w7 g7 HF HM
    refine keepS (HM.picks [1] (by decide) rfl) (fun HS => ?_)
    refine qj [7] (by kernel_rfl) rfl ?_
    refine all_cons ?_ all_nil
    refine qo HF (i := 7) rfl rfl ?_
    refine e_cl HF [vB (Lb.getD 7 0), .slice (if cp = 8 then some ⟨gA, oA, none⟩ else (some ⟨gA, oA, none⟩ : Option Addr).map (·.add (8 * 1))) (((lenR l).1 - 4) - 8) (cp - 8)] rfl rfl ((qb6 (Lb.getD 7 0) hkd _ (((lenR l).1 - 4) - 8) (cp - 8) ((Lb.take (Lb.length - 4)).drop 8) B _ (hL.mem HM hB) (HM.le hB) (HM.old (by rw [hnL]; exact hrL.qnp (i := 8) (j := (lenR l).1 - 4) (by omega) (by omega) (by omega))) (by omega) (by rw [List.length_drop, List.length_take]; omega) (by omega) (qbm (qbl hlL _) _)).mono (fun _ _ h => h.none hp)) ?_
    rintro _ w60 ⟨⟨cs, rfl, hs5, h1⟩, hbw⟩
    refine ⟨_, rfl, ?_⟩
    replace HM := HM.call hbw
    clear HF; intro a HF
    refine keepS (HM.picks [1] (by decide) rfl) (fun HS => ?_)
    refine ap HF (fun _ => HS) [8, 9, 10] #[true, true, true, true, true, true, true, true, true, true, true, true, false, false] [(62, .bool false), (61, .agg cs)] fun a HF => ?_
    refine qj [12] (by kernel_rfl) rfl ?_
    refine all_cons ?_ all_nil
    refine qo HF (i := 12) rfl rfl ?_
    refine e_sa HF HM 0 rfl rfl rfl rfl rfl si_bk rfl hs5 (h1) ?_
    clear HM; intro w13_12 HM
    refine noS (by kernel_rfl) ?_
    refine ap HF (pastS (by kernel_rfl)) [13] #[true, true, true, true, true, true, true, true, true, true, true, true, true, true] [(8, .bool false)] fun a HF => ?_
    refine qn (by kernel_rfl) ?_
    replace HF := HF.to [(8, .bool false), (7, vP g7 0), (40, .bool false), (34, .bool false), (26, .bool false), (21, .bool false), (0, .slice (some ⟨gA, oA, none⟩) ((lenR l).1) cp), (15, .bool false), (6, vI ((lenR l).2)), (5, vI ((lenR l).1)), (4, vI 0), (3, vI 0), (2, vP g2 0)]
    exact ⟨cs, g7, HF.sub (by kernel_rfl), HM.picks [0, 1] (by decide) rfl, hs5, h1⟩
   clear HF HM; rintro a w13 ⟨cs, g7, HF, HM, hs5, h1⟩
   refine wp_seq (wp_seq (qa ?_))
   refine fp HF 2 0 [(64, .bool true)] fun a HF => ?_
   refine qb rfl (qe HF rfl (wp_seq (qa ?_)))
   refine fy HF HM 0 rfl rfl rfl (v := .agg #[vB 0, vB 0, vI 0, vI 0, .slice none 0 0]) (Yl.build (vs := []) rfl (by kernel_rfl) (by kernel_rfl)) fun a HF => ?_
   refine fo HF 1 rfl rfl ?_
   refine e_sa HF HM 1 rfl rfl rfl rfl rfl si_bk rfl rfl (by simp [Value.oneCell']) ?_
   clear HM; intro w15_1 HM
   refine fp HF 2 2 [(4, vI 106), (3, vI 0)] fun a HF => ?_
   refine qb rfl (wp_ret ?_)
   exact ret3 rfl HF (.cellS (i := 1) HF HM rfl rfl si_bk rfl) (.tmp HF rfl) (.tmp HF rfl) (qa1 (qbv hl0 hLb (by unfold blkOf; rw [if_neg (by rw [hs]; decide), if_neg (fun hh => hh hmg), if_neg (by omega), if_neg (by omega), hp])) HM.below)
  ·
   rcases HF.tf 40 rfl with ⟨hb40, HF⟩ | ⟨hb40, HF⟩
   ·
    have hd40 := bne_iff_ne.1 hb40
    have hkd : Lb.getD 7 0 ≠ 1 ∧ Lb.getD 7 0 ≠ 2 := by omega
    refine qe HF rfl (wp_seq (qa ?_))
    refine fy HF HM 0 rfl rfl rfl (v := .agg #[vB 0, vB 0, vI 0, vI 0, .slice none 0 0]) (Yl.build (vs := []) rfl (by kernel_rfl) (by kernel_rfl)) fun a HF => ?_
    refine fo HF 1 rfl rfl ?_
    refine e_sa HF HM 0 rfl rfl rfl rfl rfl si_bk rfl rfl (by simp [Value.oneCell']) ?_
    clear HM; intro w12_1 HM
    refine fp HF 2 2 [(4, vI 105), (3, vI 0)] fun a HF => ?_
    refine qb rfl (wp_ret ?_)
    exact ret3 rfl HF (.cellS (i := 0) HF HM rfl rfl si_bk rfl) (.tmp HF rfl) (.tmp HF rfl) (qa1 (qbv hl0 hLb (by unfold blkOf; rw [if_neg (by rw [hs]; decide), if_neg (fun hh => hh hmg), if_neg (by omega), if_pos hkd])) HM.below)
   have hd40 := bne_eq_false_iff_eq.1 hb40
   have hkd : Lb.getD 7 0 = 1 ∨ Lb.getD 7 0 = 2 := by omega
   refine qd HF rfl (wp_skip ?_)
   refine qax (fun aS wS => ∃ (Ab : Option Addr) (cb : Nat) (g7 : Nat), Fr aS 68 [] [(8, .bool true), (7, vP g7 0), (40, .bool false), (34, .bool false), (26, .bool false), (21, .bool false), (0, .slice (some ⟨gA, oA, none⟩) ((lenR l).1) cp), (15, .bool false), (6, vI ((lenR l).2)), (5, vI ((lenR l).1)), (4, vI 0), (3, vI 0), (2, vP g2 0)] ∧ Mem w wS [.blk g7 (b.cells Ab cb) 27, .row (.slice Ab b.evs.length cb) b.evs.length (b.evs.flatMap evL) 41 11, .blk g2 #[vB 0, vB 0, vI 0, vI 0, .slice none 0 0] 27] ∧ (b.evs.length ≤ cb)) ?_ ?_
   ·
    refine qag HM [.blk g2 #[vB 0, vB 0, vI 0, vI 0, .slice none 0 0] 27] [0] [12] fun HM HS => ?_
    refine ap HF (fun _ => HS) [0, 3, 4] #[true, false, false, true, true, false, false, false, false, false, false, false, false, false] [(57, vI ((lenR l).1)), (56, .slice (some ⟨gA, oA, none⟩) ((lenR l).1) cp), (53, .slice (some ⟨gA, oA, none⟩) ((lenR l).1) cp)] fun a HF => ?_
    refine ay HF HS 1 rfl rfl rfl (v := vP gA (oA + 7)) (Yl.indexAddr (ad := ⟨gA, oA, none⟩) (y := 7) (sz := 1) rfl rfl rfl (by omega) (by kernel_rfl)) fun a HF => ?_
    have hx271 := getD_lt hlL (k := 7) (by first | omega | (simp; omega))
    refine ay HF HS 2 rfl rfl rfl (v := vB (Lb.getD 7 0)) (Yl.qh rfl rfl (by kernel_rfl) (fun _ h => (h.old hrL).qa4 (k := 7) (qai (F := B8) (k := 7) (x := (Lb.getD 7 0)) ((getD_at 0 (k := 7) (by first | omega | (simp; omega))))))) fun a HF => ?_
    refine zh HF (fun _ => HS) (i := 5) rfl rfl (d := 58) rfl (by decide) (by kernel_rfl) (fun _ _ _ h => h) (v := vI (IntKind.i64.wrap (((lenR l).1 : Int) - 4))) (fun _ => Yl.pure (by kernel_rfl)) fun a HF => ?_
    replace HF := HF.sp 58 (vI ((lenR l).1 - 4 : Nat)) rfl (qi (by omega) (by omega))
    refine ay HF HS 6 rfl rfl rfl (v := .slice (if cp = 8 then some ⟨gA, oA, none⟩ else (some ⟨gA, oA, none⟩ : Option Addr).map (·.add (8 * 1))) (((lenR l).1 - 4) - 8) (cp - 8)) (Yl.qno ei_u8 (i := 8) (j := (lenR l).1 - 4) rfl rfl rfl rfl (by omega) (by omega)) fun a HF => ?_
    refine qj [7, 11] (by kernel_rfl) rfl ?_
    refine all_cons ?_ ?_
    ·refine qo HF (i := 7) rfl rfl ?_
     refine e_cl HF [vB (Lb.getD 7 0), .slice (if cp = 8 then some ⟨gA, oA, none⟩ else (some ⟨gA, oA, none⟩ : Option Addr).map (·.add (8 * 1))) (((lenR l).1 - 4) - 8) (cp - 8)] rfl rfl ((qb6 (Lb.getD 7 0) hkd _ (((lenR l).1 - 4) - 8) (cp - 8) ((Lb.take (Lb.length - 4)).drop 8) B _ (hL.mem HM hB) (HM.le hB) (HM.old (by rw [hnL]; exact hrL.qnp (i := 8) (j := (lenR l).1 - 4) (by omega) (by omega) (by omega))) (by omega) (by rw [List.length_drop, List.length_take]; omega) (by omega) (qbm (qbl hlL _) _)).mono (fun _ _ h => h.some hp)) ?_
     rintro _ w60 ⟨⟨Ab, cb, rfl, ho, hcb⟩, hbw⟩
     refine ⟨_, rfl, ?_⟩
     replace HM := HM.callRow hbw ho
     clear HF; intro a HF
     refine keepS (HM.picks [1] (by decide) rfl) (fun HS => ?_)
     refine ap HF (fun _ => HS) [8, 9, 10] #[true, true, true, true, true, true, true, true, true, true, true, false, false, false] [(62, .bool true), (61, .agg (b.cells Ab cb))] fun a HF => ?_
     refine qj [11] (by kernel_rfl) rfl ?_
     refine all_cons ?_ all_nil
     refine qo HF (i := 11) rfl rfl ?_
     refine qt HF HM (cs := #[vB 0, vB 0, vI 0, vI 0, .slice none 0 0]) rfl (by kernel_rfl) rfl (by decide) ?_
     clear HF HM; intro a w7 g7 HF HM
     refine keepS (HM.picks [2] (by decide) rfl) (fun HS => ?_)
     refine qj [12] (by kernel_rfl) rfl ?_
     refine all_cons ?_ all_nil
     refine qo HF (i := 12) rfl rfl ?_
     refine e_sa HF HM 0 rfl rfl rfl rfl rfl si_bk rfl rfl (qbk _ _ _) ?_
     clear HM; intro w13_12 HM
     refine noS (by kernel_rfl) ?_
     refine ap HF (pastS (by kernel_rfl)) [13] #[true, true, true, true, true, true, true, true, true, true, true, true, true, true] [(8, .bool true)] fun a HF => ?_
     refine qn (by kernel_rfl) ?_
     replace HF := HF.to [(8, .bool true), (7, vP g7 0), (40, .bool false), (34, .bool false), (26, .bool false), (21, .bool false), (0, .slice (some ⟨gA, oA, none⟩) ((lenR l).1) cp), (15, .bool false), (6, vI ((lenR l).2)), (5, vI ((lenR l).1)), (4, vI 0), (3, vI 0), (2, vP g2 0)]
     exact ⟨Ab, cb, g7, HF.sub (by kernel_rfl), HM.picks [0, 1, 2] (by decide) rfl, hcb⟩
    refine all_cons ?_ all_nil
    refine qo HF (i := 11) rfl rfl ?_
    refine qt HF HM (cs := #[vB 0, vB 0, vI 0, vI 0, .slice none 0 0]) rfl (by kernel_rfl) rfl (by decide) ?_
    clear HF HM; intro a w7 g7 HF HM
    refine keepS (HM.picks [1] (by decide) rfl) (fun HS => ?_)
    refine qj [7] (by kernel_rfl) rfl ?_
    refine all_cons ?_ all_nil
    refine qo HF (i := 7) rfl rfl ?_
    refine e_cl HF [vB (Lb.getD 7 0), .slice (if cp = 8 then some ⟨gA, oA, none⟩ else (some ⟨gA, oA, none⟩ : Option Addr).map (·.add (8 * 1))) (((lenR l).1 - 4) - 8) (cp - 8)] rfl rfl ((qb6 (Lb.getD 7 0) hkd _ (((lenR l).1 - 4) - 8) (cp - 8) ((Lb.take (Lb.length - 4)).drop 8) B _ (hL.mem HM hB) (HM.le hB) (HM.old (by rw [hnL]; exact hrL.qnp (i := 8) (j := (lenR l).1 - 4) (by omega) (by omega) (by omega))) (by omega) (by rw [List.length_drop, List.length_take]; omega) (by omega) (qbm (qbl hlL _) _)).mono (fun _ _ h => h.some hp)) ?_
    rintro _ w60 ⟨⟨Ab, cb, rfl, ho, hcb⟩, hbw⟩
    refine ⟨_, rfl, ?_⟩
    replace HM := HM.callRow hbw ho
    clear HF; intro a HF
    refine keepS (HM.picks [2] (by decide) rfl) (fun HS => ?_)
    refine ap HF (fun _ => HS) [8, 9, 10] #[true, true, true, true, true, true, true, true, true, true, true, true, false, false] [(62, .bool true), (61, .agg (b.cells Ab cb))] fun a HF => ?_
    refine qj [12] (by kernel_rfl) rfl ?_
    refine all_cons ?_ all_nil
    refine qo HF (i := 12) rfl rfl ?_
    refine e_sa HF HM 1 rfl rfl rfl rfl rfl si_bk rfl rfl (qbk _ _ _) ?_
    clear HM; intro w13_12 HM
    refine noS (by kernel_rfl) ?_
    refine ap HF (pastS (by kernel_rfl)) [13] #[true, true, true, true, true, true, true, true, true, true, true, true, true, true] [(8, .bool true)] fun a HF => ?_
    refine qn (by kernel_rfl) ?_
    replace HF := HF.to [(8, .bool true), (7, vP g7 0), (40, .bool false), (34, .bool false), (26, .bool false), (21, .bool false), (0, .slice (some ⟨gA, oA, none⟩) ((lenR l).1) cp), (15, .bool false), (6, vI ((lenR l).2)), (5, vI ((lenR l).1)), (4, vI 0), (3, vI 0), (2, vP g2 0)]
    exact ⟨Ab, cb, g7, HF.sub (by kernel_rfl), HM.picks [1, 0, 2] (by decide) rfl, hcb⟩
   clear HF HM; rintro a w13 ⟨Ab, cb, g7, HF, HM, hcb⟩
   refine wp_seq (wp_seq (qa ?_))
   refine fp HF 2 0 [(64, .bool false)] fun a HF => ?_
   refine qb rfl (qd HF rfl (wp_skip (wp_seq (qa ?_))))
   refine fy HF HM 0 rfl rfl rfl (v := .agg (b.cells Ab cb)) (Yl.zc rfl rfl si_bk rfl (fun _ h => qf (h.blk (i := 0) rfl))) fun a HF => ?_
   refine fp HF 1 1 [(67, vI ((lenR l).1))] fun a HF => ?_
   refine fo HF 2 rfl rfl ?_
   refine e_sa HF HM 2 rfl rfl rfl rfl rfl si_bk rfl rfl (qbk _ _ _) ?_
   clear HM; intro w16_2 HM
   refine fp HF 2 3 [(4, vI 0), (3, vI ((lenR l).1))] fun a HF => ?_
   refine qb rfl (wp_ret ?_)
   exact ret3 rfl HF (.cellS (i := 2) HF HM rfl rfl si_bk rfl) (.tmp HF rfl) (.tmp HF rfl) (qjj (qjk (e := 0) hl0 hLb (by unfold blkOf; rw [if_neg (by rw [hs]; decide), if_neg (fun hh => hh hmg), if_neg (by omega), if_neg (by omega), hp])) (HM.own (i := 1) rfl) hcb HM.below)
 have hd45 := bne_eq_false_iff_eq.1 hb45
 have hkd : Lb.getD 7 0 = 1 ∨ Lb.getD 7 0 = 2 := by omega
 refine fp HF 6 5 [(40, .bool false)] fun a HF => ?_
 refine qb rfl ?_
 rcases hp : qes (Lb.getD 7 0) ((Lb.take (Lb.length - 4)).drop 8) with _ | b
 ·
  refine qd HF rfl (wp_skip ?_)
  refine qax (fun aS wS => ∃ (cs : Array Value) (g7 : Nat), Fr aS 68 [] [(8, .bool false), (7, vP g7 0), (40, .bool false), (34, .bool false), (26, .bool false), (21, .bool false), (0, .slice (some ⟨gA, oA, none⟩) ((lenR l).1) cp), (15, .bool false), (6, vI ((lenR l).2)), (5, vI ((lenR l).1)), (4, vI 0), (3, vI 0), (2, vP g2 0)] ∧ Mem w wS [.blk g7 cs 27, .blk g2 #[vB 0, vB 0, vI 0, vI 0, .slice none 0 0] 27] ∧ (cs.size = 5) ∧ (∀ v ∈ cs.toList, v.oneCell' = true)) ?_ ?_
  ·
   refine qag HM [.blk g2 #[vB 0, vB 0, vI 0, vI 0, .slice none 0 0] 27] [0] [12] fun HM HS => ?_
   refine ap HF (fun _ => HS) [0, 3, 4] #[true, false, false, true, true, false, false, false, false, false, false, false, false, false] [(57, vI ((lenR l).1)), (56, .slice (some ⟨gA, oA, none⟩) ((lenR l).1) cp), (53, .slice (some ⟨gA, oA, none⟩) ((lenR l).1) cp)] fun a HF => ?_
   refine ay HF HS 1 rfl rfl rfl (v := vP gA (oA + 7)) (Yl.indexAddr (ad := ⟨gA, oA, none⟩) (y := 7) (sz := 1) rfl rfl rfl (by omega) (by kernel_rfl)) fun a HF => ?_
   have hx359 := getD_lt hlL (k := 7) (by first | omega | (simp; omega))
   refine ay HF HS 2 rfl rfl rfl (v := vB (Lb.getD 7 0)) (Yl.qh rfl rfl (by kernel_rfl) (fun _ h => (h.old hrL).qa4 (k := 7) (qai (F := B8) (k := 7) (x := (Lb.getD 7 0)) ((getD_at 0 (k := 7) (by first | omega | (simp; omega))))))) fun a HF => ?_
   refine zh HF (fun _ => HS) (i := 5) rfl rfl (d := 58) rfl (by decide) (by kernel_rfl) (fun _ _ _ h => h) (v := vI (IntKind.i64.wrap (((lenR l).1 : Int) - 4))) (fun _ => Yl.pure (by kernel_rfl)) fun a HF => ?_
   replace HF := HF.sp 58 (vI ((lenR l).1 - 4 : Nat)) rfl (qi (by omega) (by omega))
   refine ay HF HS 6 rfl rfl rfl (v := .slice (if cp = 8 then some ⟨gA, oA, none⟩ else (some ⟨gA, oA, none⟩ : Option Addr).map (·.add (8 * 1))) (((lenR l).1 - 4) - 8) (cp - 8)) (Yl.qno ei_u8 (i := 8) (j := (lenR l).1 - 4) rfl rfl rfl rfl (by omega) (by omega)) fun a HF => ?_
   refine qj [7, 11] (by kernel_rfl) rfl ?_
   refine all_cons ?_ ?_
   ·refine qo HF (i := 7) rfl rfl ?_
    refine e_cl HF [vB (Lb.getD 7 0), .slice (if cp = 8 then some ⟨gA, oA, none⟩ else (some ⟨gA, oA, none⟩ : Option Addr).map (·.add (8 * 1))) (((lenR l).1 - 4) - 8) (cp - 8)] rfl rfl ((qb6 (Lb.getD 7 0) hkd _ (((lenR l).1 - 4) - 8) (cp - 8) ((Lb.take (Lb.length - 4)).drop 8) B _ (hL.mem HM hB) (HM.le hB) (HM.old (by rw [hnL]; exact hrL.qnp (i := 8) (j := (lenR l).1 - 4) (by omega) (by omega) (by omega))) (by omega) (by rw [List.length_drop, List.length_take]; omega) (by omega) (qbm (qbl hlL _) _)).mono (fun _ _ h => h.none hp)) ?_
    rintro _ w60 ⟨⟨cs, rfl, hs5, h1⟩, hbw⟩
    refine ⟨_, rfl, ?_⟩
    replace HM := HM.call hbw
    clear HF; intro a HF
    refine keepS (HM.picks [0] (by decide) rfl) (fun HS => ?_)
    refine ap HF (fun _ => HS) [8, 9, 10] #[true, true, true, true, true, true, true, true, true, true, true, false, false, false] [(62, .bool false), (61, .agg cs)] fun a HF => ?_
    refine qj [11] (by kernel_rfl) rfl ?_
    refine all_cons ?_ all_nil
    refine qo HF (i := 11) rfl rfl ?_
    refine qt HF HM (cs := #[vB 0, vB 0, vI 0, vI 0, .slice none 0 0]) rfl (by kernel_rfl) rfl (by decide) ?_
    clear HF HM; intro a w7 g7 HF HM
    refine keepS (HM.picks [1] (by decide) rfl) (fun HS => ?_)
    refine qj [12] (by kernel_rfl) rfl ?_
    refine all_cons ?_ all_nil
    refine qo HF (i := 12) rfl rfl ?_
    refine e_sa HF HM 0 rfl rfl rfl rfl rfl si_bk rfl hs5 (h1) ?_
    clear HM; intro w13_12 HM
    refine noS (by kernel_rfl) ?_
    refine ap HF (pastS (by kernel_rfl)) [13] #[true, true, true, true, true, true, true, true, true, true, true, true, true, true] [(8, .bool false)] fun a HF => ?_
    refine qn (by kernel_rfl) ?_
    exact ⟨cs, g7, HF.sub (by kernel_rfl), HM.picks [0, 1] (by decide) rfl, hs5, h1⟩
   refine all_cons ?_ all_nil
   refine qo HF (i := 11) rfl rfl ?_
   refine qt HF HM (cs := #[vB 0, vB 0, vI 0, vI 0, .slice none 0 0]) rfl (by kernel_rfl) rfl (by decide) ?_
   clear HF HM; intro a w7 g7 HF HM
   refine keepS (HM.picks [1] (by decide) rfl) (fun HS => ?_)
   refine qj [7] (by kernel_rfl) rfl ?_
   refine all_cons ?_ all_nil
   refine qo HF (i := 7) rfl rfl ?_
   refine e_cl HF [vB (Lb.getD 7 0), .slice (if cp = 8 then some ⟨gA, oA, none⟩ else (some ⟨gA, oA, none⟩ : Option Addr).map (·.add (8 * 1))) (((lenR l).1 - 4) - 8) (cp - 8)] rfl rfl ((qb6 (Lb.getD 7 0) hkd _ (((lenR l).1 - 4) - 8) (cp - 8) ((Lb.take (Lb.length - 4)).drop 8) B _ (hL.mem HM hB) (HM.le hB) (HM.old (by rw [hnL]; exact hrL.qnp (i := 8) (j := (lenR l).1 - 4) (by omega) (by omega) (by omega))) (by omega) (by rw [List.length_drop, List.length_take]; omega) (by omega) (qbm (qbl hlL _) _)).mono (fun _ _ h => h.none hp)) ?_
   rintro _ w60 ⟨⟨cs, rfl, hs5, h1⟩, hbw⟩
   refine ⟨_, rfl, ?_⟩
   replace HM := HM.call hbw
   clear HF; intro a HF
   refine keepS (HM.picks [1] (by decide) rfl) (fun HS => ?_)
   refine ap HF (fun _ => HS) [8, 9, 10] #[true, true, true, true, true, true, true, true, true, true, true, true, false, false] [(62, .bool false), (61, .agg cs)] fun a HF => ?_
   refine qj [12] (by kernel_rfl) rfl ?_
   refine all_cons ?_ all_nil
   refine qo HF (i := 12) rfl rfl ?_
   refine e_sa HF HM 0 rfl rfl rfl rfl rfl si_bk rfl hs5 (h1) ?_
   clear HM; intro w13_12 HM
   refine noS (by kernel_rfl) ?_
   refine ap HF (pastS (by kernel_rfl)) [13] #[true, true, true, true, true, true, true, true, true, true, true, true, true, true] [(8, .bool false)] fun a HF => ?_
   refine qn (by kernel_rfl) ?_
   exact ⟨cs, g7, HF.sub (by kernel_rfl), HM.picks [0, 1] (by decide) rfl, hs5, h1⟩
  clear HF HM; rintro a w13 ⟨cs, g7, HF, HM, hs5, h1⟩
  refine wp_seq (wp_seq (qa ?_))
  refine fp HF 2 0 [(64, .bool true)] fun a HF => ?_
  refine qb rfl (qe HF rfl (wp_seq (qa ?_)))
  refine fy HF HM 0 rfl rfl rfl (v := .agg #[vB 0, vB 0, vI 0, vI 0, .slice none 0 0]) (Yl.build (vs := []) rfl (by kernel_rfl) (by kernel_rfl)) fun a HF => ?_
  refine fo HF 1 rfl rfl ?_
  refine e_sa HF HM 1 rfl rfl rfl rfl rfl si_bk rfl rfl (by simp [Value.oneCell']) ?_
  clear HM; intro w15_1 HM
  refine fp HF 2 2 [(4, vI 106), (3, vI 0)] fun a HF => ?_
  refine qb rfl (wp_ret ?_)
  exact ret3 rfl HF (.cellS (i := 1) HF HM rfl rfl si_bk rfl) (.tmp HF rfl) (.tmp HF rfl) (qa1 (qbv hl0 hLb (by unfold blkOf; rw [if_neg (by rw [hs]; decide), if_neg (fun hh => hh hmg), if_neg (by omega), if_neg (by omega), hp])) HM.below)
 ·
  refine qd HF rfl (wp_skip ?_)
  refine qax (fun aS wS => ∃ (Ab : Option Addr) (cb : Nat) (g7 : Nat), Fr aS 68 [] [(8, .bool true), (7, vP g7 0), (40, .bool false), (34, .bool false), (26, .bool false), (21, .bool false), (0, .slice (some ⟨gA, oA, none⟩) ((lenR l).1) cp), (15, .bool false), (6, vI ((lenR l).2)), (5, vI ((lenR l).1)), (4, vI 0), (3, vI 0), (2, vP g2 0)] ∧ Mem w wS [.blk g7 (b.cells Ab cb) 27, .row (.slice Ab b.evs.length cb) b.evs.length (b.evs.flatMap evL) 41 11, .blk g2 #[vB 0, vB 0, vI 0, vI 0, .slice none 0 0] 27] ∧ (b.evs.length ≤ cb)) ?_ ?_
  ·
   refine qag HM [.blk g2 #[vB 0, vB 0, vI 0, vI 0, .slice none 0 0] 27] [0] [12] fun HM HS => ?_
   refine ap HF (fun _ => HS) [0, 3, 4] #[true, false, false, true, true, false, false, false, false, false, false, false, false, false] [(57, vI ((lenR l).1)), (56, .slice (some ⟨gA, oA, none⟩) ((lenR l).1) cp), (53, .slice (some ⟨gA, oA, none⟩) ((lenR l).1) cp)] fun a HF => ?_
   refine ay HF HS 1 rfl rfl rfl (v := vP gA (oA + 7)) (Yl.indexAddr (ad := ⟨gA, oA, none⟩) (y := 7) (sz := 1) rfl rfl rfl (by omega) (by kernel_rfl)) fun a HF => ?_
   have hx438 := getD_lt hlL (k := 7) (by first | omega | (simp; omega))
   refine ay HF HS 2 rfl rfl rfl (v := vB (Lb.getD 7 0)) (Yl.qh rfl rfl (by kernel_rfl) (fun _ h => (h.old hrL).qa4 (k := 7) (qai (F := B8) (k := 7) (x := (Lb.getD 7 0)) ((getD_at 0 (k := 7) (by first | omega | (simp; omega))))))) fun a HF => ?_
   refine zh HF (fun _ => HS) (i := 5) rfl rfl (d := 58) rfl (by decide) (by kernel_rfl) (fun _ _ _ h => h) (v := vI (IntKind.i64.wrap (((lenR l).1 : Int) - 4))) (fun _ => Yl.pure (by kernel_rfl)) fun a HF => ?_
   replace HF := HF.sp 58 (vI ((lenR l).1 - 4 : Nat)) rfl (qi (by omega) (by omega))
   refine ay HF HS 6 rfl rfl rfl (v := .slice (if cp = 8 then some ⟨gA, oA, none⟩ else (some ⟨gA, oA, none⟩ : Option Addr).map (·.add (8 * 1))) (((lenR l).1 - 4) - 8) (cp - 8)) (Yl.qno ei_u8 (i := 8) (j := (lenR l).1 - 4) rfl rfl rfl rfl (by omega) (by omega)) fun a HF => ?_
   refine qj [7, 11] (by kernel_rfl) rfl ?_
   refine all_cons ?_ ?_
   ·refine qo HF (i := 7) rfl rfl ?_
    refine e_cl HF [vB (Lb.getD 7 0), .slice (if cp = 8 then some ⟨gA, oA, none⟩ else (some ⟨gA, oA, none⟩ : Option Addr).map (·.add (8 * 1))) (((lenR l).1 - 4) - 8) (cp - 8)] rfl rfl ((qb6 (Lb.getD 7 0) hkd _ (((lenR l).1 - 4) - 8) (cp - 8) ((Lb.take (Lb.length - 4)).drop 8) B _ (hL.mem HM hB) (HM.le hB) (HM.old (by rw [hnL]; exact hrL.qnp (i := 8) (j := (lenR l).1 - 4) (by omega) (by omega) (by omega))) (by omega) (by rw [List.length_drop, List.length_take]; omega) (by omega) (qbm (qbl hlL _) _)).mono (fun _ _ h => h.some hp)) ?_
    rintro _ w60 ⟨⟨Ab, cb, rfl, ho, hcb⟩, hbw⟩
    refine ⟨_, rfl, ?_⟩
    replace HM := HM.callRow hbw ho
    clear HF; intro a HF
    refine keepS (HM.picks [1] (by decide) rfl) (fun HS => ?_)
    refine ap HF (fun _ => HS) [8, 9, 10] #[true, true, true, true, true, true, true, true, true, true, true, false, false, false] [(62, .bool true), (61, .agg (b.cells Ab cb))] fun a HF => ?_
    refine qj [11] (by kernel_rfl) rfl ?_
    refine all_cons ?_ all_nil
    refine qo HF (i := 11) rfl rfl ?_
    refine qt HF HM (cs := #[vB 0, vB 0, vI 0, vI 0, .slice none 0 0]) rfl (by kernel_rfl) rfl (by decide) ?_
    clear HF HM; intro a w7 g7 HF HM
    refine keepS (HM.picks [2] (by decide) rfl) (fun HS => ?_)
    refine qj [12] (by kernel_rfl) rfl ?_
    refine all_cons ?_ all_nil
    refine qo HF (i := 12) rfl rfl ?_
    refine e_sa HF HM 0 rfl rfl rfl rfl rfl si_bk rfl rfl (qbk _ _ _) ?_
    clear HM; intro w13_12 HM
    refine noS (by kernel_rfl) ?_
    refine ap HF (pastS (by kernel_rfl)) [13] #[true, true, true, true, true, true, true, true, true, true, true, true, true, true] [(8, .bool true)] fun a HF => ?_
    refine qn (by kernel_rfl) ?_
    exact ⟨Ab, cb, g7, HF.sub (by kernel_rfl), HM.picks [0, 1, 2] (by decide) rfl, hcb⟩
   refine all_cons ?_ all_nil
   refine qo HF (i := 11) rfl rfl ?_
   refine qt HF HM (cs := #[vB 0, vB 0, vI 0, vI 0, .slice none 0 0]) rfl (by kernel_rfl) rfl (by decide) ?_
   clear HF HM; intro a w7 g7 HF HM
   refine keepS (HM.picks [1] (by decide) rfl) (fun HS => ?_)
   refine qj [7] (by kernel_rfl) rfl ?_
   refine all_cons ?_ all_nil
   refine qo HF (i := 7) rfl rfl ?_
   refine e_cl HF [vB (Lb.getD 7 0), .slice (if cp = 8 then some ⟨gA, oA, none⟩ else (some ⟨gA, oA, none⟩ : Option Addr).map (·.add (8 * 1))) (((lenR l).1 - 4) - 8) (cp - 8)] rfl rfl ((qb6 (Lb.getD 7 0) hkd _ (((lenR l).1 - 4) - 8) (cp - 8) ((Lb.take (Lb.length - 4)).drop 8) B _ (hL.mem HM hB) (HM.le hB) (HM.old (by rw [hnL]; exact hrL.qnp (i := 8) (j := (lenR l).1 - 4) (by omega) (by omega) (by omega))) (by omega) (by rw [List.length_drop, List.length_take]; omega) (by omega) (qbm (qbl hlL _) _)).mono (fun _ _ h => h.some hp)) ?_
   rintro _ w60 ⟨⟨Ab, cb, rfl, ho, hcb⟩, hbw⟩
   refine ⟨_, rfl, ?_⟩
   replace HM := HM.callRow hbw ho
   clear HF; intro a HF
   refine keepS (HM.picks [2] (by decide) rfl) (fun HS => ?_)
   refine ap HF (fun _ => HS) [8, 9, 10] #[true, true, true, true, true, true, true, true, true, true, true, true, false, false] [(62, .bool true), (61, .agg (b.cells Ab cb))] fun a HF => ?_
   refine qj [12] (by kernel_rfl) rfl ?_
   refine all_cons ?_ all_nil
   refine qo HF (i := 12) rfl rfl ?_
   refine e_sa HF HM 1 rfl rfl rfl rfl rfl si_bk rfl rfl (qbk _ _ _) ?_
   clear HM; intro w13_12 HM
   refine noS (by kernel_rfl) ?_
   refine ap HF (pastS (by kernel_rfl)) [13] #[true, true, true, true, true, true, true, true, true, true, true, true, true, true] [(8, .bool true)] fun a HF => ?_
   refine qn (by kernel_rfl) ?_
   exact ⟨Ab, cb, g7, HF.sub (by kernel_rfl), HM.picks [1, 0, 2] (by decide) rfl, hcb⟩
  clear HF HM; rintro a w13 ⟨Ab, cb, g7, HF, HM, hcb⟩
  refine wp_seq (wp_seq (qa ?_))
  refine fp HF 2 0 [(64, .bool false)] fun a HF => ?_
  refine qb rfl (qd HF rfl (wp_skip (wp_seq (qa ?_))))
  refine fy HF HM 0 rfl rfl rfl (v := .agg (b.cells Ab cb)) (Yl.zc rfl rfl si_bk rfl (fun _ h => qf (h.blk (i := 0) rfl))) fun a HF => ?_
  refine fp HF 1 1 [(67, vI ((lenR l).1))] fun a HF => ?_
  refine fo HF 2 rfl rfl ?_
  refine e_sa HF HM 2 rfl rfl rfl rfl rfl si_bk rfl rfl (qbk _ _ _) ?_
  clear HM; intro w16_2 HM
  refine fp HF 2 3 [(4, vI 0), (3, vI ((lenR l).1))] fun a HF => ?_
  refine qb rfl (wp_ret ?_)
  exact ret3 rfl HF (.cellS (i := 2) HF HM rfl rfl si_bk rfl) (.tmp HF rfl) (.tmp HF rfl) (qjj (qjk (e := 0) hl0 hLb (by unfold blkOf; rw [if_neg (by rw [hs]; decide), if_neg (fun hh => hh hmg), if_neg (by omega), if_neg (by omega), hp])) (HM.own (i := 1) rfl) hcb HM.below)
theorem qah.as {w w' : World} {er er' : Nat} {R R' : List Nat} {r : Ending} (h : qah w er R r w') (h1 : er = er') (h2 : R = R') : qah w er' R' r w' := by subst h1; subst h2; exact h
theorem qtn (b : Bk) (hok : b.Ok) (A : Option Addr) (c B : Nat) (w : World) (hL : LaidX B w) (hB : B ≤ w.heap.size) (hr : Rd w w.heap.size 11 A b.evs.length (b.evs.flatMap evL)) (hn : b.evs.length ≤ 1000000) {er : Nat} {R : List Nat} (h1 : b.err = er) (h2 : b.out = R) : Calls Tryz.prog 54 #[.agg (b.cells A c)] w (qah w er R) :=
 (qjl b hok A c B w hL hB hr hn).mono fun _ _ h => h.as h1 h2
theorem qto (b : Bk) (hok : b.Ok) (A : Option Addr) (c B : Nat) (w : World) (hL : LaidX B w) (hB : B ≤ w.heap.size) (hr : Rd w w.heap.size 11 A b.evs.length (b.evs.flatMap evL)) (hn : b.evs.length ≤ 1000000) {er : Nat} (h1 : b.err = er) : Calls Tryz.prog 48 #[.agg (b.cells A c)] w (Is w (.int .i64 (er : Int))) :=
 (qq0 b hok A c B w hL hB hr hn).mono fun _ _ h => by rw [h1] at h; exact h
theorem qky (A : Option Addr) (n cp : Nat) (l : List Nat) (B : Nat) (w : World) (hL : LaidX B w) (hB : B ≤ w.heap.size) (hr : Rd w w.heap.size 1 A n (l.map B8)) (hc : n ≤ cp) (hln : l.length = n) (hn : n ≤ 9223372036854775807) (hl : ∀ b ∈ l, b < 256) {b : Bk} {m er : Nat} (h : readB l = (b, m, er)) :
  Calls Tryz.prog 53 #[.slice A n cp] w fun r w' => (∃ A c, r = .returned (.tuple #[.agg (b.cells A c), .int .i64 (m : Int), .int .i64 (er : Int)]) ∧ w'.ownsRow w.heap.size 41 11 (.slice A b.evs.length c) b.evs.length (b.evs.flatMap evL) ∧ b.evs.length ≤ c) ∧ Below w.heap.size w w' :=
 (qtk A n cp l B w hL hB hr hc hln hn hl).mono fun _ _ hh => by rw [h] at hh; exact hh
def tickE : Ev := { Ev.zero with seq := 5, time := 340, cpu := 2, kind := 5, ticks := 40, got := 7 }
def awX : List Nat := [13, 0, 0, 0, 113, 116, 1, 2, 7, 91, 144, 57, 154]
theorem qzw : tickE.Ok := ⟨⟨by decide, by decide⟩, ⟨by decide, by decide⟩, by decide, by decide, ⟨by decide, by decide⟩, ⟨by decide, by decide⟩, ⟨by decide, by decide⟩, ⟨by decide, by decide⟩, ⟨by decide, by decide⟩, by decide, ⟨by decide, by decide⟩⟩
theorem qxn : ∀ b ∈ awX, b < 256 := by decide
def atOf (b : Bs) (l : List Ev) : Nat → Bs
 | 0 => b
 | k + 1 => (l.getD k Ev.zero).at
theorem qmc : ∀ (l : List Ev) (b : Bs) (k : Nat), k < l.length → recs b (l.take (k + 1)) = recs b (l.take k) ++ zr (atOf b l k) (l.getD k Ev.zero)
 | [], _, _, h => by simp at h
 | e :: r, b, 0, _ => by simp [recs, atOf]
 | e :: r, b, k + 1, h => by
  have h' : k < r.length := by simpa using h
  have ih := qmc r e.at k h'
  rw [List.take_succ_cons, List.take_succ_cons, recs, recs, ih, List.append_assoc]
  congr 2
  cases k with
  | zero => rfl
  | succ k => rfl
theorem qmd {cpu : Nat} : ∀ (l : List Ev) (p : Option Ev) (b : Bs) (k : Nat), Chain cpu p b l → k < l.length → Fit (atOf b l k) (l.getD k Ev.zero)
 | [], _, _, _, _, h => by simp at h
 | e :: r, p, b, 0, hc, _ => hc.1
 | e :: r, p, b, k + 1, hc, h => by
  have h' : k < r.length := by simpa using h
  have ih := qmd r (some e) e.at k hc.2.2.2 h'
  cases k with
  | zero => exact ih
  | succ k => exact ih
theorem qyj {b : Bs} {e : Ev} (h : Fit b e) : zb b e = 0 ∧ qaf b e = zr b e := by
 have h1 : zb b e = 0 := by
  unfold zb
  rw [if_neg (by have := h.check; omega), if_pos ⟨h.right, h.behind⟩]
 exact ⟨h1, by unfold qaf; rw [if_pos h1]⟩
def Bk.atK (b : Bk) (k : Nat) : Bs := atOf b.base b.evs k
def Bk.sz (b : Bk) (k : Nat) : Nat := 12 + (vbytes b.cpu).length + (vbytes b.lost.toNat).length + (vbytes b.base.seq.toNat).length + (vbytes b.base.time.toNat).length + (recs b.base (b.evs.take k)).length
def Bk.big (b : Bk) (k : Nat) : Bool := decide (4096 < b.sz k + (vbytes k).length)
def Bk.qeq (b : Bk) : Nat := ((List.range b.evs.length).find? fun i => b.big (i + 1)).getD b.evs.length
def Bk.fill (b : Bk) : Nat × Nat := if b.fits = false then (0, 107) else (b.qeq, 0)
theorem sz_le (b : Bk) (k : Nat) : b.sz k ≤ 52 + 61 * k := by
 unfold Bk.sz
 have h1 := qm b.cpu
 have h2 := qm b.lost.toNat
 have h4 := qm b.base.seq.toNat
 have h5 := qm b.base.time.toNat
 have h6 := qfk (b.evs.take k) b.base
 rw [List.length_take] at h6
 have : min k b.evs.length ≤ k := Nat.min_le_left _ _
 have h7 : 61 * min k b.evs.length ≤ 61 * k := Nat.mul_le_mul_left _ this
 omega
theorem qyk (b : Bk) : b.sz 0 = 8 + ([b.cpu, b.lost.toNat, b.base.seq.toNat, b.base.time.toNat].flatMap vbytes).length + 4 := by
 unfold Bk.sz
 simp [recs]
 omega
theorem qtq {b : Bk} {k : Nat} (h : k < b.evs.length) : b.sz (k + 1) = b.sz k + (zr (b.atK k) (b.evs.getD k Ev.zero)).length := by
 unfold Bk.sz Bk.atK
 rw [qmc _ _ _ h, List.length_append]
 omega
theorem qph {b : Bk} {k : Nat} (hk : k < b.evs.length) (hno : ∀ i, i < k → b.big (i + 1) = false) (h : b.big (k + 1) = true) : b.qeq = k := by
 unfold Bk.qeq
 have : (List.range b.evs.length).find? (fun i => b.big (i + 1)) = some k := by
  rw [List.find?_eq_some_iff_append]
  refine ⟨h, List.range k, List.range' (k + 1) (b.evs.length - k - 1), ?_, ?_⟩
  ·rw [List.range_eq_range', List.range_eq_range']
   have e1 : b.evs.length = k + (b.evs.length - k) := by omega
   have e2 : b.evs.length - k = (b.evs.length - k - 1) + 1 := by omega
   conv => lhs; rw [e1, ← List.range'_append_1, e2, List.range'_succ]
   simp
  ·intro i hi
   have := hno i (List.mem_range.1 hi)
   simp [this]
 rw [this]
 rfl
theorem qh1 {b : Bk} (hno : ∀ i, i < b.evs.length → b.big (i + 1) = false) : b.qeq = b.evs.length := by
 unfold Bk.qeq
 have : (List.range b.evs.length).find? (fun i => b.big (i + 1)) = none := by
  rw [List.find?_eq_none]
  intro i hi
  have := hno i (List.mem_range.1 hi)
  simp [this]
 rw [this]
 rfl
theorem qkz {w w' : World} {b : Bk} {n e : Nat} (h : b.fill = (n, e)) (hb : Below w.heap.size w w') : Is w (.tuple #[.int .i64 (b.fill.1 : Int), .int .i64 (b.fill.2 : Int)]) (.returned (.tuple #[.int .i64 (n : Int), .int .i64 (e : Int)])) w' := by rw [h]; exact ⟨rfl, hb⟩
end Go.Proofs.YtfeheccoijnbaaaGreatDoor
namespace Go.Proofs.YtfeheccoijnbaaaGreatDoor
open Go.RowKit Go.ChangeShapes Go.WideShapes Go.ChangeAt
section
variable {H : Type} {enc : TypeId × Value → H} {W : World} {b0 : Nat} {v : Value} {d : DataW H} {p : List MemPlace}
theorem bk_f0 : fieldAt Tryz.prog 27 0 0 5 = true := by kernel_rfl
theorem bk_f1 : fieldAt Tryz.prog 27 1 1 5 = true := by kernel_rfl
theorem bk_f2 : fieldAt Tryz.prog 27 2 2 3 = true := by kernel_rfl
theorem bk_f3 : fieldAt Tryz.prog 27 3 3 3 = true := by kernel_rfl
theorem bk_f4 : fieldAt Tryz.prog 27 4 4 25 = true := by kernel_rfl
theorem qpn : Tryz.prog.cellsOf 27 = 5 := by kernel_rfl
set_option maxRecDepth 100000 in
theorem qml {cs : List Value} {a b c d e : Value} (hl : cs.length = 5) (h0 : cs[0]? = some a) (h1 : cs[1]? = some b) (h2 : cs[2]? = some c) (h3 : cs[3]? = some d) (h4 : cs[4]? = some e) : cs = [a, b, c, d, e] := by
 refine qsj hl fun i hi => ?_
 have hi' : i < 5 := hi
 have hc : i = 0 ∨ i = 1 ∨ i = 2 ∨ i = 3 ∨ i = 4 := by omega
 rcases hc with rfl | rfl | rfl | rfl | rfl <;> assumption
theorem qws {A : Option Addr} {n : Nat} {l : List Ev} (h : Rd W W.heap.size 11 A n (l.flatMap evL)) : l.length = n := by
 have h1 := h.len
 rw [qbf evL 11 zf] at h1
 omega
end
end Go.Proofs.YtfeheccoijnbaaaGreatDoor
namespace Go.Proofs.YtfeheccoijnbaaaGreatDoor
open Go.RowKit
theorem qu0 (b : Bk) (hok : b.Ok) (A : Option Addr) (c B : Nat) (w : World) (hL : LaidX B w) (hB : B ≤ w.heap.size) (hr : Rd w w.heap.size 11 A b.evs.length (b.evs.flatMap evL)) (hn : b.evs.length ≤ 1000000) :
    Calls Tryz.prog 47 #[.agg (b.cells A c)] w (Is w (.tuple #[.int .i64 (b.fill.1 : Int), .int .i64 (b.fill.2 : Int)])) := by
 refine qg (vs := [.agg (b.cells A c)]) Tryz.func47 rfl rfl (by kernel_rfl) (σ0 := [(0, .agg (b.cells A c))]) rfl ?_
 intro a HF
 have HM := Mem.start w
 refine wp_seq (qa ?_)
 refine fo HF 0 rfl rfl ?_
 refine e_box HF HM (cs := (b.cells A c)) rfl rfl rfl rfl (by decide) ?_
 clear HF HM; intro a w1 g1 HF HM
 refine fp HF 2 1 [(3, vI 0), (2, vI 0)] fun a HF => ?_
 refine qb rfl (wp_seq (wp_seq (qa ?_)))
 refine fy HF HM 0 rfl rfl rfl (v := .agg (b.cells A c)) (Yl.zc rfl rfl si_bk rfl (fun _ h => qf (h.blk (i := 0) rfl))) fun a HF => ?_
 refine fo HF 1 rfl rfl ?_
 refine e_is HF HM [.agg (b.cells A c)] (.bool b.fits) rfl rfl (qeh b hok A c B _ (hL.mem HM hB) (HM.le hB) (HM.old hr) hn) fun w11 hbw HM a HF => ?_
 refine fp HF 1 2 [(12, .bool (!b.fits))] fun a HF => ?_
 refine qb rfl ?_
 rcases HF.tf 12 rfl with ⟨hb12, HF⟩ | ⟨hb12, HF⟩
 ·
  have hf : b.fits = false := by simpa using hb12
  refine qe HF rfl (wp_seq (qa ?_))
  refine fp HF 2 0 [(3, vI 107), (2, vI 0)] fun a HF => ?_
  refine qb rfl (wp_ret ?_)
  exact ret2 rfl HF (.tmp HF rfl) (.tmp HF rfl) (qkz (by unfold Bk.fill; rw [if_pos hf]) HM.below)
 have hf : b.fits = true := by simpa using hb12
 refine qd HF rfl (wp_skip (wp_seq (wp_seq (qa ?_))))
 refine fp HF 1 0 [(13, vP g1 4)] fun a HF => ?_
 refine fy HF HM 1 rfl rfl rfl (v := .slice A b.evs.length c) (Yl.qh rfl rfl (by kernel_rfl) (fun _ h => h.cell (i := 0) rfl (rfl))) fun a HF => ?_
 refine fy HF HM 2 rfl rfl rfl (Yl.len rfl rfl (by kernel_rfl)) fun a HF => ?_
 refine fp HF 1 3 [(16, .bool ((b.evs.length : Int) == (0 : Int)))] fun a HF => ?_
 refine qb rfl ?_
 rcases HF.tf 16 rfl with ⟨hb16, HF⟩ | ⟨hb16, HF⟩
 ·
  have hd16 := eq_of_beq hb16
  refine qe HF rfl (wp_seq (qa ?_))
  refine fp HF 2 0 [(3, vI 0), (2, vI 0)] fun a HF => ?_
  refine qb rfl (wp_ret ?_)
  exact ret2 rfl HF (.tmp HF rfl) (.tmp HF rfl) (qkz (by unfold Bk.fill; rw [if_neg (by rw [hf]; decide), qh1 (fun i hi => absurd hi (by omega)), show b.evs.length = 0 by omega]) HM.below)
 have hd16 := ne_of_beq_false hb16
 have hk : b.kind ≠ 2 := fun h2 => by have := qhw hf h2; omega
 obtain ⟨m0, m1, m2, m3, m4⟩ := qhv hf hk
 obtain ⟨q1, q2, q3, q4⟩ := qku hok hf hk (by omega)
 obtain ⟨e0, r0, g0⟩ := qg3 hok (qeg hf hk).2 (by omega)
 have hch := g0.chain
 rw [← g0.base] at hch
 refine qd HF rfl (wp_skip (wp_seq (qa ?_)))
 refine fy HF HM 0 rfl rfl rfl (v := .agg (b.cells A c)) (Yl.zc rfl rfl si_bk rfl (fun _ h => qf (h.blk (i := 0) rfl))) fun a HF => ?_
 refine fo HF 1 rfl rfl ?_
 refine e_is HF HM [.agg (b.cells A c)] (.agg b.base.cells) rfl rfl (qpe b A c _ (HM.old hr) (by omega)) fun w18 hbw HM a HF => ?_
 refine fo HF 2 rfl rfl ?_
 refine qt HF HM (cs := #[vI 0, vI 0]) rfl (by kernel_rfl) rfl (by decide) ?_
 clear HF HM; intro a w4 g4 HF HM
 refine fo HF 3 rfl rfl ?_
 refine e_sa HF HM 0 rfl rfl rfl rfl rfl ⟨(by kernel_rfl), (by kernel_rfl)⟩ rfl rfl (qr6 b.base) ?_
 clear HM; intro w5_3 HM
 refine qb rfl (wp_seq (qa ?_))
 refine fp HF 1 0 [(19, vP g1 1)] fun a HF => ?_
 refine fy HF HM 1 rfl rfl rfl (v := vB b.cpu) (Yl.qh rfl rfl (by kernel_rfl) (fun _ h => h.cell (i := 1) rfl (rfl))) fun a HF => ?_
 refine fp HF 1 2 [(21, vQ (IntKind.u64.wrap (b.cpu : Int)))] fun a HF => ?_
 replace HF := HF.sp 21 (vQ b.cpu) rfl (qaj rfl (by omega))
 refine fp HF 1 3 [(22, vP g1 2)] fun a HF => ?_
 refine fy HF HM 4 rfl rfl rfl (v := vI b.lost) (Yl.qh rfl rfl (by kernel_rfl) (fun _ h => h.cell (i := 1) rfl (rfl))) fun a HF => ?_
 refine fp HF 1 5 [(24, vQ (IntKind.u64.wrap b.lost))] fun a HF => ?_
 replace HF := HF.sp 24 (vQ b.lost.toNat) rfl (qaj (by omega) (by omega))
 refine fp HF 1 6 [(25, vP g4 0)] fun a HF => ?_
 refine fy HF HM 7 rfl rfl rfl (v := vI b.base.seq) (Yl.qh rfl rfl (by kernel_rfl) (fun _ h => h.cell (i := 0) rfl (rfl))) fun a HF => ?_
 refine fp HF 1 8 [(27, vQ (IntKind.u64.wrap b.base.seq))] fun a HF => ?_
 replace HF := HF.sp 27 (vQ b.base.seq.toNat) rfl (qaj (by omega) (by omega))
 refine fp HF 1 9 [(28, vP g4 1)] fun a HF => ?_
 refine fy HF HM 10 rfl rfl rfl (v := vI b.base.time) (Yl.qh rfl rfl (by kernel_rfl) (fun _ h => h.cell (i := 0) rfl (rfl))) fun a HF => ?_
 refine fp HF 1 11 [(30, vQ (IntKind.u64.wrap b.base.time))] fun a HF => ?_
 replace HF := HF.sp 30 (vQ b.base.time.toNat) rfl (qaj (by omega) (by omega))
 refine fo HF 12 rfl rfl ?_
 refine ze HF HM (vs := [(0, vQ b.cpu), (1, vQ b.lost.toNat), (2, vQ b.base.seq.toNat), (3, vQ b.base.time.toNat)]) (cs := #[vQ b.cpu, vQ b.lost.toNat, vQ b.base.seq.toNat, vQ b.base.time.toNat]) rfl qgm (by decide) rfl (by kernel_rfl) rfl (by decide) ?_
 clear HF HM; intro a w31 g31 HF HM
 refine fo HF 13 rfl rfl ?_
 refine e_cl HF [vS g31 4 4] rfl rfl (qs8 _ 4 _ [b.cpu, b.lost.toNat, b.base.seq.toNat, b.base.time.toNat] _ (HM.rdBlk (i := 0) (n := 4) (size := 1) rfl rfl) (by intro x hx; simp only [List.mem_cons, List.not_mem_nil, or_false] at hx; omega) (by omega)) ?_
 rintro _ w32 ⟨⟨A32, c32, rfl, ho, hc32⟩, hbw⟩
 refine ⟨_, rfl, ?_⟩
 replace HM := HM.callRow hbw ho
 clear HF; intro a HF
 have hfl := qao [b.cpu, b.lost.toNat, b.base.seq.toNat, b.base.time.toNat]
 refine fy HF HM 14 rfl rfl rfl (Yl.len rfl rfl (by kernel_rfl)) fun a HF => ?_
 refine fp HF 1 15 [(34, vI (IntKind.i64.wrap (8 + ((([b.cpu, b.lost.toNat, b.base.seq.toNat, b.base.time.toNat].flatMap vbytes).length : Nat) : Int))))] fun a HF => ?_
 replace HF := HF.sp 34 (vI (8 + ([b.cpu, b.lost.toNat, b.base.seq.toNat, b.base.time.toNat].flatMap vbytes).length : Nat)) rfl (qi (by omega) (by simp only [List.length_cons, List.length_nil] at hfl; omega))
 refine fp HF 1 16 [(35, vI (IntKind.i64.wrap (((8 + ([b.cpu, b.lost.toNat, b.base.seq.toNat, b.base.time.toNat].flatMap vbytes).length : Nat) : Int) + 4)))] fun a HF => ?_
 replace HF := HF.sp 35 (vI (b.sz 0)) rfl (qi (by rw [qyk]; omega) (by have := sz_le b 0; omega))
 refine fp HF 1 17 [(5, vI (b.sz 0))] fun a HF => ?_
 refine qb rfl (wp_seq (wp_seq (qa ?_)))
 refine fp HF 1 0 [(36, vP g1 4)] fun a HF => ?_
 refine fy HF HM 1 rfl rfl rfl (v := .slice A b.evs.length c) (Yl.qh rfl rfl (by kernel_rfl) (fun _ h => h.cell (i := 3) rfl (rfl))) fun a HF => ?_
 refine fy HF HM 2 rfl rfl rfl (Yl.len rfl rfl (by kernel_rfl)) fun a HF => ?_
 refine fp HF 1 3 [(39, vI 0)] fun a HF => ?_
 refine qb rfl (wp_block ?_)
 replace HM := HM.picks (fs' := [.blk g4 b.base.cells 133, .blk g1 (b.cells A c) 27]) [2, 3] (by decide) rfl
 refine qs (fun mS aS wS => ∃ (k : Nat), (k ≤ b.evs.length) ∧ (∀ i, i < k → b.big (i + 1) = false) ∧ mS = b.evs.length - k ∧ Fr aS 70 [] [(39, vI k), (38, vI b.evs.length), (37, .slice A b.evs.length c), (5, vI (b.sz k)), (4, vP g4 0), (16, .bool false), (12, .bool false), (3, vI 0), (2, vI 0), (1, vP g1 0)] ∧ Mem w wS [.blk g4 ((b.atK k).cells) 133, .blk g1 (b.cells A c) 27]) (m := b.evs.length - 0) ⟨0, Nat.zero_le _, fun i hi => absurd hi (Nat.not_lt_zero _), rfl, HF.sub (by kernel_rfl), HM.picks [0, 1] (by decide) rfl⟩ ?_
 clear HF HM; rintro mS a w_ ⟨k, hk0, hno, rfl, HF, HM⟩
 refine wp_seq (qa ?_)
 refine fp HF 1 0 [(40, .bool (decide ((k : Int) < (b.evs.length : Int))))] fun a HF => ?_
 refine qb rfl (wp_seq ?_)
 rcases HF.tf 40 rfl with ⟨hb40, HF⟩ | ⟨hb40, HF⟩
 ·
  have hd40 := of_decide_eq_true hb40
  have hk40 : k < b.evs.length := by omega
  have hp := qyj (qmd b.evs none b.base k hch hk40)
  have hs0 := sz_le b k
  have hs1 := sz_le b (k + 1)
  have hvb := qm (k + 1)
  refine qe HF rfl (wp_skip (wp_seq (wp_block (wp_seq (qa ?_)))))
  refine fp HF 1 0 [(41, vI k)] fun a HF => ?_
  obtain ⟨gA, oA, rfl, _⟩ := hr.qy (Nat.lt_of_le_of_lt (Nat.zero_le _) (show k < b.evs.length from by omega)) (by decide)
  refine fy HF HM 1 rfl rfl rfl (v := vP gA (oA + k * 11)) (Yl.ix gA oA k 11 rfl rfl rfl) fun a HF => ?_
  refine fy HF HM 2 rfl rfl rfl (v := .agg ((b.evs.getD k Ev.zero).cells)) (Yl.zc rfl rfl ⟨(by kernel_rfl), (by kernel_rfl)⟩ rfl (fun _ h => (h.old hr).zt zf ((getD_at Ev.zero (k := k) (by first | omega | (simp; omega)))))) fun a HF => ?_
  refine fo HF 3 rfl rfl ?_
  refine qt HF HM (cs := #[vI 0, vI 0, vB 0, vB 0, vI 0, vI 0, vI 0, vI 0, vI 0, vQ 0, vI 0]) rfl (by kernel_rfl) rfl (by decide) ?_
  clear HF HM; intro a w7 g7 HF HM
  refine fp HF 1 4 [(6, vI k)] fun a HF => ?_
  refine fo HF 5 rfl rfl ?_
  refine e_sa HF HM 0 rfl rfl rfl rfl rfl ⟨(by kernel_rfl), (by kernel_rfl)⟩ rfl rfl (qan (b.evs.getD k Ev.zero)) ?_
  clear HM; intro w9_5 HM
  refine qb rfl (wp_seq (qa ?_))
  refine fy HF HM 0 rfl rfl rfl (v := .agg ((b.atK k).cells)) (Yl.zc rfl rfl ⟨(by kernel_rfl), (by kernel_rfl)⟩ rfl (fun _ h => qf (h.blk (i := 1) rfl))) fun a HF => ?_
  refine fy HF HM 1 rfl rfl rfl (v := .agg ((b.evs.getD k Ev.zero).cells)) (Yl.zc rfl rfl ⟨(by kernel_rfl), (by kernel_rfl)⟩ rfl (fun _ h => qf (h.blk (i := 0) rfl))) fun a HF => ?_
  refine fo HF 2 rfl rfl ?_
  refine e_cl HF [.agg ((b.atK k).cells), .agg ((b.evs.getD k Ev.zero).cells)] rfl rfl (qya (b.atK k) (b.evs.getD k Ev.zero) (hok.evs _ (qal _ (by omega))) B _ (hL.mem HM hB).laid (HM.le hB) (congrArg List.length hp.2) hp.1) ?_
  rintro _ w47 ⟨rfl, hbw⟩
  refine ⟨_, rfl, ?_⟩
  replace HM := HM.call hbw
  clear HF; intro a HF
  refine fp HF 5 3 [(8, vI ((zr (b.atK k) (b.evs.getD k Ev.zero)).length))] fun a HF => ?_
  refine qb rfl (wp_seq (qa ?_))
  refine fp HF 3 0 [(52, vI (IntKind.i64.wrap ((b.sz k : Int) + ((zr (b.atK k) (b.evs.getD k Ev.zero)).length : Int))))] fun a HF => ?_
  replace HF := HF.sp 52 (vI (b.sz (k + 1))) rfl (qi (by rw [qtq (by omega)]; omega) (by omega))
  refine fp HF 1 3 [(5, vI (b.sz (k + 1)))] fun a HF => ?_
  refine qb rfl (wp_seq (wp_seq (qa ?_)))
  refine fp HF 3 0 [(55, vI (IntKind.i64.wrap ((k : Int) + 1))), (53, vI (b.sz (k + 1)))] fun a HF => ?_
  replace HF := HF.sp 55 (vI (k + 1 : Nat)) rfl (qi (by omega) (by omega))
  refine fp HF 1 3 [(56, vQ (IntKind.u64.wrap ((k + 1 : Nat) : Int)))] fun a HF => ?_
  replace HF := HF.sp 56 (vQ (k + 1 : Nat)) rfl (qaj rfl (by omega))
  refine fo HF 4 rfl rfl ?_
  refine e_cl HF [vQ (k + 1 : Nat)] rfl rfl (qtp (k + 1) _ (by omega)) ?_
  rintro _ w57 ⟨rfl, hbw⟩
  refine ⟨_, rfl, ?_⟩
  replace HM := HM.call hbw
  clear HF; intro a HF
  refine fp HF 1 5 [(58, vI (IntKind.i64.wrap ((b.sz (k + 1) : Int) + ((vbytes (k + 1)).length : Int))))] fun a HF => ?_
  replace HF := HF.sp 58 (vI (b.sz (k + 1) + ((vbytes (k + 1)).length) : Nat)) rfl (qi (by omega) (by omega))
  refine fp HF 1 6 [(59, .bool (decide (((b.sz (k + 1) + ((vbytes (k + 1)).length) : Nat) : Int) > (4096 : Int))))] fun a HF => ?_
  refine qb rfl ?_
  rcases HF.tf 59 rfl with ⟨hb59, HF⟩ | ⟨hb59, HF⟩
  ·
   have hd59 := of_decide_eq_true hb59
   refine qe HF rfl (wp_seq (qa ?_))
   refine fp HF 3 0 [(3, vI 0), (2, vI k)] fun a HF => ?_
   refine qb rfl (wp_ret ?_)
   exact ret2 rfl HF (.tmp HF rfl) (.tmp HF rfl) (qkz (by unfold Bk.fill; rw [if_neg (by rw [hf]; decide), qph hk40 hno (by unfold Bk.big; rw [decide_eq_true]; omega)]) HM.below)
  have hd59 := of_decide_eq_false hb59
  refine qd HF rfl (wp_skip (qa ?_))
  refine fp HF 1 0 [(61, vP g7 0)] fun a HF => ?_
  refine fy HF HM 1 rfl rfl rfl (v := vI ((b.evs.getD k Ev.zero).seq)) (Yl.qh rfl rfl (by kernel_rfl) (fun _ h => h.cell (i := 0) rfl (rfl))) fun a HF => ?_
  refine fp HF 1 2 [(63, vP g7 1)] fun a HF => ?_
  refine fy HF HM 3 rfl rfl rfl (v := vI ((b.evs.getD k Ev.zero).time)) (Yl.qh rfl rfl (by kernel_rfl) (fun _ h => h.cell (i := 0) rfl (rfl))) fun a HF => ?_
  refine fy HF HM 4 rfl rfl rfl (v := .agg #[vI ((b.evs.getD k Ev.zero).seq), vI ((b.evs.getD k Ev.zero).time)]) (Yl.build (vs := [(0, vI ((b.evs.getD k Ev.zero).seq)), (1, vI ((b.evs.getD k Ev.zero).time))]) rfl (by kernel_rfl) (by kernel_rfl)) fun a HF => ?_
  refine fo HF 5 rfl rfl ?_
  refine e_sa HF HM 1 rfl rfl rfl rfl rfl ⟨(by kernel_rfl), (by kernel_rfl)⟩ rfl rfl (by simp [Value.oneCell']) ?_
  clear HM; intro w14_5 HM
  refine qb rfl (qa ?_)
  refine fp HF 1 0 [(66, vI (IntKind.i64.wrap ((k : Int) + 1)))] fun a HF => ?_
  replace HF := HF.sp 66 (vI (k + 1 : Nat)) rfl (qi (by omega) (by omega))
  refine fp HF 1 1 [(39, vI (k + 1 : Nat))] fun a HF => ?_
  refine qb rfl ?_
  exact ⟨_, (by omega), k + 1, by omega, fun i hi => (Nat.lt_succ_iff_lt_or_eq.1 hi).elim (hno i) (fun h => by subst h; unfold Bk.big; rw [decide_eq_false]; omega), rfl, HF.sub (by kernel_rfl), HM.picks [1, 2] (by decide) rfl⟩
 have hd40 := of_decide_eq_false hb40
 have hke : k = b.evs.length := by omega
 refine qd HF rfl (wp_exit (wp_seq (qa ?_)))
 refine fp HF 1 0 [(67, vP g1 4)] fun a HF => ?_
 refine fy HF HM 1 rfl rfl rfl (v := .slice A b.evs.length c) (Yl.qh rfl rfl (by kernel_rfl) (fun _ h => h.cell (i := 1) rfl (rfl))) fun a HF => ?_
 refine fy HF HM 2 rfl rfl rfl (Yl.len rfl rfl (by kernel_rfl)) fun a HF => ?_
 refine fp HF 2 3 [(3, vI 0), (2, vI b.evs.length)] fun a HF => ?_
 refine qb rfl (wp_ret ?_)
 exact ret2 rfl HF (.tmp HF rfl) (.tmp HF rfl) (qkz (by unfold Bk.fill; rw [if_neg (by rw [hf]; decide), qh1 (fun i hi => hno i (by omega))]) HM.below)
theorem qoj {w : World} {base n m c size : Nat} {e : TypeId} {A : Option Addr} {xs : List Value} (h : w.ownsRow base e size (.slice A n c) n xs) (hm : m ≤ n) : w.ownsRow base e size (.slice A m c) m (xs.take (m * size)) := by
 have hms : m * size ≤ n * size := Nat.mul_le_mul_right _ hm
 refine ⟨by rw [List.length_take, h.1]; omega, ?_⟩
 rcases h.2 with ⟨hv, hn⟩ | ⟨g, cap, cur, hv, hb, hg, h1, h2, h3, h4⟩
 ·injection hv with a1 a2 a3
  subst a1; subst a3; subst hn
  have : m = 0 := by omega
  subst this
  exact .inl ⟨rfl, rfl⟩
 ·injection hv with a1 a2 a3
  subst a1; subst a3
  refine .inr ⟨g, c, cur, rfl, hb, hg, by omega, h2, h3, ?_⟩
  rw [← h4, List.take_take]
  congr 1
  omega
section
variable {W w : World} {fs : List Fact}
theorem Mem.cutRow (h : Mem W w fs) {i n m c size : Nat} {e : TypeId} {A : Option Addr} {xs ys : List Value} (hi : fs[i]? = some (.row (.slice A n c) n xs e size)) (hm : m ≤ n) (hy : xs.take (m * size) = ys) : Mem W w (fs.set i (.row (.slice A m c) m ys e size)) := by
 subst hy
 have hb := h.holds _ (List.mem_of_getElem? hi)
 exact h.turn hi h.below (fun _ _ _ => rfl) (qoj hb hm) (fun g' hg' => .inl (by cases A <;> exact hg'))
end
theorem qbr : EI Tryz.prog 200 3 (.int .i64 0) 1 8 := ⟨by kernel_rfl, by kernel_rfl, rfl, by omega⟩
def PolIs (w : World) (l : List Nat) (r : Ending) (w' : World) : Prop :=
 (∃ A c, r = .returned (.slice A l.length c) ∧ w'.ownsRow w.heap.size 3 1 (.slice A l.length c) l.length (l.map I64v) ∧ l.length ≤ c) ∧ Below w.heap.size w w'
def DivIs (w : World) (A : Option Addr) (c : Nat) (a b : List Nat) (r : Ending) (w' : World) : Prop :=
 (∃ vq X c', r = .returned (.tuple #[vq, .slice X (divR (a.length + 1) a b).length c']) ∧ (a.length < b.length → X = A ∧ c' = c) ∧ (b.length ≤ a.length → w'.ownsRow w.heap.size 3 1 (.slice X (divR (a.length + 1) a b).length c') (divR (a.length + 1) a b).length ((divR (a.length + 1) a b).map I64v) ∧ (divR (a.length + 1) a b).length ≤ c')) ∧ Below w.heap.size w w'
def P01 (l : List Nat) : Prop := ∀ x ∈ l, x < 2
def Tr (l : List Nat) : Prop := 0 < l.length → l.getD (l.length - 1) 0 ≠ 0
theorem qun {l : List Nat} (h : P01 l) (k : Nat) : l.getD k 0 < 2 := by
 rw [List.getD_eq_getElem?_getD]
 cases hk : l[k]? with
 | none => simp
 | some x => exact h x (List.mem_of_getElem? hk)
theorem qii {l : List Nat} {k : Nat} (h : 0 < k) (hk : k ≤ l.length) : l.take k = l.take (k - 1) ++ [l.getD (k - 1) 0] := by
 obtain ⟨j, rfl⟩ : ∃ j, k = j + 1 := ⟨k - 1, by omega⟩
 rw [Nat.add_sub_cancel, List.take_succ_eq_append_getElem (by omega), List.getD_eq_getElem?_getD, List.getElem?_eq_getElem (by omega)]
 rfl
theorem qm8 {l : List Nat} {k : Nat} (h : 0 < k) (hk : k ≤ l.length) (h0 : l.getD (k - 1) 0 = 0) (ht : trimL (l.take k) = trimL l) : trimL (l.take (k - 1)) = trimL l := by
 rw [← ht, qii h hk, h0, qez]
theorem qfs {l : List Nat} {k : Nat} (hk : k ≤ l.length) (h0 : 0 < k → l.getD (k - 1) 0 ≠ 0) (ht : trimL (l.take k) = trimL l) : trimL l = l.take k := by
 rw [← ht]
 by_cases h : 0 < k
 ·rw [qii h hk, qjf (h0 h)]
 ·have : k = 0 := by omega
  subst this
  rfl
theorem qk8 (l : List Nat) : trimL l <+: l := by
 have h := List.dropWhile_suffix (l := l.reverse) (· == 0)
 have := List.reverse_prefix.2 h
 rwa [List.reverse_reverse] at this
theorem qup (l : List Nat) : l.take (trimL l).length = trimL l := (List.prefix_iff_eq_take.1 (qk8 l)).symm
theorem qft (l : List Nat) : (trimL l).length ≤ l.length := (qk8 l).length_le
theorem qfu (l : List Nat) : (l.map I64v).take ((trimL l).length * 1) = (trimL l).map I64v := by rw [Nat.mul_one, ← List.map_take, qup]
theorem quq {l : List Nat} (h : P01 l) : P01 (trimL l) := fun x hx => h x ((qk8 l).sublist.mem hx)
theorem qxs : ∀ (n : Nat) (l : List Nat), l.length = n → Tr (trimL l)
 | 0, l, h => by
  rw [List.length_eq_zero_iff] at h
  subst h
  intro h; simp [trimL] at h
 | n + 1, l, h => by
  have e := qii (l := l) (k := l.length) (by omega) (by omega)
  rw [List.take_length] at e
  by_cases h0 : l.getD (l.length - 1) 0 = 0
  ·rw [e, h0, qez]
   exact qxs n _ (by rw [List.length_take]; omega)
  ·rw [e, qjf h0, ← e]
   intro _
   exact h0
theorem qok (l : List Nat) : Tr (trimL l) := qxs _ l rfl
theorem qb1 (f : Nat → Nat) (k : Nat) : (List.range (k + 1)).map f = (List.range k).map f ++ [f k] := by rw [List.range_succ, List.map_append]; rfl
def qdc (p k : Nat) : List Nat := (List.range k).map fun i => p / 2 ^ i % 2
theorem qol (p k : Nat) : qdc p (k + 1) = qdc p k ++ [p / 2 ^ k % 2] := qb1 _ _
theorem qj5 (p k : Nat) : (qdc p k).length = k := by unfold qdc; rw [List.length_map, List.length_range]
def sumUp (a b : List Nat) (s k : Nat) : List Nat := (List.range k).map (sumAt a b s)
theorem qck (a b : List Nat) (s k : Nat) : sumUp a b s (k + 1) = sumUp a b s k ++ [sumAt a b s k] := qb1 _ _
theorem qm9 (a b : List Nat) (s k : Nat) : (sumUp a b s k).length = k := by unfold sumUp; rw [List.length_map, List.length_range]
theorem qur (a b : List Nat) (s : Nat) : trimL (sumUp a b s (max a.length (b.length + s))) = sumL a b s := rfl
theorem qpw {l : List Nat} {k : Nat} (h : l.length ≤ k) : l.getD k 0 = 0 := by rw [List.getD_eq_getElem?_getD, List.getElem?_eq_none h]; rfl
theorem qxt {a b : List Nat} {s k : Nat} (h1 : s ≤ k) (h2 : k - s < b.length) : sumAt a b s k = (a.getD k 0 + b.getD (k - s) 0) % 2 := if_pos ⟨h1, h2⟩
theorem qz4 {a b : List Nat} {s k : Nat} (h1 : s ≤ k) (h2 : k - s < b.length) (h3 : a.length ≤ k) : sumAt a b s k = (0 + b.getD (k - s) 0) % 2 := by rw [qxt h1 h2, qpw h3]
theorem qus {a b : List Nat} {s k : Nat} (h : ¬ (s ≤ k ∧ k - s < b.length)) : sumAt a b s k = a.getD k 0 := if_neg h
theorem qxu {a b : List Nat} {s k : Nat} (h : ¬ (s ≤ k ∧ k - s < b.length)) (h3 : a.length ≤ k) : sumAt a b s k = 0 := by rw [qus h, qpw h3]
theorem qyw {a b : List Nat} (ha : P01 a) (s i : Nat) : sumAt a b s i < 2 := by
 unfold sumAt
 split
 ·omega
 ·exact qun ha i
theorem sum01 {a b : List Nat} (ha : P01 a) (s : Nat) : P01 (sumL a b s) := by
 unfold sumL
 apply quq
 intro x hx
 obtain ⟨i, _, rfl⟩ := List.mem_map.1 hx
 exact qyw ha s i
theorem sumTr (a b : List Nat) (s : Nat) : Tr (sumL a b s) := qok _
theorem qyx (a b : List Nat) (s : Nat) : (sumL a b s).length ≤ max a.length (b.length + s) := by
 unfold sumL
 refine Nat.le_trans (qft _) ?_
 rw [List.length_map, List.length_range]
 exact Nat.le_refl _
theorem qg5 {a b : List Nat} (ha : P01 a) (hb : P01 b) (hta : Tr a) (htb : Tr b) (h0 : 0 < b.length) (h : b.length ≤ a.length) : (sumL a b (a.length - b.length)).length < a.length := by
 have e : max a.length (b.length + (a.length - b.length)) = (a.length - 1) + 1 := by omega
 have h1 := hta (by omega)
 have h2 := htb h0
 have h3 := qun ha (a.length - 1)
 have h4 := qun hb (b.length - 1)
 unfold sumL
 rw [e, qb1]
 have hz : sumAt a b (a.length - b.length) (a.length - 1) = 0 := by
  unfold sumAt
  rw [if_pos ⟨by omega, by omega⟩, show a.length - 1 - (a.length - b.length) = b.length - 1 by omega]
  omega
 rw [hz, qez]
 refine Nat.lt_of_le_of_lt (qft _) ?_
 rw [List.length_map, List.length_range]
 omega
theorem qpx {b : List Nat} (hb : P01 b) (htb : Tr b) (h0 : 0 < b.length) : ∀ (n : Nat) (a : List Nat), a.length = n → P01 a → Tr a → ∀ f g, a.length < f → a.length < g → divR f a b = divR g a b := by
 intro n
 induction n using Nat.strongRecOn with
 | _ n ih =>
  intro a hn ha hta f g hf hg
  obtain ⟨f, rfl⟩ : ∃ j, f = j + 1 := ⟨f - 1, by omega⟩
  obtain ⟨g, rfl⟩ : ∃ j, g = j + 1 := ⟨g - 1, by omega⟩
  rw [divR, divR]
  split
  ·rename_i h
   have hl := qg5 ha hb hta htb h0 h
   exact ih _ (by omega) _ rfl (sum01 ha _) (sumTr _ _ _) f g (by omega) (by omega)
  ·rfl
theorem qpy {a0 a b : List Nat} (hb : P01 b) (htb : Tr b) (h0 : 0 < b.length) (ha : P01 a) (hta : Tr a) (h : b.length ≤ a.length) (he : divR (a.length + 1) a b = divR (a0.length + 1) a0 b) :
  divR ((sumL a b (a.length - b.length)).length + 1) (sumL a b (a.length - b.length)) b = divR (a0.length + 1) a0 b := by
 have hl := qg5 ha hb hta htb h0 h
 have e : divR (a.length + 1) a b = divR a.length (sumL a b (a.length - b.length)) b := by rw [divR, if_pos h]
 rw [← he, e]
 exact qpx hb htb h0 _ _ rfl (sum01 ha _) (sumTr _ _ _) _ _ (by omega) (by omega)
theorem qpz {a b : List Nat} (h : ¬ b.length ≤ a.length) : divR (a.length + 1) a b = a := by rw [divR, if_neg h]
theorem qp0 (p : Nat) : P01 (ql3 p) := by
 unfold ql3
 apply quq
 intro x hx
 obtain ⟨i, _, rfl⟩ := List.mem_map.1 hx
 omega
theorem qp1 (p : Nat) : P01 (bitsOf p) := by
 unfold bitsOf
 apply quq
 intro x hx
 obtain ⟨i, _, rfl⟩ := List.mem_map.1 hx
 split <;> omega
theorem qp2 (p : Nat) : Tr (ql3 p) := qok _
theorem qp3 (p : Nat) : Tr (bitsOf p) := qok _
theorem qe4 : genP.length = 33 := by decide +kernel
theorem qk9 (p : Nat) : (bitsOf p).length ≤ 40 := by
 unfold bitsOf
 refine Nat.le_trans (qft _) ?_
 rw [List.length_map, List.length_range]
 exact Nat.le_refl _
theorem qyy {b : List Nat} (h0 : 0 < b.length) (hb : P01 b) (htb : Tr b) : ∀ (n : Nat) (a : List Nat), a.length = n → P01 a → Tr a → (divR (a.length + 1) a b).length < b.length := by
 intro n
 induction n using Nat.strongRecOn with
 | _ n ih =>
  intro a hn ha hta
  by_cases h : b.length ≤ a.length
  ·have hl := qg5 ha hb hta htb h0 h
   have hs := qpy hb htb h0 ha hta h rfl
   rw [← hs]
   exact ih _ (by omega) _ rfl (sum01 ha _) (sumTr _ _ _)
  ·rw [qpz h]; omega
def linR (y : Nat) : List Nat := divR ((bitsOf y).length + 1) (bitsOf y) genP
theorem qp4 (y : Nat) : (linR y).length ≤ 32 := by
 have h := qyy (b := genP) (by rw [qe4]; decide) (qp0 _) (qp2 _) _ (bitsOf y) rfl (qp1 _) (qp3 _)
 rw [qe4] at h
 exact Nat.le_of_lt_succ h
theorem qut (y : Nat) : qs0 (linR y) = qa6 y := by
 unfold qa6 linR
 have := qk9 y
 rw [qpx (b := genP) (qp0 _) (qp2 _) (by rw [qe4]; decide) _ (bitsOf y) rfl (qp1 _) (qp3 _) ((bitsOf y).length + 1) 41 (by omega) (by omega)]
def remUp (r : List Nat) (k : Nat) : Nat := ((List.range k).map fun k => if r.getD k 0 = 1 then 2 ^ (31 - k) else 0).sum
theorem qen (r : List Nat) (k : Nat) : remUp r (k + 1) = remUp r k + if r.getD k 0 = 1 then 2 ^ (31 - k) else 0 := by
 unfold remUp
 rw [qb1, List.sum_append]
 simp
theorem qp5 (r : List Nat) : ∀ k, k ≤ 32 → remUp r k + 2 ^ (32 - k) ≤ 4294967296
 | 0, _ => by show 0 + 2 ^ 32 ≤ _; decide
 | k + 1, h => by
  have ih := qp5 r k (by omega)
  rw [qen]
  have e1 : (2 : Nat) ^ (32 - k) = 2 ^ (32 - (k + 1)) * 2 := by rw [show 32 - k = (32 - (k + 1)) + 1 by omega, Nat.pow_succ]
  have e2 : (2 : Nat) ^ (31 - k) = 2 ^ (32 - (k + 1)) := by rw [show 31 - k = 32 - (k + 1) by omega]
  split <;> omega
theorem qna (r : List Nat) : remUp r r.length = qs0 r := rfl
def qbc (y k : Nat) : List Nat := (List.range 40).map fun i => if 40 - k ≤ i then y / 2 ^ (39 - i) % 2 else 0
theorem qbd (y k : Nat) : (qbc y k).length = 40 := by unfold qbc; rw [List.length_map, List.length_range]
theorem qgl (y k : Nat) {i : Nat} (h : i < 40) : (qbc y k)[i]? = some (if 40 - k ≤ i then y / 2 ^ (39 - i) % 2 else 0) := by
 unfold qbc
 rw [List.getElem?_map, List.getElem?_range h]
 rfl
theorem qom (y : Nat) : qbc y 0 = List.replicate 40 0 := by
 apply List.ext_getElem?
 intro i
 by_cases h : i < 40
 ·rw [qgl y 0 h, if_neg (by omega), List.getElem?_replicate, if_pos h]
 ·rw [List.getElem?_eq_none (by rw [qbd]; omega), List.getElem?_eq_none (by rw [List.length_replicate]; omega)]
theorem qon {y k : Nat} (hk : k < 8) : (qbc y k).set (39 - k) (y / 2 ^ k % 2) = qbc y (k + 1) := by
 apply List.ext_getElem?
 intro i
 by_cases h : i < 40
 ·rw [List.getElem?_set, qgl y (k + 1) h]
  by_cases hi : 39 - k = i
  ·rw [if_pos hi, if_pos (by rw [qbd]; omega), if_pos (by omega), show 39 - i = k by omega]
  ·rw [if_neg hi, qgl y k h]
   by_cases h2 : 40 - k ≤ i
   ·rw [if_pos h2, if_pos (by omega)]
   ·rw [if_neg h2, if_neg (by omega)]
 ·rw [List.getElem?_eq_none (by rw [List.length_set, qbd]; omega), List.getElem?_eq_none (by rw [qbd]; omega)]
theorem qj6 (y : Nat) : trimL (qbc y 8) = bitsOf y := rfl
theorem pow31 (k : Nat) : 1 * 2 ^ (31 - k) ≤ 4294967295 := by
 have : (2 : Nat) ^ (31 - k) ≤ 2 ^ 31 := Nat.pow_le_pow_right (by decide) (by omega)
 omega
theorem qyz (r : List Nat) {k : Nat} (h : k < 32) : remUp r k + 1 * 2 ^ (31 - k) ≤ 4294967295 := by
 have h1 := qp5 r k (by omega)
 have e1 : (2 : Nat) ^ (32 - k) = 2 ^ (31 - k) * 2 := by rw [show 32 - k = (31 - k) + 1 by omega, Nat.pow_succ]
 have : 0 < (2 : Nat) ^ (31 - k) := Nat.pow_pos (by decide)
 omega
theorem quu : linR 0 = [] := by decide +kernel
theorem qw1 : ∀ y, y < 256 → y ≠ 0 → 33 ≤ (bitsOf y).length := by decide +kernel
theorem qp6 (A : Option Addr) (n c : Nat) (l : List Nat) (w : World) (hr : Rd w w.heap.size 1 A n (l.map I64v)) (hln : l.length = n) (hn : n ≤ 140737488355328) (hc : n ≤ c) :
    Calls Tryz.prog 134 #[.slice A n c] w (Is w (.slice A (trimL l).length c)) := by
 refine qg (vs := [.slice A n c]) Tryz.func134 rfl rfl (by kernel_rfl) (σ0 := [(0, .slice A n c)]) rfl ?_
 intro a HF
 have HM := Mem.start w
 refine wp_seq (qa ?_)
 refine fp HF 1 0 [(2, .slice none 0 0)] fun a HF => ?_
 refine qb rfl (wp_seq (wp_block ?_))
 refine qs (fun mS aS wS => ∃ (k : Nat), (k ≤ n) ∧ (trimL (l.take k) = trimL l) ∧ mS = 0 + k ∧ Fr aS 21 [] [(2, .slice none 0 0), (0, .slice A k c)] ∧ Mem w wS []) (m := 0 + n) ⟨n, Nat.le_refl _, by rw [List.take_of_length_le (by omega)], rfl, HF.sub (by kernel_rfl), HM.picks [] (by decide) rfl⟩ ?_
 clear HF HM; rintro mS a w_ ⟨k, hk, ht, rfl, HF, HM⟩
 refine wp_seq (wp_seq (qa ?_))
 refine fp HF 1 0 [(3, .slice A k c)] fun a HF => ?_
 refine fy HF HM 1 rfl rfl rfl (Yl.len rfl rfl (by kernel_rfl)) fun a HF => ?_
 refine fp HF 2 2 [(6, .bool (decide ((k : Int) > (0 : Int))))] fun a HF => ?_
 rcases HF.tf 6 rfl with ⟨hb6, HF⟩ | ⟨hb6, HF⟩
 ·
  have hd6 := of_decide_eq_true hb6
  have hk0 : 0 < k := by omega
  obtain ⟨gA, oA, rfl, _⟩ := hr.qy (Nat.lt_of_le_of_lt (Nat.zero_le _) (show 0 < n from by omega)) (by decide)
  refine fp HF 2 4 [(8, .slice (some ⟨gA, oA, none⟩) k c), (7, .slice (some ⟨gA, oA, none⟩) k c)] fun a HF => ?_
  refine fy HF HM 6 rfl rfl rfl (Yl.len rfl rfl (by kernel_rfl)) fun a HF => ?_
  refine fp HF 1 7 [(10, vI (IntKind.i64.wrap ((k : Int) - 1)))] fun a HF => ?_
  replace HF := HF.sp 10 (vI (k - 1 : Nat)) rfl (qi (by omega) (by omega))
  refine fy HF HM 8 rfl rfl rfl (v := vP gA (oA + (k - 1) * 1)) (Yl.ix gA oA (k - 1) 1 rfl rfl rfl) fun a HF => ?_
  refine fy HF HM 9 rfl rfl rfl (v := vI (l.getD (k - 1) 0)) (Yl.qh rfl rfl (by kernel_rfl) (fun _ h => (h.old hr).qa4 (k := (k - 1)) (qai (F := I64v) (k := (k - 1)) (x := (l.getD (k - 1) 0)) ((getD_at 0 (k := (k - 1)) (by first | omega | (simp; omega))))))) fun a HF => ?_
  refine fp HF 2 10 [(14, .bool (((l.getD (k - 1) 0) : Int) == (0 : Int)))] fun a HF => ?_
  refine qb rfl ?_
  rcases HF.tf 14 rfl with ⟨hb14, HF⟩ | ⟨hb14, HF⟩
  ·
   have hd14 := eq_of_beq hb14
   refine qe HF rfl (wp_skip (wp_block (qa ?_)))
   refine fp HF 2 0 [(16, .slice (some ⟨gA, oA, none⟩) k c), (15, .slice (some ⟨gA, oA, none⟩) k c)] fun a HF => ?_
   refine fy HF HM 2 rfl rfl rfl (Yl.len rfl rfl (by kernel_rfl)) fun a HF => ?_
   refine fp HF 1 3 [(18, vI (IntKind.i64.wrap ((k : Int) - 1)))] fun a HF => ?_
   replace HF := HF.sp 18 (vI (k - 1 : Nat)) rfl (qi (by omega) (by omega))
   refine fy HF HM 4 rfl rfl rfl (v := .slice (some ⟨gA, oA, none⟩) (k - 1) c) (Yl.qbo qbr (j := k - 1) rfl rfl rfl (by omega)) fun a HF => ?_
   refine fp HF 1 5 [(0, .slice (some ⟨gA, oA, none⟩) (k - 1) c)] fun a HF => ?_
   refine qb rfl ?_
   exact ⟨_, (by omega), (k - 1), by omega, qm8 (by omega) (by omega) (by omega) ht, rfl, HF.sub (by kernel_rfl), HM.picks [] (by decide) rfl⟩
  have hd14 := ne_of_beq_false hb14
  refine qd HF rfl (wp_exit (wp_seq (qa ?_)))
  refine fp HF 2 0 [(2, .slice (some ⟨gA, oA, none⟩) k c)] fun a HF => ?_
  refine qb rfl (wp_ret ?_)
  exact ret1 rfl HF (.tmp HF rfl) (⟨by rw [qfs (k := k) (by omega) (fun _ => by omega) ht, List.length_take, Nat.min_eq_left (by omega)], HM.below⟩)
 have hd6 := of_decide_eq_false hb6
 refine fp HF 8 4 [(14, .bool false)] fun a HF => ?_
 refine qb rfl (qd HF rfl (wp_exit (wp_seq (qa ?_))))
 refine fp HF 2 0 [(2, .slice A k c)] fun a HF => ?_
 refine qb rfl (wp_ret ?_)
 exact ret1 rfl HF (.tmp HF rfl) (⟨by rw [qfs (k := k) (by omega) (fun _ => by omega) ht, List.length_take, Nat.min_eq_left (by omega)], HM.below⟩)
theorem quv (p : Nat) (hp : p < 18446744073709551616) (w : World) :
    Calls Tryz.prog 124 #[.int .u64 (p : Int)] w (PolIs w (ql3 p)) := by
 refine qg (vs := [vQ p]) Tryz.func124 rfl rfl (by kernel_rfl) (σ0 := [(0, vQ p)]) rfl ?_
 intro a HF
 have HM := Mem.start w
 refine wp_seq (qa ?_)
 refine fp HF 1 0 [(2, .slice none 0 0)] fun a HF => ?_
 refine qb rfl (wp_seq (qa ?_))
 refine fp HF 1 0 [(3, .slice none 0 0)] fun a HF => ?_
 refine qb rfl ?_
 replace HM := HM.nil 3 1
 refine wp_seq (wp_seq (qa ?_))
 refine fp HF 1 0 [(4, vI 0)] fun a HF => ?_
 refine qb rfl (wp_block ?_)
 refine qs (fun mS aS wS => ∃ (k : Nat) (Ak : Option Addr) (ck : Nat), (k ≤ 64) ∧ (k ≤ ck) ∧ mS = 64 - k ∧ Fr aS 19 [] [(4, vI k), (3, .slice Ak k ck), (2, .slice none 0 0), (0, vQ p)] ∧ Mem w wS [.row (.slice Ak k ck) k ((qdc p k).map I64v) 3 1]) (m := 64 - 0) ⟨0, none, 0, by omega, Nat.le_refl _, rfl, HF.sub (by kernel_rfl), HM.picks [0] (by decide) rfl⟩ ?_
 clear HF HM; rintro mS a w_ ⟨k, Ak, ck, hk, hck, rfl, HF, HM⟩
 refine wp_seq (wp_seq (qa ?_))
 refine fp HF 2 0 [(6, .bool (decide ((k : Int) < (64 : Int))))] fun a HF => ?_
 refine qb rfl ?_
 rcases HF.tf 6 rfl with ⟨hb6, HF⟩ | ⟨hb6, HF⟩
 ·
  have hd6 := of_decide_eq_true hb6
  refine qe HF rfl (wp_skip (wp_seq (wp_block (qa ?_))))
  refine fp HF 3 0 [(11, vI k), (10, vQ p), (9, .slice Ak k ck)] fun a HF => ?_
  refine fy HF HM 3 rfl rfl rfl (v := vQ (p / 2 ^ k : Nat)) (Yl.shrN (m := p) (n := k) rfl rfl rfl (by show _ ≤ 64; omega)) fun a HF => ?_
  refine fp HF 1 4 [(13, vQ (Int.tmod ((p / 2 ^ k : Nat) : Int) 2))] fun a HF => ?_
  replace HF := HF.sp 13 (vQ ((p / 2 ^ k) % 2 : Nat)) rfl (qap .u64 _ 2)
  refine fp HF 1 5 [(14, vI (IntKind.i64.wrap (((p / 2 ^ k) % 2 : Nat) : Int)))] fun a HF => ?_
  replace HF := HF.sp 14 (vI ((p / 2 ^ k) % 2 : Nat)) rfl (qi rfl (by omega))
  refine fo HF 6 rfl rfl ?_
  refine ze HF HM (vs := [(0, vI ((p / 2 ^ k) % 2 : Nat))]) (cs := #[vI ((p / 2 ^ k) % 2 : Nat)]) rfl qbr (by decide) rfl (by kernel_rfl) rfl (by decide) ?_
  clear HF HM; intro a w15 g15 HF HM
  refine fo HF 7 rfl rfl ?_
  refine qu HF HM (i := 1) rfl qbr rfl rfl rfl (news := [I64v ((p / 2 ^ k) % 2)]) (HM.rdBlk (i := 0) (n := 1) (size := 1) rfl rfl) (by simp [Value.oneCell', I64v]) (by omega) (by omega) rfl (by decide) ?_
  clear HF HM; intro a w16 A16 c16 HF HM hc16
  refine fp HF 1 8 [(3, .slice A16 (k + 1) c16)] fun a HF => ?_
  refine qb rfl ?_
  have hnA16 : k + 1 = k + 1 := rfl
  replace HM := HM.reRow (i := 1) (ys := (qdc p (k + 1)).map I64v) rfl hnA16 (by rw [qol]; simp)
  rw [hnA16] at hc16
  replace HF := HF.as (t := 3) (u := .slice A16 (k + 1) c16) rfl (by rw [hnA16])
  replace HF := HF.as (t := 16) (u := .slice A16 (k + 1) c16) rfl (by rw [hnA16])
  refine qa ?_
  refine fp HF 2 0 [(8, vI (IntKind.i64.wrap ((k : Int) + 1)))] fun a HF => ?_
  replace HF := HF.sp 8 (vI (k + 1 : Nat)) rfl (qi (by omega) (by omega))
  refine fp HF 1 2 [(4, vI (k + 1 : Nat))] fun a HF => ?_
  refine qb rfl ?_
  exact ⟨_, (by omega), k + 1, A16, c16, by omega, hc16, rfl, HF.sub (by kernel_rfl), HM.picks [1] (by decide) rfl⟩
 have hd6 := of_decide_eq_false hb6
 obtain rfl : k = 64 := by omega
 refine qd HF rfl (wp_exit (wp_seq (qa ?_)))
 refine fp HF 1 0 [(17, .slice Ak 64 ck)] fun a HF => ?_
 refine fo HF 1 rfl rfl ?_
 refine e_is HF HM [.slice Ak 64 ck] (.slice Ak ((trimL (qdc p 64)).length) ck) rfl rfl (qp6 _ _ _ (qdc p 64) _ (HM.rd (i := 0) rfl) (qj5 p 64) (by omega) (by omega)) fun w18 hbw HM a HF => ?_
 have htl18 := qft (qdc p 64)
 have hle18 : (trimL (qdc p 64)).length ≤ 64 := by rw [qj5 p 64] at htl18; exact htl18
 replace HM := HM.cutRow (i := 0) rfl hle18 (qfu (qdc p 64))
 refine fp HF 1 2 [(2, .slice Ak ((trimL (qdc p 64)).length) ck)] fun a HF => ?_
 refine qb rfl (wp_ret ?_)
 exact ret1 rfl HF (.tmp HF rfl) (⟨⟨_, _, rfl, HM.own (i := 0) rfl, by show (trimL (qdc p 64)).length ≤ _; omega⟩, HM.below⟩)
theorem qj7 (A A2 : Option Addr) (c c2 : Nat) (p q : List Nat) (s : Nat) (w : World) (h1 : P01 p) (h2 : P01 q) (hr : Rd w w.heap.size 1 A p.length (p.map I64v)) (hr2 : Rd w w.heap.size 1 A2 q.length (q.map I64v)) (hp : p.length ≤ 1000000) (hq : q.length + s ≤ 1000000) :
    Calls Tryz.prog 133 #[.slice A p.length c, .slice A2 q.length c2, .int .i64 (s : Int)] w (PolIs w (sumL p q s)) := by
 refine qg (vs := [.slice A p.length c, .slice A2 q.length c2, vI s]) Tryz.func133 rfl rfl (by kernel_rfl) (σ0 := [(0, .slice A p.length c), (1, .slice A2 q.length c2), (2, vI s)]) rfl ?_
 intro a HF
 have HM := Mem.start w
 refine wp_seq (qa ?_)
 refine fp HF 1 0 [(6, .slice none 0 0)] fun a HF => ?_
 refine qb rfl (wp_seq (qa ?_))
 refine fp HF 1 0 [(7, .slice none 0 0)] fun a HF => ?_
 refine qb rfl ?_
 replace HM := HM.nil 3 1
 refine wp_seq (wp_seq (qa ?_))
 refine fp HF 1 0 [(8, vI 0)] fun a HF => ?_
 refine qb rfl (wp_block ?_)
 refine qs (fun mS aS wS => ∃ (k : Nat) (Ak : Option Addr) (ck : Nat), (k ≤ (max p.length (q.length + s))) ∧ (k ≤ ck) ∧ mS = (max p.length (q.length + s)) - k ∧ Fr aS 58 [] [(8, vI k), (7, .slice Ak k ck), (6, .slice none 0 0), (0, .slice A p.length c), (1, .slice A2 q.length c2), (2, vI s)] ∧ Mem w wS [.row (.slice Ak k ck) k ((sumUp p q s k).map I64v) 3 1]) (m := (max p.length (q.length + s)) - 0) ⟨0, none, 0, Nat.zero_le _, Nat.le_refl _, rfl, HF.sub (by kernel_rfl), HM.picks [0] (by decide) rfl⟩ ?_
 clear HF HM; rintro mS a w_ ⟨k, Ak, ck, hk, hck, rfl, HF, HM⟩
 refine wp_seq (wp_seq (qa ?_))
 refine fp HF 2 0 [(11, .slice A p.length c), (10, vI k)] fun a HF => ?_
 refine fy HF HM 2 rfl rfl rfl (Yl.len rfl rfl (by kernel_rfl)) fun a HF => ?_
 refine fp HF 2 3 [(14, .bool (decide ((k : Int) < (p.length : Int))))] fun a HF => ?_
 rcases HF.tf 14 rfl with ⟨hb14, HF⟩ | ⟨hb14, HF⟩
 ·
  have hd14 := of_decide_eq_true hb14
  refine fp HF 7 5 [(21, .bool true)] fun a HF => ?_
  refine qb rfl (qe HF rfl (wp_skip (wp_seq (wp_block (wp_seq (qa ?_))))))
  refine fp HF 1 0 [(9, vI 0)] fun a HF => ?_
  refine qb rfl (wp_seq (wp_seq (qa ?_)))
  refine fp HF 2 0 [(25, .slice A p.length c), (24, vI k)] fun a HF => ?_
  refine fy HF HM 2 rfl rfl rfl (Yl.len rfl rfl (by kernel_rfl)) fun a HF => ?_
  refine fp HF 1 3 [(27, .bool (decide ((k : Int) < (p.length : Int))))] fun a HF => ?_
  refine qb rfl ?_
  rcases HF.tf 27 rfl with ⟨hb27, HF⟩ | ⟨hb27, HF⟩
  ·
   have hd27 := of_decide_eq_true hb27
   refine qe HF rfl (qa ?_)
   refine fp HF 2 0 [(29, vI k), (28, .slice A p.length c)] fun a HF => ?_
   obtain ⟨gA, oA, rfl, _⟩ := hr.qy (Nat.lt_of_le_of_lt (Nat.zero_le _) (show k < p.length from by omega)) (by decide)
   refine fy HF HM 2 rfl rfl rfl (v := vP gA (oA + k * 1)) (Yl.ix gA oA k 1 rfl rfl rfl) fun a HF => ?_
   have hx54 := getD_lt h1 (k := k) (by first | omega | (simp; omega))
   refine fy HF HM 3 rfl rfl rfl (v := vI (p.getD k 0)) (Yl.qh rfl rfl (by kernel_rfl) (fun _ h => (h.old hr).qa4 (k := k) (qai (F := I64v) (k := k) (x := (p.getD k 0)) ((getD_at 0 (k := k) (by first | omega | (simp; omega))))))) fun a HF => ?_
   refine fp HF 1 4 [(9, vI (p.getD k 0))] fun a HF => ?_
   refine qb rfl (wp_seq (wp_seq (qa ?_)))
   refine fp HF 4 0 [(35, .bool (decide ((k : Int) ≥ (s : Int))))] fun a HF => ?_
   rcases HF.tf 35 rfl with ⟨hb35, HF⟩ | ⟨hb35, HF⟩
   ·
    have hd35 := of_decide_eq_true hb35
    refine fp HF 3 4 [(38, vI (IntKind.i64.wrap ((k : Int) - (s : Int))))] fun a HF => ?_
    replace HF := HF.sp 38 (vI (k - s : Nat)) rfl (qi (by omega) (by omega))
    refine fp HF 1 7 [(39, .slice A2 q.length c2)] fun a HF => ?_
    refine fy HF HM 8 rfl rfl rfl (Yl.len rfl rfl (by kernel_rfl)) fun a HF => ?_
    refine fp HF 2 9 [(42, .bool (decide (((k - s : Nat) : Int) < (q.length : Int))))] fun a HF => ?_
    refine qb rfl ?_
    rcases HF.tf 42 rfl with ⟨hb42, HF⟩ | ⟨hb42, HF⟩
    ·
     have hd42 := of_decide_eq_true hb42
     refine qe HF rfl (qa ?_)
     refine fp HF 5 0 [(47, vI (IntKind.i64.wrap ((k : Int) - (s : Int)))), (44, .slice A2 q.length c2), (43, vI (p.getD k 0))] fun a HF => ?_
     replace HF := HF.sp 47 (vI (k - s : Nat)) rfl (qi (by omega) (by omega))
     obtain ⟨gA2, oA2, rfl, _⟩ := hr2.qy (Nat.lt_of_le_of_lt (Nat.zero_le _) (show k - s < q.length from by omega)) (by decide)
     refine fy HF HM 5 rfl rfl rfl (v := vP gA2 (oA2 + (k - s) * 1)) (Yl.ix gA2 oA2 (k - s) 1 rfl rfl rfl) fun a HF => ?_
     have hx80 := getD_lt h2 (k := (k - s)) (by first | omega | (simp; omega))
     refine fy HF HM 6 rfl rfl rfl (v := vI (q.getD (k - s) 0)) (Yl.qh rfl rfl (by kernel_rfl) (fun _ h => (h.old hr2).qa4 (k := (k - s)) (qai (F := I64v) (k := (k - s)) (x := (q.getD (k - s) 0)) ((getD_at 0 (k := (k - s)) (by first | omega | (simp; omega))))))) fun a HF => ?_
     refine fp HF 1 7 [(50, vI (IntKind.i64.wrap (((p.getD k 0) : Int) + ((q.getD (k - s) 0) : Int))))] fun a HF => ?_
     replace HF := HF.sp 50 (vI ((p.getD k 0) + (q.getD (k - s) 0) : Nat)) rfl (qi (by omega) (by omega))
     refine fp HF 1 8 [(51, vI (Int.tmod (((p.getD k 0) + (q.getD (k - s) 0) : Nat) : Int) 2))] fun a HF => ?_
     replace HF := HF.sp 51 (vI (((p.getD k 0) + (q.getD (k - s) 0)) % 2 : Nat)) rfl (qap .i64 _ 2)
     refine fp HF 1 9 [(9, vI (((p.getD k 0) + (q.getD (k - s) 0)) % 2 : Nat))] fun a HF => ?_
     refine qb rfl (qa ?_)
     refine fp HF 2 0 [(53, vI (((p.getD k 0) + (q.getD (k - s) 0)) % 2 : Nat)), (52, .slice Ak k ck)] fun a HF => ?_
     refine fo HF 2 rfl rfl ?_
     refine ze HF HM (vs := [(0, vI (((p.getD k 0) + (q.getD (k - s) 0)) % 2 : Nat))]) (cs := #[vI (((p.getD k 0) + (q.getD (k - s) 0)) % 2 : Nat)]) rfl qbr (by decide) rfl (by kernel_rfl) rfl (by decide) ?_
     clear HF HM; intro a w54 g54 HF HM
     refine fo HF 3 rfl rfl ?_
     refine qu HF HM (i := 1) rfl qbr rfl rfl rfl (news := [I64v (((p.getD k 0) + (q.getD (k - s) 0)) % 2)]) (HM.rdBlk (i := 0) (n := 1) (size := 1) rfl rfl) (by simp [Value.oneCell', I64v]) (by omega) (by omega) rfl (by decide) ?_
     clear HF HM; intro a w55 A55 c55 HF HM hc55
     refine fp HF 1 4 [(7, .slice A55 (k + 1) c55)] fun a HF => ?_
     refine qb rfl ?_
     have hnA55 : k + 1 = k + 1 := rfl
     replace HM := HM.reRow (i := 1) (ys := (sumUp p q s (k + 1)).map I64v) rfl hnA55 (by rw [qck, qxt (by omega) (by omega)]; simp)
     rw [hnA55] at hc55
     replace HF := HF.as (t := 7) (u := .slice A55 (k + 1) c55) rfl (by rw [hnA55])
     replace HF := HF.as (t := 55) (u := .slice A55 (k + 1) c55) rfl (by rw [hnA55])
     refine qa ?_
     refine fp HF 2 0 [(23, vI (IntKind.i64.wrap ((k : Int) + 1)))] fun a HF => ?_
     replace HF := HF.sp 23 (vI (k + 1 : Nat)) rfl (qi (by omega) (by omega))
     refine fp HF 1 2 [(8, vI (k + 1 : Nat))] fun a HF => ?_
     refine qb rfl ?_
     replace HF := HF.to [(8, vI (k + 1 : Nat)), (55, .slice A55 (k + 1) c55), (7, .slice A55 (k + 1) c55), (9, vI (((p.getD k 0) + (q.getD (k - s) 0)) % 2 : Nat)), (42, .bool true), (27, .bool true), (21, .bool true), (6, .slice none 0 0), (0, .slice (some ⟨gA, oA, none⟩) p.length c), (1, .slice (some ⟨gA2, oA2, none⟩) q.length c2), (2, vI s)]
     exact ⟨_, (by omega), k + 1, A55, c55, by omega, hc55, rfl, HF.sub (by kernel_rfl), HM.picks [1] (by decide) rfl⟩
    have hd42 := of_decide_eq_false hb42
    refine qd HF rfl (wp_skip (qa ?_))
    refine fp HF 2 0 [(53, vI (p.getD k 0)), (52, .slice Ak k ck)] fun a HF => ?_
    refine fo HF 2 rfl rfl ?_
    refine ze HF HM (vs := [(0, vI (p.getD k 0))]) (cs := #[vI (p.getD k 0)]) rfl qbr (by decide) rfl (by kernel_rfl) rfl (by decide) ?_
    clear HF HM; intro a w54 g54 HF HM
    refine fo HF 3 rfl rfl ?_
    refine qu HF HM (i := 1) rfl qbr rfl rfl rfl (news := [I64v (p.getD k 0)]) (HM.rdBlk (i := 0) (n := 1) (size := 1) rfl rfl) (by simp [Value.oneCell', I64v]) (by omega) (by omega) rfl (by decide) ?_
    clear HF HM; intro a w55 A55 c55 HF HM hc55
    refine fp HF 1 4 [(7, .slice A55 (k + 1) c55)] fun a HF => ?_
    refine qb rfl ?_
    have hnA55 : k + 1 = k + 1 := rfl
    replace HM := HM.reRow (i := 1) (ys := (sumUp p q s (k + 1)).map I64v) rfl hnA55 (by rw [qck, qus (by omega)]; simp)
    rw [hnA55] at hc55
    replace HF := HF.as (t := 7) (u := .slice A55 (k + 1) c55) rfl (by rw [hnA55])
    replace HF := HF.as (t := 55) (u := .slice A55 (k + 1) c55) rfl (by rw [hnA55])
    refine qa ?_
    refine fp HF 2 0 [(23, vI (IntKind.i64.wrap ((k : Int) + 1)))] fun a HF => ?_
    replace HF := HF.sp 23 (vI (k + 1 : Nat)) rfl (qi (by omega) (by omega))
    refine fp HF 1 2 [(8, vI (k + 1 : Nat))] fun a HF => ?_
    refine qb rfl ?_
    exact ⟨_, (by omega), k + 1, A55, c55, by omega, hc55, rfl, HF.sub (by kernel_rfl), HM.picks [1] (by decide) rfl⟩
   have hd35 := of_decide_eq_false hb35
   refine fp HF 7 4 [(42, .bool false)] fun a HF => ?_
   refine qb rfl (qd HF rfl (wp_skip (qa ?_)))
   refine fp HF 2 0 [(53, vI (p.getD k 0)), (52, .slice Ak k ck)] fun a HF => ?_
   refine fo HF 2 rfl rfl ?_
   refine ze HF HM (vs := [(0, vI (p.getD k 0))]) (cs := #[vI (p.getD k 0)]) rfl qbr (by decide) rfl (by kernel_rfl) rfl (by decide) ?_
   clear HF HM; intro a w54 g54 HF HM
   refine fo HF 3 rfl rfl ?_
   refine qu HF HM (i := 1) rfl qbr rfl rfl rfl (news := [I64v (p.getD k 0)]) (HM.rdBlk (i := 0) (n := 1) (size := 1) rfl rfl) (by simp [Value.oneCell', I64v]) (by omega) (by omega) rfl (by decide) ?_
   clear HF HM; intro a w55 A55 c55 HF HM hc55
   refine fp HF 1 4 [(7, .slice A55 (k + 1) c55)] fun a HF => ?_
   refine qb rfl ?_
   have hnA55 : k + 1 = k + 1 := rfl
   replace HM := HM.reRow (i := 1) (ys := (sumUp p q s (k + 1)).map I64v) rfl hnA55 (by rw [qck, qus (by omega)]; simp)
   rw [hnA55] at hc55
   replace HF := HF.as (t := 7) (u := .slice A55 (k + 1) c55) rfl (by rw [hnA55])
   replace HF := HF.as (t := 55) (u := .slice A55 (k + 1) c55) rfl (by rw [hnA55])
   refine qa ?_
   refine fp HF 2 0 [(23, vI (IntKind.i64.wrap ((k : Int) + 1)))] fun a HF => ?_
   replace HF := HF.sp 23 (vI (k + 1 : Nat)) rfl (qi (by omega) (by omega))
   refine fp HF 1 2 [(8, vI (k + 1 : Nat))] fun a HF => ?_
   refine qb rfl ?_
   exact ⟨_, (by omega), k + 1, A55, c55, by omega, hc55, rfl, HF.sub (by kernel_rfl), HM.picks [1] (by decide) rfl⟩
  have hd27 := of_decide_eq_false hb27
  omega
 have hd14 := of_decide_eq_false hb14
 refine fp HF 2 5 [(16, .slice A2 q.length c2), (15, vI k)] fun a HF => ?_
 refine fy HF HM 7 rfl rfl rfl (Yl.len rfl rfl (by kernel_rfl)) fun a HF => ?_
 refine fp HF 2 8 [(19, vI (IntKind.i64.wrap ((q.length : Int) + (s : Int))))] fun a HF => ?_
 replace HF := HF.sp 19 (vI (q.length + s : Nat)) rfl (qi (by omega) (by omega))
 refine fp HF 2 10 [(21, .bool (decide ((k : Int) < ((q.length + s : Nat) : Int))))] fun a HF => ?_
 refine qb rfl ?_
 rcases HF.tf 21 rfl with ⟨hb21, HF⟩ | ⟨hb21, HF⟩
 ·
  have hd21 := of_decide_eq_true hb21
  refine qe HF rfl (wp_skip (wp_seq (wp_block (wp_seq (qa ?_)))))
  refine fp HF 1 0 [(9, vI 0)] fun a HF => ?_
  refine qb rfl (wp_seq (wp_seq (qa ?_)))
  refine fp HF 2 0 [(25, .slice A p.length c), (24, vI k)] fun a HF => ?_
  refine fy HF HM 2 rfl rfl rfl (Yl.len rfl rfl (by kernel_rfl)) fun a HF => ?_
  refine fp HF 1 3 [(27, .bool (decide ((k : Int) < (p.length : Int))))] fun a HF => ?_
  refine qb rfl ?_
  rcases HF.tf 27 rfl with ⟨hb27, HF⟩ | ⟨hb27, HF⟩
  ·
   have hd27 := of_decide_eq_true hb27
   omega
  have hd27 := of_decide_eq_false hb27
  refine qd HF rfl (wp_skip (wp_seq (wp_seq (qa ?_))))
  refine fp HF 4 0 [(35, .bool (decide ((k : Int) ≥ (s : Int))))] fun a HF => ?_
  rcases HF.tf 35 rfl with ⟨hb35, HF⟩ | ⟨hb35, HF⟩
  ·
   have hd35 := of_decide_eq_true hb35
   refine fp HF 3 4 [(38, vI (IntKind.i64.wrap ((k : Int) - (s : Int))))] fun a HF => ?_
   replace HF := HF.sp 38 (vI (k - s : Nat)) rfl (qi (by omega) (by omega))
   refine fp HF 1 7 [(39, .slice A2 q.length c2)] fun a HF => ?_
   refine fy HF HM 8 rfl rfl rfl (Yl.len rfl rfl (by kernel_rfl)) fun a HF => ?_
   refine fp HF 2 9 [(42, .bool (decide (((k - s : Nat) : Int) < (q.length : Int))))] fun a HF => ?_
   refine qb rfl ?_
   rcases HF.tf 42 rfl with ⟨hb42, HF⟩ | ⟨hb42, HF⟩
   ·
    have hd42 := of_decide_eq_true hb42
    refine qe HF rfl (qa ?_)
    refine fp HF 5 0 [(47, vI (IntKind.i64.wrap ((k : Int) - (s : Int)))), (44, .slice A2 q.length c2), (43, vI 0)] fun a HF => ?_
    replace HF := HF.sp 47 (vI (k - s : Nat)) rfl (qi (by omega) (by omega))
    obtain ⟨gA2, oA2, rfl, _⟩ := hr2.qy (Nat.lt_of_le_of_lt (Nat.zero_le _) (show k - s < q.length from by omega)) (by decide)
    refine fy HF HM 5 rfl rfl rfl (v := vP gA2 (oA2 + (k - s) * 1)) (Yl.ix gA2 oA2 (k - s) 1 rfl rfl rfl) fun a HF => ?_
    have hx216 := getD_lt h2 (k := (k - s)) (by first | omega | (simp; omega))
    refine fy HF HM 6 rfl rfl rfl (v := vI (q.getD (k - s) 0)) (Yl.qh rfl rfl (by kernel_rfl) (fun _ h => (h.old hr2).qa4 (k := (k - s)) (qai (F := I64v) (k := (k - s)) (x := (q.getD (k - s) 0)) ((getD_at 0 (k := (k - s)) (by first | omega | (simp; omega))))))) fun a HF => ?_
    refine fp HF 1 7 [(50, vI (IntKind.i64.wrap (0 + ((q.getD (k - s) 0) : Int))))] fun a HF => ?_
    replace HF := HF.sp 50 (vI (0 + (q.getD (k - s) 0) : Nat)) rfl (qi (by omega) (by omega))
    refine fp HF 1 8 [(51, vI (Int.tmod ((0 + (q.getD (k - s) 0) : Nat) : Int) 2))] fun a HF => ?_
    replace HF := HF.sp 51 (vI ((0 + (q.getD (k - s) 0)) % 2 : Nat)) rfl (qap .i64 _ 2)
    refine fp HF 1 9 [(9, vI ((0 + (q.getD (k - s) 0)) % 2 : Nat))] fun a HF => ?_
    refine qb rfl (qa ?_)
    refine fp HF 2 0 [(53, vI ((0 + (q.getD (k - s) 0)) % 2 : Nat)), (52, .slice Ak k ck)] fun a HF => ?_
    refine fo HF 2 rfl rfl ?_
    refine ze HF HM (vs := [(0, vI ((0 + (q.getD (k - s) 0)) % 2 : Nat))]) (cs := #[vI ((0 + (q.getD (k - s) 0)) % 2 : Nat)]) rfl qbr (by decide) rfl (by kernel_rfl) rfl (by decide) ?_
    clear HF HM; intro a w54 g54 HF HM
    refine fo HF 3 rfl rfl ?_
    refine qu HF HM (i := 1) rfl qbr rfl rfl rfl (news := [I64v ((0 + (q.getD (k - s) 0)) % 2)]) (HM.rdBlk (i := 0) (n := 1) (size := 1) rfl rfl) (by simp [Value.oneCell', I64v]) (by omega) (by omega) rfl (by decide) ?_
    clear HF HM; intro a w55 A55 c55 HF HM hc55
    refine fp HF 1 4 [(7, .slice A55 (k + 1) c55)] fun a HF => ?_
    refine qb rfl ?_
    have hnA55 : k + 1 = k + 1 := rfl
    replace HM := HM.reRow (i := 1) (ys := (sumUp p q s (k + 1)).map I64v) rfl hnA55 (by rw [qck, qz4 (by omega) (by omega) (by omega)]; simp)
    rw [hnA55] at hc55
    replace HF := HF.as (t := 7) (u := .slice A55 (k + 1) c55) rfl (by rw [hnA55])
    replace HF := HF.as (t := 55) (u := .slice A55 (k + 1) c55) rfl (by rw [hnA55])
    refine qa ?_
    refine fp HF 2 0 [(23, vI (IntKind.i64.wrap ((k : Int) + 1)))] fun a HF => ?_
    replace HF := HF.sp 23 (vI (k + 1 : Nat)) rfl (qi (by omega) (by omega))
    refine fp HF 1 2 [(8, vI (k + 1 : Nat))] fun a HF => ?_
    refine qb rfl ?_
    replace HF := HF.to [(8, vI (k + 1 : Nat)), (55, .slice A55 (k + 1) c55), (7, .slice A55 (k + 1) c55), (9, vI ((0 + (q.getD (k - s) 0)) % 2 : Nat)), (42, .bool true), (27, .bool false), (21, .bool true), (6, .slice none 0 0), (0, .slice A p.length c), (1, .slice (some ⟨gA2, oA2, none⟩) q.length c2), (2, vI s)]
    exact ⟨_, (by omega), k + 1, A55, c55, by omega, hc55, rfl, HF.sub (by kernel_rfl), HM.picks [1] (by decide) rfl⟩
   have hd42 := of_decide_eq_false hb42
   refine qd HF rfl (wp_skip (qa ?_))
   refine fp HF 2 0 [(53, vI 0), (52, .slice Ak k ck)] fun a HF => ?_
   refine fo HF 2 rfl rfl ?_
   refine ze HF HM (vs := [(0, vI 0)]) (cs := #[vI 0]) rfl qbr (by decide) rfl (by kernel_rfl) rfl (by decide) ?_
   clear HF HM; intro a w54 g54 HF HM
   refine fo HF 3 rfl rfl ?_
   refine qu HF HM (i := 1) rfl qbr rfl rfl rfl (news := [I64v 0]) (HM.rdBlk (i := 0) (n := 1) (size := 1) rfl rfl) (by simp [Value.oneCell', I64v]) (by omega) (by omega) rfl (by decide) ?_
   clear HF HM; intro a w55 A55 c55 HF HM hc55
   refine fp HF 1 4 [(7, .slice A55 (k + 1) c55)] fun a HF => ?_
   refine qb rfl ?_
   have hnA55 : k + 1 = k + 1 := rfl
   replace HM := HM.reRow (i := 1) (ys := (sumUp p q s (k + 1)).map I64v) rfl hnA55 (by rw [qck, qxu (by omega) (by omega)]; simp)
   rw [hnA55] at hc55
   replace HF := HF.as (t := 7) (u := .slice A55 (k + 1) c55) rfl (by rw [hnA55])
   replace HF := HF.as (t := 55) (u := .slice A55 (k + 1) c55) rfl (by rw [hnA55])
   refine qa ?_
   refine fp HF 2 0 [(23, vI (IntKind.i64.wrap ((k : Int) + 1)))] fun a HF => ?_
   replace HF := HF.sp 23 (vI (k + 1 : Nat)) rfl (qi (by omega) (by omega))
   refine fp HF 1 2 [(8, vI (k + 1 : Nat))] fun a HF => ?_
   refine qb rfl ?_
   exact ⟨_, (by omega), k + 1, A55, c55, by omega, hc55, rfl, HF.sub (by kernel_rfl), HM.picks [1] (by decide) rfl⟩
  have hd35 := of_decide_eq_false hb35
  refine fp HF 7 4 [(42, .bool false)] fun a HF => ?_
  refine qb rfl (qd HF rfl (wp_skip (qa ?_)))
  refine fp HF 2 0 [(53, vI 0), (52, .slice Ak k ck)] fun a HF => ?_
  refine fo HF 2 rfl rfl ?_
  refine ze HF HM (vs := [(0, vI 0)]) (cs := #[vI 0]) rfl qbr (by decide) rfl (by kernel_rfl) rfl (by decide) ?_
  clear HF HM; intro a w54 g54 HF HM
  refine fo HF 3 rfl rfl ?_
  refine qu HF HM (i := 1) rfl qbr rfl rfl rfl (news := [I64v 0]) (HM.rdBlk (i := 0) (n := 1) (size := 1) rfl rfl) (by simp [Value.oneCell', I64v]) (by omega) (by omega) rfl (by decide) ?_
  clear HF HM; intro a w55 A55 c55 HF HM hc55
  refine fp HF 1 4 [(7, .slice A55 (k + 1) c55)] fun a HF => ?_
  refine qb rfl ?_
  have hnA55 : k + 1 = k + 1 := rfl
  replace HM := HM.reRow (i := 1) (ys := (sumUp p q s (k + 1)).map I64v) rfl hnA55 (by rw [qck, qxu (by omega) (by omega)]; simp)
  rw [hnA55] at hc55
  replace HF := HF.as (t := 7) (u := .slice A55 (k + 1) c55) rfl (by rw [hnA55])
  replace HF := HF.as (t := 55) (u := .slice A55 (k + 1) c55) rfl (by rw [hnA55])
  refine qa ?_
  refine fp HF 2 0 [(23, vI (IntKind.i64.wrap ((k : Int) + 1)))] fun a HF => ?_
  replace HF := HF.sp 23 (vI (k + 1 : Nat)) rfl (qi (by omega) (by omega))
  refine fp HF 1 2 [(8, vI (k + 1 : Nat))] fun a HF => ?_
  refine qb rfl ?_
  exact ⟨_, (by omega), k + 1, A55, c55, by omega, hc55, rfl, HF.sub (by kernel_rfl), HM.picks [1] (by decide) rfl⟩
 have hd21 := of_decide_eq_false hb21
 have hkM : k = (max p.length (q.length + s)) := by omega
 refine qd HF rfl (wp_exit (wp_seq (qa ?_)))
 refine fp HF 1 0 [(56, .slice Ak k ck)] fun a HF => ?_
 refine fo HF 1 rfl rfl ?_
 refine e_is HF HM [.slice Ak k ck] (.slice Ak ((trimL (sumUp p q s k)).length) ck) rfl rfl (qp6 _ _ _ (sumUp p q s k) _ (HM.rd (i := 0) rfl) (qm9 p q s k) (by omega) (by omega)) fun w57 hbw HM a HF => ?_
 have htl57 := qft (sumUp p q s k)
 have hle57 : (trimL (sumUp p q s k)).length ≤ k := by rw [qm9 p q s k] at htl57; exact htl57
 replace HM := HM.cutRow (i := 0) rfl hle57 (qfu (sumUp p q s k))
 refine fp HF 1 2 [(6, .slice Ak ((trimL (sumUp p q s k)).length) ck)] fun a HF => ?_
 refine qb rfl (wp_ret ?_)
 exact ret1 rfl HF (.tmp HF rfl) (by rw [← qur p q s, ← hkM]; exact ⟨⟨_, _, rfl, HM.own (i := 0) rfl, by omega⟩, HM.below⟩)
theorem one01 : P01 [1] := by intro x hx; simp at hx; omega
theorem qw2 {w w' : World} {A X Xr : Option Addr} {c ca cr : Nat} {p q al xr : List Nat} {vq : Value} (hR : divR (p.length + 1) p q = al) (hX : (X = A ∧ ca = c ∧ al = p) ∨ (X = Xr ∧ ca = cr ∧ al = xr ∧ q.length ≤ p.length))
  (hO : w'.ownsRow w.heap.size 3 1 (.slice Xr xr.length cr) xr.length (xr.map I64v)) (hcr : xr.length ≤ cr) (hless : al.length < q.length) (hb : Below w.heap.size w w') :
  DivIs w A c p q (.returned (.tuple #[vq, .slice X al.length ca])) w' := by
 unfold DivIs
 rw [hR]
 refine ⟨⟨vq, X, ca, rfl, ?_, ?_⟩, hb⟩
 ·intro h
  rcases hX with ⟨h1, h2, _⟩ | ⟨_, _, _, h4⟩
  ·exact ⟨h1, h2⟩
  ·omega
 ·intro h
  rcases hX with ⟨_, _, h3⟩ | ⟨rfl, rfl, rfl, _⟩
  ·subst h3; omega
  ·exact ⟨hO, hcr⟩
theorem qj8 (A A2 : Option Addr) (c c2 : Nat) (p q : List Nat) (w : World) (h1 : P01 p) (h2 : P01 q) (t1 : Tr p) (t2 : Tr q) (h0 : 0 < q.length) (hr : Rd w w.heap.size 1 A p.length (p.map I64v)) (hr2 : Rd w w.heap.size 1 A2 q.length (q.map I64v)) (hp : p.length ≤ 100000) (hq : q.length ≤ 100000) :
    Calls Tryz.prog 122 #[.slice A p.length c, .slice A2 q.length c2] w (DivIs w A c p q) := by
 refine qg (vs := [.slice A p.length c, .slice A2 q.length c2]) Tryz.func122 rfl rfl (by kernel_rfl) (σ0 := [(0, .slice A p.length c), (1, .slice A2 q.length c2)]) rfl ?_
 intro a HF
 have HM := Mem.start w
 refine wp_seq (qa ?_)
 refine fp HF 2 0 [(5, .slice none 0 0), (4, .slice none 0 0)] fun a HF => ?_
 refine qb rfl (wp_seq (qa ?_))
 refine fp HF 1 0 [(6, .slice none 0 0)] fun a HF => ?_
 refine qb rfl ?_
 replace HM := (HM.nil 3 1).nil 3 1
 refine wp_seq (wp_block ?_)
 refine qs (fun mS aS wS => ∃ (al : List Nat) (X : Option Addr) (ca : Nat) (Xr : Option Addr) (xr : List Nat) (cr : Nat) (ql : List Nat) (Aq : Option Addr) (cq : Nat), (P01 al) ∧ (Tr al) ∧ (al.length ≤ p.length) ∧ (divR (al.length + 1) al q = divR (p.length + 1) p q) ∧ ((X = A ∧ ca = c ∧ al = p) ∨ (X = Xr ∧ ca = cr ∧ al = xr ∧ q.length ≤ p.length)) ∧ (P01 ql) ∧ (ql.length ≤ p.length + 1) ∧ (xr.length ≤ cr) ∧ mS = al.length ∧ Fr aS 28 [] [(6, .slice Aq ql.length cq), (5, .slice none 0 0), (4, .slice none 0 0), (0, .slice X al.length ca), (1, .slice A2 q.length c2)] ∧ Mem w wS [.row (.slice Aq ql.length cq) ql.length (ql.map I64v) 3 1, .row (.slice Xr xr.length cr) xr.length (xr.map I64v) 3 1]) (m := p.length) ⟨p, A, c, none, [], 0, [], none, 0, h1, t1, Nat.le_refl _, rfl, .inl ⟨rfl, rfl, rfl⟩, (by intro x hx; cases hx), Nat.zero_le _, Nat.le_refl _, rfl, HF.sub (by kernel_rfl), HM.picks [0, 1] (by decide) rfl⟩ ?_
 clear HF HM; rintro mS a w_ ⟨al, X, ca, Xr, xr, cr, ql, Aq, cq, ha1, hat, hal, hdv, hX, hq1, hql, hcr, rfl, HF, HM⟩
 refine wp_seq (wp_seq (qa ?_))
 refine fp HF 1 0 [(8, .slice X al.length ca)] fun a HF => ?_
 refine fy HF HM 1 rfl rfl rfl (Yl.len rfl rfl (by kernel_rfl)) fun a HF => ?_
 refine fp HF 1 2 [(10, .slice A2 q.length c2)] fun a HF => ?_
 refine fy HF HM 3 rfl rfl rfl (Yl.len rfl rfl (by kernel_rfl)) fun a HF => ?_
 refine fp HF 1 4 [(12, .bool (decide ((al.length : Int) ≥ (q.length : Int))))] fun a HF => ?_
 refine qb rfl ?_
 rcases HF.tf 12 rfl with ⟨hb12, HF⟩ | ⟨hb12, HF⟩
 ·
  have hd12 := of_decide_eq_true hb12
  have hless := qg5 ha1 h2 hat t2 h0 (by omega)
  refine qe HF rfl (wp_skip (wp_block (wp_seq (qa ?_))))
  refine fp HF 1 0 [(13, .slice X al.length ca)] fun a HF => ?_
  refine fy HF HM 1 rfl rfl rfl (Yl.len rfl rfl (by kernel_rfl)) fun a HF => ?_
  refine fp HF 1 2 [(15, .slice A2 q.length c2)] fun a HF => ?_
  refine fy HF HM 3 rfl rfl rfl (Yl.len rfl rfl (by kernel_rfl)) fun a HF => ?_
  refine fp HF 1 4 [(17, vI (IntKind.i64.wrap ((al.length : Int) - (q.length : Int))))] fun a HF => ?_
  replace HF := HF.sp 17 (vI (al.length - q.length : Nat)) rfl (qi (by omega) (by omega))
  refine fp HF 1 5 [(7, vI (al.length - q.length : Nat))] fun a HF => ?_
  refine qb rfl (wp_seq (qa ?_))
  refine fp HF 1 0 [(18, .slice Aq ql.length cq)] fun a HF => ?_
  refine fo HF 1 rfl rfl ?_
  refine ze HF HM (vs := [(0, vI 1)]) (cs := #[vI 1]) rfl qbr (by decide) rfl (by kernel_rfl) rfl (by decide) ?_
  clear HF HM; intro a w19 g19 HF HM
  refine fp HF 1 2 [(20, vI (al.length - q.length : Nat))] fun a HF => ?_
  refine fo HF 3 rfl rfl ?_
  refine e_cl HF [.slice Aq ql.length cq, vS g19 1 1, vI (al.length - q.length : Nat)] rfl rfl (qj7 _ _ _ _ ql [1] (al.length - q.length) _ hq1 one01 (HM.rd (i := 1) rfl) (HM.rdBlk (i := 0) (n := 1) (size := 1) rfl rfl) (by omega) (by simp only [List.length_singleton]; omega)) ?_
  rintro _ w21 ⟨⟨A21, c21, rfl, ho, hc21⟩, hbw⟩
  refine ⟨_, rfl, ?_⟩
  replace HM := HM.callRow hbw ho
  clear HF; intro a HF
  refine fp HF 1 4 [(6, .slice A21 ((sumL ql [1] (al.length - q.length)).length) c21)] fun a HF => ?_
  refine qb rfl (qa ?_)
  refine fp HF 3 0 [(24, vI (al.length - q.length : Nat)), (23, .slice A2 q.length c2), (22, .slice X al.length ca)] fun a HF => ?_
  refine fo HF 3 rfl rfl ?_
  refine e_cl HF [.slice X al.length ca, .slice A2 q.length c2, vI (al.length - q.length : Nat)] rfl rfl (qj7 _ _ _ _ al q (al.length - q.length) _ ha1 h2 (by rcases hX with ⟨rfl, rfl, rfl⟩ | ⟨rfl, rfl, rfl, _⟩ <;> first | exact HM.old hr | exact HM.rd (i := 3) rfl) (HM.old hr2) (by omega) (by omega)) ?_
  rintro _ w25 ⟨⟨A25, c25, rfl, ho, hc25⟩, hbw⟩
  refine ⟨_, rfl, ?_⟩
  replace HM := HM.callRow hbw ho
  clear HF; intro a HF
  refine fp HF 1 4 [(0, .slice A25 ((sumL al q (al.length - q.length)).length) c25)] fun a HF => ?_
  refine qb rfl ?_
  exact ⟨_, hless, (sumL al q (al.length - q.length)), A25, c25, A25, (sumL al q (al.length - q.length)), c25, (sumL ql [1] (al.length - q.length)), A21, c21, sum01 ha1 _, sumTr _ _ _, by omega, qpy h2 t2 h0 ha1 hat (by omega) hdv, .inr ⟨rfl, rfl, rfl, by omega⟩, sum01 hq1 _, by have := qyx ql [1] (al.length - q.length); simp only [List.length_singleton] at this; omega, hc25, rfl, HF.sub (by kernel_rfl), HM.picks [1, 0] (by decide) rfl⟩
 have hd12 := of_decide_eq_false hb12
 refine qd HF rfl (wp_exit (wp_seq (qa ?_)))
 refine fp HF 4 0 [(5, .slice X al.length ca), (4, .slice Aq ql.length cq)] fun a HF => ?_
 refine qb rfl (wp_ret ?_)
 have hR : divR (p.length + 1) p q = al := by rw [← hdv, qpz (by omega)]
 exact ret2 rfl HF (.tmp HF rfl) (.tmp HF rfl) (qw2 hR hX (HM.own (i := 1) rfl) hcr (by omega) HM.below)
theorem qj0 : EI Tryz.prog 46 112 (.agg Ev.zero.cells) 11 80 := ⟨by kernel_rfl, by kernel_rfl, rfl, by omega⟩
def putUp (b : Bs) (e : Ev) (k : Nat) : List Nat := [e.kind] ++ vbytes (e.seq - b.seq).toNat ++ vbytes (e.time - b.time).toNat ++ (e.vals.take k).flatMap vbytes
theorem qj1 (b : Bs) (e : Ev) : putUp b e 0 = [e.kind] ++ vbytes (e.seq - b.seq).toNat ++ vbytes (e.time - b.time).toNat := by simp [putUp]
theorem qj2 {b : Bs} {e : Ev} {k x : Nat} (h : e.vals[k]? = some x) : putUp b e (k + 1) = putUp b e k ++ vbytes x := by
 unfold putUp
 rw [List.take_add_one, h]
 simp
theorem qih (b : Bs) (e : Ev) : putUp b e e.vals.length = zr b e := by
 unfold putUp zr qaw
 rw [List.take_length]
 simp
theorem qul (b : Bs) (e : Ev) (k : Nat) : (putUp b e k).length ≤ 61 := by
 unfold putUp
 simp only [List.length_append, List.length_cons, List.length_nil]
 have h1 := qm (e.seq - b.seq).toNat
 have h2 := qm (e.time - b.time).toNat
 have h3 : ∀ l : List Nat, (l.flatMap vbytes).length ≤ l.length * 10 := by
  intro l
  induction l with
  | nil => simp
  | cons x r ih => rw [List.flatMap_cons, List.length_append, List.length_cons]; have := qm x; omega
 have h4 := h3 (e.vals.take k)
 have h5 := qe9 e
 rw [List.length_take] at h4
 omega
theorem qrb {l : List Ev} {k : Nat} {e : Ev} (hk : l[k]? = some e) : rowGo (qbp l k) k (l.drop k) = if e.check ≠ 0 then ((k : Int), e.check) else if (qbp l k).all (fun q => e.after q) = false then ((k : Int), 71) else rowGo (qbp l (k + 1)) (k + 1) (l.drop (k + 1)) := by
 obtain ⟨hl, he⟩ := List.getElem?_eq_some_iff.1 hk
 rw [List.drop_eq_getElem_cons hl, he, show qbp l (k + 1) = some e from hk]
 rfl
theorem qea {w w' : World} {b : Bs} {l : List Ev} {er : Nat} (h : qz b l = er) (he : er ≠ 0) (hb : Below w.heap.size w w') : qah w (qz b l) (zo b l) (.returned (.tuple #[.slice none 0 0, .int .i64 (er : Int)])) w' := by
 have ho : zo b l = [] := by unfold zo; rw [if_neg (by omega)]
 rw [ho, h]
 exact ⟨⟨none, 0, rfl, World.ownsRow_nil _ _ _ _, Nat.le_refl _⟩, hb⟩
theorem qm3 {b : Bs} {l : List Ev} (h : (rowR l).2 ≠ 0) : qz b l = (rowR l).2 := by unfold qz; rw [if_pos h]
theorem qk7 {b : Bs} {l : List Ev} (h : (rowR l).2 = 0) (hb : ¬ b.right = true) : qz b l = 70 := by unfold qz; rw [if_neg (by omega), if_neg (by simp [hb])]
theorem qm4 : ∀ (l : List Ev) (b : Bs) (e : Ev), recs b (l ++ [e]) = recs b l ++ zr (match l.getLast? with | some q => q.at | none => b) e
 | [], b, e => by simp [recs]
 | x :: l, b, e => by
  rw [List.cons_append, recs, recs, qm4 l x.at e, List.append_assoc]
  congr 2
  cases l with
  | nil => rfl
  | cons y r => simp only [List.getLast?_cons, Option.getD_some]
def zm (b : Bs) (l : List Ev) (k : Nat) : List Nat := recs b (l.take k)
theorem qpt : ∀ (l : List Ev) (b : Bs), (recs b l).length ≤ 61 * l.length
 | [], _ => by simp [recs]
 | e :: l, b => by
  rw [recs, List.length_append, List.length_cons]
  have h1 := qpt l e.at
  have h2 := qnu b e
  omega
theorem qoi (b : Bs) (l : List Ev) (k : Nat) : (zm b l k).length ≤ 61 * k := by
 have h1 := qpt (l.take k) b
 have h2 : (l.take k).length ≤ k := by rw [List.length_take]; omega
 unfold zm
 omega
theorem qum (b : Bs) (e : Ev) : (qaf b e).length ≤ 61 := by
 unfold qaf
 split
 ·exact qnu b e
 ·simp
structure WriteAt (b : Bs) (l : List Ev) (k : Nat) (bk : Bs) : Prop where
 base : bk = qdz b l k
 head : 0 < k → l.head?.all b.behind = true
theorem WriteAt.start (b : Bs) (l : List Ev) : WriteAt b l 0 b := ⟨rfl, fun h => by omega⟩
section
variable {b bk : Bs} {l : List Ev} {k : Nat} {e : Ev}
theorem WriteAt.bad (h : WriteAt b l k bk) (hr : (rowR l).2 = 0) (hb : b.right = true) (hk : l[k]? = some e) (hp : zb bk e ≠ 0) : k = 0 := by
 rcases Nat.eq_zero_or_pos k with h0 | h0
 ·exact h0
 ·obtain ⟨hl, he⟩ := List.getElem?_eq_some_iff.1 hk
  have := qo3 hr hb (h.head h0) k hl
  rw [he, ← h.base] at this
  exact absurd this hp
theorem WriteAt.fail (h : WriteAt b l k bk) (hr : (rowR l).2 = 0) (hb : b.right = true) (hk : l[k]? = some e) (h0 : k = 0) (hp : zb bk e ≠ 0) : qz b l = zb bk e := by
 subst h0
 have hbk : bk = b := h.base
 subst hbk
 obtain ⟨g1, _, _⟩ := qf4 l none 0 hr
 have hc := g1 e (List.mem_of_getElem? hk)
 have hbh : ¬ bk.behind e = true := by
  intro h1
  unfold zb at hp
  rw [if_neg (by simp [hc]), if_pos ⟨hb, h1⟩] at hp
  exact hp rfl
 have hh : l.head? = some e := by rw [List.head?_eq_getElem?]; exact hk
 unfold qz zb
 rw [if_neg (by omega), if_neg (by simp [hh, hbh]), if_neg (by simp [hc]), if_neg (by simp [hbh])]
theorem WriteAt.up (h : WriteAt b l k bk) (hk : l[k]? = some e) (hp : zb bk e = 0) : zm b l (k + 1) = zm b l k ++ qaf bk e := by
 obtain ⟨hl, he⟩ := List.getElem?_eq_some_iff.1 hk
 unfold zm qaf
 rw [List.take_add_one, hk, if_pos hp, h.base]
 show recs b (l.take k ++ [e]) = _
 rw [qm4]
 congr 2
 cases k with
 | zero => simp [qdz]
 | succ j =>
  rw [show (l.take (j + 1)).getLast? = l[j]? from by rw [List.getLast?_take]; simp [List.getElem?_eq_getElem (show j < l.length by omega)]]
  rfl
theorem WriteAt.next (h : WriteAt b l k bk) (hk : l[k]? = some e) (hp : zb bk e = 0) : WriteAt b l (k + 1) e.at := by
 refine ⟨by show e.at = (match l[k]? with | some e => e.at | none => b); rw [hk], fun _ => ?_⟩
 rcases Nat.eq_zero_or_pos k with h0 | h0
 ·subst h0
  have hbk : bk = b := h.base
  subst hbk
  have hh : l.head? = some e := by rw [List.head?_eq_getElem?]; exact hk
  rw [hh]
  unfold zb at hp
  split at hp
  ·omega
  ·split at hp
   ·rename_i h1; exact h1.2
   ·omega
 ·exact h.head h0
theorem WriteAt.done {w w' : World} {n c : Nat} {A : Option Addr} (h : WriteAt b l n bk) (hr : (rowR l).2 = 0) (hb : b.right = true) (hln : l.length = n) (ho : w'.ownsRow w.heap.size 5 1 (.slice A (zm b l n).length c) (zm b l n).length ((zm b l n).map B8)) (hc : (zm b l n).length ≤ c) (hw : Below w.heap.size w w') :
  qah w (qz b l) (zo b l) (.returned (.tuple #[.slice A (zm b l n).length c, .int .i64 0])) w' := by
 have hh : l.head?.all b.behind = true := by
  rcases Nat.eq_zero_or_pos n with h0 | h0
  ·subst h0; rw [List.length_eq_zero_iff.1 hln]; rfl
  ·exact h.head h0
 have he : qz b l = 0 := by unfold qz; rw [if_neg (by omega), if_pos ⟨hb, hh⟩]
 have hout : zo b l = zm b l n := by unfold zo zm; rw [if_pos he, ← hln, List.take_length]
 rw [he, hout]
 exact ⟨⟨A, c, rfl, ho, hc⟩, hw⟩
end
structure ReadJn (b : Bs) (cpu : Nat) (m : Nat) (l : List Nat) (es : List Ev) (u : Nat) (bk : Bs) : Prop where
 fits : u ≤ l.length
 most : es.length ≤ u
 few : es.length ≤ m
 last : ∀ q, es.getLast? = some q → bk = q.at
 said : za cpu m b none l = joinE es u (za cpu (m - es.length) bk es.getLast? (l.drop u))
section
variable {b bk : Bs} {cpu m u L er : Nat} {l : List Nat} {es : List Ev} {e : Ev}
theorem ReadJn.start (b : Bs) (cpu m : Nat) (l : List Nat) : ReadJn b cpu m l [] 0 b := ⟨Nat.zero_le _, Nat.le_refl _, Nat.zero_le _, fun q h => by simp at h, (qlo cpu m b none l).symm⟩
theorem ReadJn.bad (h : ReadJn b cpu m l es u bk) (hm : es.length < m) (hq : takeR bk cpu (l.drop u) = (e, L, er)) (he : er ≠ 0) : za cpu m b none l = ([], 0, er) := by
 rw [h.said, show m - es.length = (m - es.length - 1) + 1 by omega]
 exact qln hq he es u
theorem ReadJn.same (h : ReadJn b cpu m l es u bk) (hm : es.length < m) (hq : takeR bk cpu (l.drop u) = (e, L, 0)) (he : es.getLast?.any (fun q => decide (e.seq = q.seq)) = true) : za cpu m b none l = ([], 0, 71) := by
 rw [h.said, show m - es.length = (m - es.length - 1) + 1 by omega]
 exact qi7 hq he es u
theorem ReadJn.next (h : ReadJn b cpu m l es u bk) (hm : es.length < m) (hq : takeR bk cpu (l.drop u) = (e, L, 0)) (he : es.getLast?.any (fun q => decide (e.seq = q.seq)) = false) : ReadJn b cpu m l (es ++ [e]) (u + L) e.at := by
 have h1 := qhf bk cpu (l.drop u)
 rw [hq, List.length_drop] at h1
 simp only at h1
 have h2 := h1.2 trivial
 have h3 := h.fits
 have h4 := h.most
 refine ⟨by omega, by simp; omega, by simp; omega, fun q hq => ?_, ?_⟩
 ·simp at hq; rw [hq]
 ·rw [h.said, show m - es.length = (m - es.length - 1) + 1 by omega, qf5 hq he es u, List.drop_drop]
  simp [Nat.sub_sub]
theorem ReadJn.done (h : ReadJn b cpu m l es u bk) (hm : m ≤ es.length) : za cpu m b none l = (es, u, 0) := by
 rw [h.said, show m - es.length = 0 by omega]
 simp [za, joinE]
end
theorem qfm {cpu : Nat} : ∀ (l : List Ev) (p : Option Ev) (b : Bs), Chain cpu p b l → ∀ e ∈ l, e.cpu = cpu
 | [], _, _, _, e, he => by cases he
 | x :: r, p, b, h, e, he => by
  obtain ⟨h1, h2, h3, h4⟩ := h
  rcases List.mem_cons.1 he with rfl | he
  ·exact h2
  ·exact qfm r (some x) x.at h4 e he
theorem qh2 {cpu : Nat} : ∀ (l : List Ev) (p : Option Ev) (b : Bs) (k : Nat), Chain cpu p b l → Chain cpu p b (l.take k)
 | [], _, _, k, _ => by rw [List.take_nil]; trivial
 | _ :: _, _, _, 0, _ => trivial
 | e :: r, _, _, k + 1, h => ⟨h.1, h.2.1, h.2.2.1, qh2 r (some e) e.at k h.2.2.2⟩
theorem qfn {b : Bk} (h : b.kind = 2) : b.fits = decide (1 ≤ b.next ∧ b.next ≤ 281474976710657 ∧ b.cpu = 0 ∧ b.lost = 0 ∧ b.evs.length = 0) := by
 unfold Bk.fits; rw [if_neg (by omega), if_pos h]; rfl
theorem qej {b : Bk} (h2 : b.kind ≠ 2) (h : b.kind ≠ 1 ∨ 63 < b.cpu ∨ b.lost < 0 ∨ 281474976710656 < b.lost ∨ b.next ≠ 0 ∨ (b.lost = 0 ∧ b.evs.length = 0)) : b.fits = false := by
 unfold Bk.fits
 by_cases h1 : b.kind = 1
 ·rw [if_pos h1]
  unfold Bk.qds
  rw [decide_eq_false_iff_not]
  rintro ⟨a1, a2, a3, a4, a5, a6⟩
  rcases h with h | h | h | h | h | ⟨h, h'⟩
  ·exact h h1
  ·omega
  ·omega
  ·omega
  ·exact h a5
  ·rw [qge h', decide_eq_true_eq] at a6
   omega
 ·rw [if_neg h1, if_neg h2]
theorem qpi {b : Bk} (hok : b.Ok) (h2 : b.kind ≠ 2) {k : Nat} (hk : k < b.evs.length) (h : (b.evs.getD k Ev.zero).cpu ≠ b.cpu) : b.fits = false := by
 rw [Bool.eq_false_iff]
 intro hf
 obtain ⟨h1, hE⟩ := qeg hf h2
 obtain ⟨e, r, g⟩ := qg3 hok hE (by omega)
 exact h (qfm _ _ _ g.chain _ (qal Ev.zero hk))
theorem qfo {b : Bk} (h1 : b.kind = 1) (h2 : b.cpu ≤ 63) (h3 : 0 ≤ b.lost) (h4 : b.lost ≤ 281474976710656) (h5 : b.next = 0) (h6 : ¬ (b.lost = 0 ∧ b.evs.length = 0)) (hall : ∀ k, k < b.evs.length → (b.evs.getD k Ev.zero).cpu = b.cpu) :
  b.fits = decide ((rowR b.evs).2 = 0) := by
 have hh : b.qir = true := by
  by_cases h : b.evs.length = 0
  ·rw [qge h, decide_eq_true_eq]; omega
  ·rw [qhu h, decide_eq_true_eq]; exact hall 0 (by omega)
 unfold Bk.fits
 rw [if_pos h1]
 unfold Bk.qds
 rw [Bool.eq_iff_iff, decide_eq_true_eq, decide_eq_true_eq]
 exact ⟨fun h => h.1, fun h => ⟨h, by omega, h3, h4, h5, hh⟩⟩
def Bk.upto (b : Bk) (n : Nat) : Bk := ⟨b.kind, b.cpu, b.lost, b.next, b.evs.take n⟩
theorem qwl {b : Bk} {n : Nat} (h : n ≤ b.evs.length) : (b.upto n).evs.length = n := by show (b.evs.take n).length = n; rw [List.length_take]; omega
theorem qtr {b : Bk} (hk : b.kind = 1) {n : Nat} (h1 : 0 < n) (h2 : n ≤ b.evs.length) : 12 + (b.upto n).body.length = b.sz n + (vbytes n).length := by
 have hb : (b.upto n).base = b.base := by
  unfold Bk.base Bk.upto
  cases hl : b.evs with
  | nil => simp
  | cons e r =>
   cases n with
   | zero => omega
   | succ j => rfl
 have hl2 := qwl h2
 unfold Bk.body Bk.sz
 rw [if_neg (by show ¬ b.kind = 2; omega), hb]
 simp only [hl2]
 rw [if_neg (by omega)]
 show 12 + (vbytes b.cpu ++ vbytes b.lost.toNat ++ vbytes n ++ (vbytes b.base.seq.toNat ++ vbytes b.base.time.toNat ++ recs b.base (b.evs.take n))).length = _
 simp only [List.length_append]
 omega
theorem qts : ∀ (f x y : Nat), x ≤ y → (grp f x).length ≤ (grp f y).length
 | 0, x, y, _ => by simp [grp]
 | f + 1, x, y, h => by
  rcases Nat.lt_or_ge x 128 with h1 | h1
  ·rw [qew f x h1]
   rcases Nat.lt_or_ge y 128 with h2 | h2
   ·rw [qew f y h2]; simp
   ·rw [qcv f y h2]; simp
  ·rw [qcv f x h1, qcv f y (by omega)]
   have := qts f (x / 128) (y / 128) (Nat.div_le_div_right h)
   simp only [List.length_cons]
   omega
theorem qjm {x y : Nat} (h : x ≤ y) : (vbytes x).length ≤ (vbytes y).length := by unfold vbytes; rw [List.length_map, List.length_map]; exact qts 10 x y h
theorem qzx {b : Bk} {i j : Nat} (h : i ≤ j) : b.sz i ≤ b.sz j := by
 induction h with
 | refl => exact Nat.le_refl _
 | @step j _ ih =>
  refine Nat.le_trans ih ?_
  rcases Nat.lt_or_ge j b.evs.length with h1 | h1
  ·rw [qtq h1]; omega
  ·unfold Bk.sz
   rw [List.take_of_length_le h1, List.take_of_length_le (by omega : b.evs.length ≤ j + 1)]
   omega
theorem qwm {b : Bk} {i j : Nat} (h : i ≤ j) (hj : b.big j = false) : b.big i = false := by
 unfold Bk.big at hj ⊢
 rw [decide_eq_false_iff_not] at hj ⊢
 have h1 := qzx (b := b) h
 have h2 := qjm h
 omega
theorem qtt {b : Bk} {n : Nat} (hn : n ≤ b.evs.length) (h1 : 0 < n → b.big n = false) (h2 : ∀ m, n < m → m ≤ b.evs.length → b.big m = true) : b.qeq = n := by
 have hno : ∀ i, i < n → b.big (i + 1) = false := fun i hi => qwm (by omega) (h1 (by omega))
 rcases Nat.lt_or_ge n b.evs.length with h | h
 ·exact qph h hno (h2 _ (by omega) (by omega))
 ·have : n = b.evs.length := by omega
  subst this
  exact qh1 hno
theorem qb8 : SI Tryz.prog 48 5 := ⟨by kernel_rfl, by kernel_rfl⟩
theorem qpu {b : Bk} (hk : b.kind = 2) : vbytes b.next.toNat = b.body := by unfold Bk.body; rw [if_pos hk]
theorem qm5 {b : Bk} (hk : b.kind ≠ 2) (h : b.evs.length = 0) : [b.cpu, b.lost.toNat, b.evs.length].flatMap vbytes = b.body := by
 unfold Bk.body
 rw [if_neg hk, if_pos h]
 simp
theorem qm6 {b : Bk} (hk : b.kind ≠ 2) (h : b.evs.length ≠ 0) : [b.cpu, b.lost.toNat, b.evs.length].flatMap vbytes ++ [(b.evs.getD 0 Ev.zero).seq.toNat, (b.evs.getD 0 Ev.zero).time.toNat].flatMap vbytes ++ recs b.base b.evs = b.body := by
 unfold Bk.body
 rw [if_neg hk, if_neg h, qd6]
 simp
theorem raw10 (b : Bk) : ((#[Value.int .u8 (((b.body.length + 12) % 256 : Nat) : Int), .int .u8 (((b.body.length + 12) / 256 % 256 : Nat) : Int), .int .u8 (((b.body.length + 12) / 65536 % 256 : Nat) : Int), .int .u8 (((b.body.length + 12) / 16777216 % 256 : Nat) : Int), .int .u8 113, .int .u8 116, .int .u8 1, .int .u8 (b.kind : Int)] : Array Value).toList ++ b.body.map B8) = b.raw.map B8 := by
 unfold Bk.raw le4
 rw [Nat.add_comm 12]
 rfl
theorem bk_ok {w w' : World} {b : Bk} {A : Option Addr} {c : Nat} (h : b.err = 0) (ho : w'.ownsRow w.heap.size 5 1 (.slice A (sealL b.raw).length c) (sealL b.raw).length ((sealL b.raw).map B8)) (hc : (sealL b.raw).length ≤ c) (hb : Below w.heap.size w w') :
  qah w b.err b.out (.returned (.tuple #[.slice A (sealL b.raw).length c, .int .i64 0])) w' :=
 qah.as (er := 0) (R := sealL b.raw) ⟨⟨A, c, rfl, ho, hc⟩, hb⟩ h.symm (qte h).symm
def qxr (w : World) (b : Bk) (r : Ending) (w' : World) : Prop :=
 (∃ A c, r = .returned (.agg (b.cells A c)) ∧ w'.ownsRow w.heap.size 112 11 (.slice A b.evs.length c) b.evs.length (b.evs.flatMap evL) ∧ b.evs.length ≤ c) ∧ Below w.heap.size w w'
def waUp (l : List Nat) (k : Nat) : List Nat := (l.take k).flatMap vbytes
theorem qm7 {l : List Nat} {k : Nat} (h : k < l.length) : waUp l (k + 1) = waUp l k ++ vbytes (l.getD k 0) := by
 unfold waUp
 rw [← List.take_append_getElem (by omega : k < l.length), List.flatMap_append, List.getD_eq_getElem?_getD, List.getElem?_eq_getElem h]
 simp
theorem qpv (l : List Nat) (k : Nat) : (waUp l k).length ≤ 10 * k := by
 unfold waUp
 have h := qao (l.take k)
 rw [List.length_take] at h
 omega
theorem qos {l : List Ev} {k : Nat} (h : k < l.length) : (l.take (k + 1)).flatMap evL = (l.take k).flatMap evL ++ evL (l.getD k Ev.zero) := by
 rw [List.take_succ_eq_append_getElem h, List.getD_eq_getElem?_getD, List.getElem?_eq_getElem h, List.flatMap_append]
 simp
def qz5 (w : World) (b : Bk) (r : Ending) (w' : World) : Prop :=
 (∃ A c, r = .returned (.agg (b.cells A c)) ∧ w'.ownsRow w.heap.size 41 11 (.slice A b.evs.length c) b.evs.length (b.evs.flatMap evL) ∧ b.evs.length ≤ c) ∧ Below w.heap.size w w'
theorem qg0 (b : Bk) (A : Option Addr) (c : Nat) (w : World) (hr : Rd w w.heap.size 11 A b.evs.length (b.evs.flatMap evL)) (hn : b.evs.length ≤ 1000000) :
    Calls Tryz.prog 24 #[.agg (b.cells A c)] w (qxr w b) := by
 refine qg (vs := [.agg (b.cells A c)]) Tryz.func24 rfl rfl (by kernel_rfl) (σ0 := [(0, .agg (b.cells A c))]) rfl ?_
 intro a HF
 have HM := Mem.start w
 refine wp_seq (qa ?_)
 refine fo HF 0 rfl rfl ?_
 refine e_box HF HM (cs := (b.cells A c)) rfl rfl rfl rfl (by decide) ?_
 clear HF HM; intro a w1 g1 HF HM
 refine fo HF 1 rfl rfl ?_
 refine qt HF HM (cs := #[vB 0, vB 0, vI 0, vI 0, .slice none 0 0]) rfl (by kernel_rfl) rfl (by decide) ?_
 clear HF HM; intro a w2 g2 HF HM
 refine qb rfl (wp_seq (qa ?_))
 refine fp HF 1 0 [(6, vP g1 0)] fun a HF => ?_
 refine fy HF HM 1 rfl rfl rfl (v := vB b.kind) (Yl.qh rfl rfl (by kernel_rfl) (fun _ h => h.cell (i := 1) rfl (rfl))) fun a HF => ?_
 refine fp HF 1 2 [(8, vP g1 1)] fun a HF => ?_
 refine fy HF HM 3 rfl rfl rfl (v := vB b.cpu) (Yl.qh rfl rfl (by kernel_rfl) (fun _ h => h.cell (i := 1) rfl (rfl))) fun a HF => ?_
 refine fp HF 1 4 [(10, vP g1 2)] fun a HF => ?_
 refine fy HF HM 5 rfl rfl rfl (v := vI b.lost) (Yl.qh rfl rfl (by kernel_rfl) (fun _ h => h.cell (i := 1) rfl (rfl))) fun a HF => ?_
 refine fp HF 1 6 [(12, vP g1 3)] fun a HF => ?_
 refine fy HF HM 7 rfl rfl rfl (v := vI b.next) (Yl.qh rfl rfl (by kernel_rfl) (fun _ h => h.cell (i := 1) rfl (rfl))) fun a HF => ?_
 refine fy HF HM 8 rfl rfl rfl (v := .agg #[vB b.kind, vB b.cpu, vI b.lost, vI b.next, .slice none 0 0]) (Yl.build (vs := [(0, vB b.kind), (1, vB b.cpu), (2, vI b.lost), (3, vI b.next)]) rfl (by kernel_rfl) (by kernel_rfl)) fun a HF => ?_
 refine fo HF 9 rfl rfl ?_
 refine qt HF HM (cs := #[vB 0, vB 0, vI 0, vI 0, .slice none 0 0]) rfl (by kernel_rfl) rfl (by decide) ?_
 clear HF HM; intro a w3 g3 HF HM
 refine fo HF 10 rfl rfl ?_
 refine e_sa HF HM 0 rfl rfl rfl rfl rfl qb8 rfl rfl (by simp [Value.oneCell']) ?_
 clear HM; intro w1_10 HM
 refine qb rfl ?_
 replace HM := HM.nil 112 11
 refine wp_seq (wp_seq (qa ?_))
 refine fp HF 1 0 [(15, vP g1 4)] fun a HF => ?_
 refine fy HF HM 1 rfl rfl rfl (v := .slice A b.evs.length c) (Yl.qh rfl rfl (by kernel_rfl) (fun _ h => h.cell (i := 3) rfl (rfl))) fun a HF => ?_
 refine fy HF HM 2 rfl rfl rfl (Yl.len rfl rfl (by kernel_rfl)) fun a HF => ?_
 refine fp HF 1 3 [(18, vI 0)] fun a HF => ?_
 refine qb rfl (wp_block ?_)
 refine qs (fun mS aS wS => ∃ (k : Nat) (Ak : Option Addr) (ck : Nat), (k ≤ b.evs.length) ∧ (k ≤ ck) ∧ mS = b.evs.length - k ∧ Fr aS 30 [] [(18, vI k), (17, vI b.evs.length), (16, .slice A b.evs.length c), (3, vP g3 0), (2, vP g2 0), (1, vP g1 0)] ∧ Mem w wS [.row (.slice Ak k ck) k ((b.evs.take k).flatMap evL) 112 11, .blk g3 #[vB b.kind, vB b.cpu, vI b.lost, vI b.next, .slice Ak k ck] 48, .blk g2 #[vB 0, vB 0, vI 0, vI 0, .slice none 0 0] 48, .blk g1 (b.cells A c) 27]) (m := b.evs.length - 0) ⟨0, none, 0, Nat.zero_le _, Nat.le_refl _, rfl, HF.sub (by kernel_rfl), HM.picks [0, 1, 2, 3] (by decide) rfl⟩ ?_
 clear HF HM; rintro mS a w_ ⟨k, Ak, ck, hk, hck, rfl, HF, HM⟩
 refine wp_seq (qa ?_)
 refine fp HF 1 0 [(19, .bool (decide ((k : Int) < (b.evs.length : Int))))] fun a HF => ?_
 refine qb rfl (wp_seq ?_)
 rcases HF.tf 19 rfl with ⟨hb19, HF⟩ | ⟨hb19, HF⟩
 ·
  have hd19 := of_decide_eq_true hb19
  have hk19 : k < b.evs.length := by omega
  refine qe HF rfl (wp_skip (wp_seq (wp_block (wp_seq (qa ?_)))))
  obtain ⟨gA, oA, rfl, _⟩ := hr.qy (Nat.lt_of_le_of_lt (Nat.zero_le _) (show k < b.evs.length from by omega)) (by decide)
  refine fy HF HM 0 rfl rfl rfl (v := vP gA (oA + k * 11)) (Yl.ix gA oA k 11 rfl rfl rfl) fun a HF => ?_
  refine fy HF HM 1 rfl rfl rfl (v := .agg ((b.evs.getD k Ev.zero).cells)) (Yl.zc rfl rfl ⟨(by kernel_rfl), (by kernel_rfl)⟩ rfl (fun _ h => (h.old hr).zt zf ((getD_at Ev.zero (k := k) (by first | omega | (simp; omega)))))) fun a HF => ?_
  refine fo HF 2 rfl rfl ?_
  refine qt HF HM (cs := #[vI 0, vI 0, vB 0, vB 0, vI 0, vI 0, vI 0, vI 0, vI 0, vQ 0, vI 0]) rfl (by kernel_rfl) rfl (by decide) ?_
  clear HF HM; intro a w5 g5 HF HM
  refine fo HF 3 rfl rfl ?_
  refine e_sa HF HM 0 rfl rfl rfl rfl rfl ⟨(by kernel_rfl), (by kernel_rfl)⟩ rfl rfl (qan (b.evs.getD k Ev.zero)) ?_
  clear HM; intro w4_3 HM
  refine qb rfl (qa ?_)
  refine fp HF 1 0 [(22, vP g3 4)] fun a HF => ?_
  refine fy HF HM 1 rfl rfl rfl (Yl.qh rfl rfl (by kernel_rfl) (fun _ h => h.cell (i := 2) rfl rfl)) fun a HF => ?_
  refine fy HF HM 2 rfl rfl rfl (v := .agg ((b.evs.getD k Ev.zero).cells)) (Yl.zc rfl rfl ⟨(by kernel_rfl), (by kernel_rfl)⟩ rfl (fun _ h => qf (h.blk (i := 0) rfl))) fun a HF => ?_
  refine fo HF 3 rfl rfl ?_
  refine ze HF HM (vs := [(0, .agg ((b.evs.getD k Ev.zero).cells))]) (cs := (b.evs.getD k Ev.zero).cells) rfl qj0 (by decide) rfl (by kernel_rfl) rfl (by decide) ?_
  clear HF HM; intro a w25 g25 HF HM
  refine fo HF 4 rfl rfl ?_
  refine qu HF HM (i := 2) rfl qj0 rfl rfl rfl (news := (evL (b.evs.getD k Ev.zero))) (HM.rdBlk (i := 0) (n := 1) (size := 11) rfl rfl) (qan _) (by omega) (by omega) rfl (by decide) ?_
  clear HF HM; intro a w26 A26 c26 HF HM hc26
  rw [show ((b.evs.take k).flatMap evL) ++ (evL (b.evs.getD k Ev.zero)) = (b.evs.take (k + 1)).flatMap evL from by rw [qos (by omega)]] at HM
  refine fp HF 1 5 [(27, vP g3 4)] fun a HF => ?_
  refine fo HF 6 rfl rfl ?_
  refine zd HF HM (i := 3) rfl rfl rfl rfl (by kernel_rfl) rfl rfl (by simp) ?_
  clear HM; intro w5_6 HM
  refine qb rfl (qa ?_)
  refine fp HF 1 0 [(28, vI (IntKind.i64.wrap ((k : Int) + 1)))] fun a HF => ?_
  replace HF := HF.sp 28 (vI (k + 1 : Nat)) rfl (qi (by omega) (by omega))
  refine fp HF 1 1 [(18, vI (k + 1 : Nat))] fun a HF => ?_
  refine qb rfl ?_
  exact ⟨_, (by omega), k + 1, A26, c26, by omega, hc26, rfl, HF.sub (by kernel_rfl), HM.picks [2, 3, 4, 5] (by decide) rfl⟩
 have hd19 := of_decide_eq_false hb19
 have hkn : k = b.evs.length := by omega
 refine qd HF rfl (wp_exit (wp_seq (qa ?_)))
 refine fy HF HM 0 rfl rfl rfl (v := .agg #[vB b.kind, vB b.cpu, vI b.lost, vI b.next, .slice Ak k ck]) (Yl.zc rfl rfl qb8 rfl (fun _ h => qf (h.blk (i := 1) rfl))) fun a HF => ?_
 refine fo HF 1 rfl rfl ?_
 refine e_sa HF HM 2 rfl rfl rfl rfl rfl qb8 rfl rfl (by simp [Value.oneCell']) ?_
 clear HM; intro w7_1 HM
 refine qb rfl (wp_ret ?_)
 exact ret1 rfl HF (.cellS (i := 2) HF HM rfl rfl qb8 rfl) (⟨⟨Ak, ck, by rw [hkn]; rfl, by have h := HM.own (i := 0) rfl; rw [hkn, List.take_length] at h; exact h, by omega⟩, HM.below⟩)
theorem qj3 (x : Nat) (w : World) (hx : x < 18446744073709551616) : Calls Tryz.prog 63 #[.int .u64 (x : Int)] w (qad w (vbytes x)) :=
 (qdr x w hx).mono fun e w' ⟨v, h1, h2, h3⟩ => by
  obtain ⟨A, c, rfl, hc⟩ := qbh h2
  exact ⟨⟨A, c, h1, h2, hc⟩, h3⟩
theorem qj4 (A : Option Addr) (n c : Nat) (l : List Nat) (w : World) (hr : Rd w w.heap.size 1 A n (l.map U64)) (hln : l.length = n) (hl : ∀ x ∈ l, x < 18446744073709551616) (hn : n ≤ 1000000) :
    Calls Tryz.prog 64 #[.slice A n c] w (qad w (l.flatMap vbytes)) := by
 refine qg (vs := [.slice A n c]) Tryz.func64 rfl rfl (by kernel_rfl) (σ0 := [(0, .slice A n c)]) rfl ?_
 intro a HF
 have HM := Mem.start w
 refine wp_seq (qa ?_)
 refine fp HF 1 0 [(2, .slice none 0 0)] fun a HF => ?_
 refine qb rfl (wp_seq (qa ?_))
 refine fp HF 1 0 [(3, .slice none 0 0)] fun a HF => ?_
 refine qb rfl ?_
 replace HM := HM.nil 5 1
 refine wp_seq (wp_seq (qa ?_))
 refine fp HF 1 0 [(4, vI 0)] fun a HF => ?_
 refine qb rfl (wp_block ?_)
 refine qs (fun mS aS wS => ∃ (k : Nat) (Ak : Option Addr) (ck : Nat), (k ≤ n) ∧ ((waUp l k).length ≤ ck) ∧ mS = n - k ∧ Fr aS 19 [] [(4, vI k), (3, .slice Ak ((waUp l k).length) ck), (2, .slice none 0 0), (0, .slice A n c)] ∧ Mem w wS [.row (.slice Ak ((waUp l k).length) ck) ((waUp l k).length) ((waUp l k).map B8) 5 1]) (m := n - 0) ⟨0, none, 0, Nat.zero_le _, Nat.le_refl _, rfl, HF.sub (by kernel_rfl), HM.picks [0] (by decide) rfl⟩ ?_
 clear HF HM; rintro mS a w_ ⟨k, Ak, ck, hk, hck, rfl, HF, HM⟩
 refine wp_seq (wp_seq (qa ?_))
 refine fp HF 2 0 [(6, .slice A n c), (5, vI k)] fun a HF => ?_
 refine fy HF HM 2 rfl rfl rfl (Yl.len rfl rfl (by kernel_rfl)) fun a HF => ?_
 refine fp HF 1 3 [(8, .bool (decide ((k : Int) < (n : Int))))] fun a HF => ?_
 refine qb rfl ?_
 rcases HF.tf 8 rfl with ⟨hb8, HF⟩ | ⟨hb8, HF⟩
 ·
  have hd8 := of_decide_eq_true hb8
  have hk8 : k < n := by omega
  refine qe HF rfl (wp_skip (wp_seq (wp_block (qa ?_))))
  refine fp HF 3 0 [(13, vI k), (12, .slice A n c), (11, .slice Ak ((waUp l k).length) ck)] fun a HF => ?_
  obtain ⟨gA, oA, rfl, _⟩ := hr.qy (Nat.lt_of_le_of_lt (Nat.zero_le _) (show k < n from by omega)) (by decide)
  refine fy HF HM 3 rfl rfl rfl (v := vP gA (oA + k * 1)) (Yl.ix gA oA k 1 rfl rfl rfl) fun a HF => ?_
  have hx39 := getD_lt hl (k := k) (by first | omega | (simp; omega))
  refine fy HF HM 4 rfl rfl rfl (v := vQ (l.getD k 0)) (Yl.qh rfl rfl (by kernel_rfl) (fun _ h => (h.old hr).qa4 (k := k) (qai (F := U64) (k := k) (x := (l.getD k 0)) ((getD_at 0 (k := k) (by first | omega | (simp; omega))))))) fun a HF => ?_
  refine fo HF 5 rfl rfl ?_
  refine e_cl HF [vQ (l.getD k 0)] rfl rfl (qj3 (l.getD k 0) _ (hl _ (qal 0 (by omega)))) ?_
  rintro _ w16 ⟨⟨A16, c16, rfl, ho, hc16⟩, hbw⟩
  refine ⟨_, rfl, ?_⟩
  replace HM := HM.callRow hbw ho
  clear HF; intro a HF
  refine fo HF 6 rfl rfl ?_
  refine qu HF HM (i := 1) rfl ei_u8 rfl rfl rfl (news := ((vbytes (l.getD k 0)).map B8)) (HM.rd (i := 0) rfl) (qa2 _) (by have := qpv l k; have := qm (l.getD k 0); omega) (by have := qpv l k; have := qm (l.getD k 0); omega) rfl (by decide) ?_
  clear HF HM; intro a w17 A17 c17 HF HM hc17
  refine fp HF 1 7 [(3, .slice A17 (((waUp l k).length) + (((vbytes (l.getD k 0))).length)) c17)] fun a HF => ?_
  refine qb rfl ?_
  have hnA17 : ((waUp l k).length) + (((vbytes (l.getD k 0))).length) = (waUp l (k + 1)).length := by rw [qm7 (by omega)]; simp
  replace HM := HM.reRow (i := 1) (ys := (waUp l (k + 1)).map B8) rfl hnA17 (by rw [qm7 (by omega)]; simp)
  rw [hnA17] at hc17
  replace HF := HF.as (t := 3) (u := .slice A17 ((waUp l (k + 1)).length) c17) rfl (by rw [hnA17])
  replace HF := HF.as (t := 17) (u := .slice A17 ((waUp l (k + 1)).length) c17) rfl (by rw [hnA17])
  refine qa ?_
  refine fp HF 2 0 [(10, vI (IntKind.i64.wrap ((k : Int) + 1)))] fun a HF => ?_
  replace HF := HF.sp 10 (vI (k + 1 : Nat)) rfl (qi (by omega) (by omega))
  refine fp HF 1 2 [(4, vI (k + 1 : Nat))] fun a HF => ?_
  refine qb rfl ?_
  exact ⟨_, (by omega), k + 1, A17, c17, by omega, hc17, rfl, HF.sub (by kernel_rfl), HM.picks [1] (by decide) rfl⟩
 have hd8 := of_decide_eq_false hb8
 have hkn : k = n := by omega
 have hwa : waUp l k = l.flatMap vbytes := by unfold waUp; rw [List.take_of_length_le (by omega)]
 refine qd HF rfl (wp_exit (wp_seq (qa ?_)))
 refine fp HF 2 0 [(2, .slice Ak ((waUp l k).length) ck)] fun a HF => ?_
 refine qb rfl (wp_ret ?_)
 exact ret1 rfl HF (.tmp HF rfl) (qgv (HM.own (i := 0) rfl) hck (by rw [hwa]) hwa HM.below)
theorem qp7 (A : Option Addr) (c y : Nat) (hy : y < 256) (w : World) (hr : Rd w w.heap.size 1 A 1 ([y].map B8)) :
    Calls Tryz.prog 123 #[.slice A 1 c] w (PolIs w (bitsOf y)) := by
 refine qg (vs := [.slice A 1 c]) Tryz.func123 rfl rfl (by kernel_rfl) (σ0 := [(0, .slice A 1 c)]) rfl ?_
 intro a HF
 have HM := Mem.start w
 refine wp_seq (qa ?_)
 refine fp HF 1 0 [(2, .slice none 0 0)] fun a HF => ?_
 refine qb rfl (wp_seq (qa ?_))
 refine fp HF 1 0 [(6, .slice A 1 c)] fun a HF => ?_
 refine fy HF HM 1 rfl rfl rfl (Yl.len rfl rfl (by kernel_rfl)) fun a HF => ?_
 refine fp HF 2 2 [(3, vI 8)] fun a HF => ?_
 refine qb rfl (wp_seq (qa ?_))
 refine fp HF 2 0 [(10, vI 40)] fun a HF => ?_
 refine fo HF 2 rfl rfl ?_
 refine qx8 HF HM (m := 40) rfl qbr rfl rfl (by omega) (by omega) rfl (by decide) ?_
 clear HF HM; intro a w11 g11 HF HM
 refine fp HF 1 3 [(4, vS g11 40 40)] fun a HF => ?_
 refine qb rfl ?_
 have hnsomeg110none : 40 = 40 := rfl
 replace HM := HM.reRow (i := 0) (ys := (qbc y 0).map I64v) rfl hnsomeg110none (by rw [qom]; kernel_rfl)
 replace HF := HF.as (t := 4) (u := vS g11 40 40) rfl (by rw [hnsomeg110none])
 replace HF := HF.as (t := 11) (u := vS g11 40 40) rfl (by rw [hnsomeg110none])
 refine wp_seq (wp_seq (qa ?_))
 refine fp HF 1 0 [(5, vI 0)] fun a HF => ?_
 refine qb rfl (wp_block ?_)
 refine qs (fun mS aS wS => ∃ (k : Nat), (k ≤ 8) ∧ mS = 8 - k ∧ Fr aS 52 [] [(5, vI k), (11, vS g11 40 40), (4, vS g11 40 40), (3, vI 8), (2, .slice none 0 0), (0, .slice A 1 c)] ∧ Mem w wS [.row (vS g11 40 40) 40 ((qbc y k).map I64v) 3 1]) (m := 8 - 0) ⟨0, by omega, rfl, HF.sub (by kernel_rfl), HM.picks [0] (by decide) rfl⟩ ?_
 clear HF HM; rintro mS a w_ ⟨k, hk, rfl, HF, HM⟩
 refine wp_seq (wp_seq (qa ?_))
 refine fp HF 3 0 [(14, .bool (decide ((k : Int) < (8 : Int))))] fun a HF => ?_
 refine qb rfl ?_
 rcases HF.tf 14 rfl with ⟨hb14, HF⟩ | ⟨hb14, HF⟩
 ·
  have hd14 := of_decide_eq_true hb14
  have hk8 : k < 8 := by omega
  refine qe HF rfl (wp_skip (wp_seq (wp_block (qa ?_))))
  refine fp HF 6 0 [(22, vI (IntKind.i64.wrap (39 - (k : Int)))), (17, vS g11 40 40)] fun a HF => ?_
  replace HF := HF.sp 22 (vI (39 - k : Nat)) rfl (qi (by omega) (by omega))
  refine fp HF 3 6 [(25, vI (IntKind.i64.wrap (Int.tdiv (k : Int) 8))), (23, .slice A 1 c)] fun a HF => ?_
  replace HF := HF.sp 25 (vI (k / 8 : Nat)) rfl (qbj .i64 8 (by show _ ≤ 9223372036854775807; omega))
  obtain ⟨gA, oA, rfl, _⟩ := hr.qy (Nat.lt_of_le_of_lt (Nat.zero_le _) (show k / 8 < 1 from by omega)) (by decide)
  refine fy HF HM 9 rfl rfl rfl (v := vP gA (oA + (k / 8) * 1)) (Yl.ix gA oA (k / 8) 1 rfl rfl rfl) fun a HF => ?_
  refine fy HF HM 10 rfl rfl rfl (v := vB ([y].getD (k / 8) 0)) (Yl.qh rfl rfl (by kernel_rfl) (fun _ h => (h.old hr).qa4 (k := (k / 8)) (qai (F := B8) (k := (k / 8)) (x := ([y].getD (k / 8) 0)) ((getD_at 0 (k := (k / 8)) (by first | omega | (simp; omega))))))) fun a HF => ?_
  replace HF := HF.sp 27 (vB y) rfl (by rw [show k / 8 = 0 by omega]; rfl)
  refine fp HF 2 11 [(29, vI (Int.tmod (k : Int) 8))] fun a HF => ?_
  replace HF := HF.sp 29 (vI (k % 8 : Nat)) rfl (qap .i64 _ 8)
  refine fy HF HM 13 rfl rfl rfl (v := vB (y / 2 ^ (k % 8) : Nat)) (Yl.shrN (m := y) (n := (k % 8)) rfl rfl rfl (by show _ ≤ 8; omega)) fun a HF => ?_
  refine fp HF 1 14 [(31, vB (Int.tmod ((y / 2 ^ (k % 8) : Nat) : Int) 2))] fun a HF => ?_
  replace HF := HF.sp 31 (vB ((y / 2 ^ (k % 8)) % 2 : Nat)) rfl (qap .u8 _ 2)
  refine fp HF 1 15 [(32, vI (IntKind.i64.wrap (((y / 2 ^ (k % 8)) % 2 : Nat) : Int)))] fun a HF => ?_
  replace HF := HF.sp 32 (vI ((y / 2 ^ (k % 8)) % 2 : Nat)) rfl (qi rfl (by omega))
  refine fy HF HM 16 rfl rfl rfl (v := vP g11 ((39 - k) * 1)) (Yl.ix0 g11 (39 - k) 1 rfl rfl rfl) fun a HF => ?_
  refine fo HF 17 rfl rfl ?_
  refine qjb HF HM (i := 0) rfl rfl rfl rfl (by kernel_rfl) rfl rfl (by rw [List.length_map, qbd]; omega) ?_
  clear HM; intro w6_17 HM
  replace HM := HM.asRow (i := 0) (ys := (qbc y (k + 1)).map I64v) rfl ((qly I64v (qbc y k) (39 - k) (y / 2 ^ (k % 8) % 2) (by rw [qbd]; omega)).trans (by rw [show k % 8 = k by omega, qon (by omega)]))
  refine qb rfl (qa ?_)
  refine fp HF 2 0 [(16, vI (IntKind.i64.wrap ((k : Int) + 1)))] fun a HF => ?_
  replace HF := HF.sp 16 (vI (k + 1 : Nat)) rfl (qi (by omega) (by omega))
  refine fp HF 1 2 [(5, vI (k + 1 : Nat))] fun a HF => ?_
  refine qb rfl ?_
  exact ⟨_, (by omega), k + 1, by omega, rfl, HF.sub (by kernel_rfl), HM.picks [0] (by decide) rfl⟩
 have hd14 := of_decide_eq_false hb14
 obtain rfl : k = 8 := by omega
 refine qd HF rfl (wp_exit (wp_seq (wp_block ?_)))
 refine qs (fun mS aS wS => ∃ (j : Nat), (j ≤ 40) ∧ (trimL ((qbc y 8).take j) = trimL (qbc y 8)) ∧ mS = 0 + j ∧ Fr aS 52 [] [(14, .bool false), (5, vI 8), (11, vS g11 40 40), (4, vS g11 j 40), (3, vI 8), (2, .slice none 0 0), (0, .slice A 1 c)] ∧ Mem w wS [.row (vS g11 40 40) 40 ((qbc y 8).map I64v) 3 1]) (m := 0 + 40) ⟨40, by omega, by rw [List.take_of_length_le (by rw [qbd]; omega)], rfl, HF.sub (by kernel_rfl), HM.picks [0] (by decide) rfl⟩ ?_
 clear HF HM; rintro mS a w_ ⟨j, hj, ht, rfl, HF, HM⟩
 have hbl := qbd y 8
 refine wp_seq (wp_seq (qa ?_))
 refine fp HF 1 0 [(34, vS g11 j 40)] fun a HF => ?_
 refine fy HF HM 1 rfl rfl rfl (Yl.len rfl rfl (by kernel_rfl)) fun a HF => ?_
 refine fp HF 2 2 [(37, .bool (decide ((j : Int) > (0 : Int))))] fun a HF => ?_
 rcases HF.tf 37 rfl with ⟨hb37, HF⟩ | ⟨hb37, HF⟩
 ·
  have hd37 := of_decide_eq_true hb37
  have hj0 : 0 < j := by omega
  refine fp HF 2 4 [(39, vS g11 j 40), (38, vS g11 j 40)] fun a HF => ?_
  refine fy HF HM 6 rfl rfl rfl (Yl.len rfl rfl (by kernel_rfl)) fun a HF => ?_
  refine fp HF 1 7 [(41, vI (IntKind.i64.wrap ((j : Int) - 1)))] fun a HF => ?_
  replace HF := HF.sp 41 (vI (j - 1 : Nat)) rfl (qi (by omega) (by omega))
  refine fy HF HM 8 rfl rfl rfl (v := vP g11 ((j - 1) * 1)) (Yl.ix0 g11 (j - 1) 1 rfl rfl rfl) fun a HF => ?_
  refine fy HF HM 9 rfl rfl rfl (v := vI ((qbc y 8).getD (j - 1) 0)) (Yl.qh rfl rfl (by kernel_rfl) (fun _ h => h.qnm (i := 0) rfl (k := (j - 1)) (qai (F := I64v) (k := (j - 1)) (x := ((qbc y 8).getD (j - 1) 0)) ((getD_at 0 (k := (j - 1)) (by first | omega | (simp; omega))))))) fun a HF => ?_
  refine fp HF 2 10 [(45, .bool ((((qbc y 8).getD (j - 1) 0) : Int) == (0 : Int)))] fun a HF => ?_
  refine qb rfl ?_
  rcases HF.tf 45 rfl with ⟨hb45, HF⟩ | ⟨hb45, HF⟩
  ·
   have hd45 := eq_of_beq hb45
   refine qe HF rfl (wp_skip (wp_block (qa ?_)))
   refine fp HF 2 0 [(47, vS g11 j 40), (46, vS g11 j 40)] fun a HF => ?_
   refine fy HF HM 2 rfl rfl rfl (Yl.len rfl rfl (by kernel_rfl)) fun a HF => ?_
   refine fp HF 1 3 [(49, vI (IntKind.i64.wrap ((j : Int) - 1)))] fun a HF => ?_
   replace HF := HF.sp 49 (vI (j - 1 : Nat)) rfl (qi (by omega) (by omega))
   refine fy HF HM 4 rfl rfl rfl (v := vS g11 (j - 1) 40) (Yl.qbo qbr (j := j - 1) rfl rfl rfl (by omega)) fun a HF => ?_
   refine fp HF 1 5 [(4, vS g11 (j - 1) 40)] fun a HF => ?_
   refine qb rfl ?_
   exact ⟨_, (by omega), (j - 1), by omega, qm8 (by omega) (by omega) (by omega) ht, rfl, HF.sub (by kernel_rfl), HM.picks [0] (by decide) rfl⟩
  have hd45 := ne_of_beq_false hb45
  refine qd HF rfl (wp_exit (wp_seq (qa ?_)))
  refine fp HF 2 0 [(2, vS g11 j 40)] fun a HF => ?_
  refine qb rfl (wp_ret ?_)
  have hjt := qfs (l := qbc y 8) (k := j) (by omega) (fun _ => by omega) ht
  have hjl : (bitsOf y).length = j := by rw [← qj6, hjt, List.length_take]; omega
  have HM2 := HM.cutRow (i := 0) (m := (bitsOf y).length) (ys := (bitsOf y).map I64v) rfl (by omega) (by rw [Nat.mul_one, ← List.map_take, hjl, ← hjt]; rfl)
  exact ret1 rfl HF (.tmp HF rfl) (⟨⟨some ⟨g11, 0, none⟩, 40, by rw [hjl], HM2.own (i := 0) rfl, by omega⟩, HM.below⟩)
 have hd37 := of_decide_eq_false hb37
 refine fp HF 8 4 [(45, .bool false)] fun a HF => ?_
 refine qb rfl (qd HF rfl (wp_exit (wp_seq (qa ?_))))
 refine fp HF 2 0 [(2, vS g11 j 40)] fun a HF => ?_
 refine qb rfl (wp_ret ?_)
 have hjt := qfs (l := qbc y 8) (k := j) (by omega) (fun _ => by omega) ht
 have hjl : (bitsOf y).length = j := by rw [← qj6, hjt, List.length_take]; omega
 have HM2 := HM.cutRow (i := 0) (m := (bitsOf y).length) (ys := (bitsOf y).map I64v) rfl (by omega) (by rw [Nat.mul_one, ← List.map_take, hjl, ← hjt]; rfl)
 exact ret1 rfl HF (.tmp HF rfl) (⟨⟨some ⟨g11, 0, none⟩, 40, by rw [hjl], HM2.own (i := 0) rfl, by omega⟩, HM.below⟩)
theorem qnb (w : World) : Calls Tryz.prog 124 #[.int .u64 4374732215] w (PolIs w genP) := quv 4374732215 (by decide) w
theorem genlen : 0 < genP.length := by rw [qe4]; decide
theorem qoo (A : Option Addr) (c : Nat) (w : World) (hr : Rd w w.heap.size 1 A 1 ([0].map B8)) :
    Calls Tryz.prog 102 #[.slice A 1 c] w (Is w (.int .u32 (crcT 0 : Int))) := by
 refine qg (vs := [.slice A 1 c]) Tryz.func102 rfl rfl (by kernel_rfl) (σ0 := [(0, .slice A 1 c)]) rfl ?_
 intro a HF
 have HM := Mem.start w
 refine wp_seq (qa ?_)
 refine fp HF 1 0 [(2, vW 0)] fun a HF => ?_
 refine qb rfl (wp_seq (qa ?_))
 refine fp HF 1 0 [(8, .slice A 1 c)] fun a HF => ?_
 refine fo HF 1 rfl rfl ?_
 refine e_cl HF [.slice A 1 c] rfl rfl (qp7 _ _ 0 (by omega) _ (HM.old hr)) ?_
 rintro _ w9 ⟨⟨A9, c9, rfl, ho, hc9⟩, hbw⟩
 refine ⟨_, rfl, ?_⟩
 replace HM := HM.callRow hbw ho
 clear HF; intro a HF
 refine fo HF 2 rfl rfl ?_
 refine e_cl HF [vQ 4374732215] rfl rfl (qnb _) ?_
 rintro _ w10 ⟨⟨A10, c10, rfl, ho, hc10⟩, hbw⟩
 refine ⟨_, rfl, ?_⟩
 replace HM := HM.callRow hbw ho
 clear HF; intro a HF
 refine fo HF 3 rfl rfl ?_
 refine e_cl HF [.slice A9 ((bitsOf 0).length) c9, .slice A10 ((genP).length) c10] rfl rfl (qj8 _ _ _ _ (bitsOf 0) genP _ (qp1 _) (qp0 _) (qp3 _) (qp2 _) genlen (HM.rd (i := 1) rfl) (HM.rd (i := 0) rfl) (by have := qk9 0; omega) (by rw [qe4]; decide)) ?_
 rintro _ w11 ⟨⟨vq, X, cX, rfl, hd1, hd2⟩, hbw⟩
 refine ⟨_, rfl, ?_⟩
 replace HM := HM.call hbw
 clear HF; intro a HF
 refine fp HF 5 4 [(4, .slice X ((linR 0).length) cX)] fun a HF => ?_
 refine qb rfl ?_
 have hl32 := qp4 0
 have hl0 : (linR 0).length = 0 := by rw [quu]; rfl
 refine wp_seq (qa ?_)
 refine fp HF 1 0 [(5, vW 0)] fun a HF => ?_
 refine qb rfl (wp_seq (wp_seq (qa ?_)))
 refine fp HF 1 0 [(6, vI 0)] fun a HF => ?_
 refine qb rfl (wp_block ?_)
 replace HM := HM.picks (fs' := []) [] (by decide) rfl
 refine qs (fun mS aS wS => ∃ (k : Nat), (k ≤ (linR 0).length) ∧ mS = (linR 0).length - k ∧ Fr aS 31 [] [(6, vI k), (5, vW (remUp (linR 0) k)), (4, .slice X ((linR 0).length) cX), (2, vW 0)] ∧ Mem w wS []) (m := (linR 0).length - 0) ⟨0, Nat.zero_le _, rfl, HF.sub (by kernel_rfl), HM.picks [] (by decide) rfl⟩ ?_
 clear HF HM; rintro mS a w_ ⟨k, hk, rfl, HF, HM⟩
 refine wp_seq (wp_seq (qa ?_))
 refine fp HF 2 0 [(15, .slice X ((linR 0).length) cX), (14, vI k)] fun a HF => ?_
 refine fy HF HM 2 rfl rfl rfl (Yl.len rfl rfl (by kernel_rfl)) fun a HF => ?_
 refine fp HF 1 3 [(17, .bool (decide ((k : Int) < (((linR 0).length : Nat) : Int))))] fun a HF => ?_
 refine qb rfl ?_
 rcases HF.tf 17 rfl with ⟨hb17, HF⟩ | ⟨hb17, HF⟩
 ·
  have hd17 := of_decide_eq_true hb17
  omega
 have hd17 := of_decide_eq_false hb17
 refine qd HF rfl (wp_exit (wp_seq (qa ?_)))
 refine fp HF 2 0 [(2, vW (remUp (linR 0) k))] fun a HF => ?_
 refine qb rfl (wp_ret ?_)
 exact ret1 rfl HF (.tmp HF rfl) (⟨by rw [show k = (linR 0).length by omega, qna, qut, ql4 0 (by omega)], HM.below⟩)
theorem qrc (A : Option Addr) (c y : Nat) (hy : y < 256) (hy0 : y ≠ 0) (w : World) (hr : Rd w w.heap.size 1 A 1 ([y].map B8)) :
    Calls Tryz.prog 102 #[.slice A 1 c] w (Is w (.int .u32 (crcT y : Int))) := by
 refine qg (vs := [.slice A 1 c]) Tryz.func102 rfl rfl (by kernel_rfl) (σ0 := [(0, .slice A 1 c)]) rfl ?_
 intro a HF
 have HM := Mem.start w
 refine wp_seq (qa ?_)
 refine fp HF 1 0 [(2, vW 0)] fun a HF => ?_
 refine qb rfl (wp_seq (qa ?_))
 refine fp HF 1 0 [(8, .slice A 1 c)] fun a HF => ?_
 refine fo HF 1 rfl rfl ?_
 refine e_cl HF [.slice A 1 c] rfl rfl (qp7 _ _ y (by omega) _ (HM.old hr)) ?_
 rintro _ w9 ⟨⟨A9, c9, rfl, ho, hc9⟩, hbw⟩
 refine ⟨_, rfl, ?_⟩
 replace HM := HM.callRow hbw ho
 clear HF; intro a HF
 refine fo HF 2 rfl rfl ?_
 refine e_cl HF [vQ 4374732215] rfl rfl (qnb _) ?_
 rintro _ w10 ⟨⟨A10, c10, rfl, ho, hc10⟩, hbw⟩
 refine ⟨_, rfl, ?_⟩
 replace HM := HM.callRow hbw ho
 clear HF; intro a HF
 refine fo HF 3 rfl rfl ?_
 refine e_cl HF [.slice A9 ((bitsOf y).length) c9, .slice A10 ((genP).length) c10] rfl rfl (qj8 _ _ _ _ (bitsOf y) genP _ (qp1 _) (qp0 _) (qp3 _) (qp2 _) genlen (HM.rd (i := 1) rfl) (HM.rd (i := 0) rfl) (by have := qk9 y; omega) (by rw [qe4]; decide)) ?_
 rintro _ w11 ⟨⟨vq, X, cX, rfl, hd1, hd2⟩, hbw⟩
 obtain ⟨ho, hcX⟩ := hd2 (by rw [qe4]; exact qw1 y hy hy0)
 refine ⟨_, rfl, ?_⟩
 replace HM := HM.callRow hbw ho
 clear HF; intro a HF
 refine fp HF 5 4 [(4, .slice X ((linR y).length) cX)] fun a HF => ?_
 refine qb rfl ?_
 have hl32 := qp4 y
 refine wp_seq (qa ?_)
 refine fp HF 1 0 [(5, vW 0)] fun a HF => ?_
 refine qb rfl (wp_seq (wp_seq (qa ?_)))
 refine fp HF 1 0 [(6, vI 0)] fun a HF => ?_
 refine qb rfl (wp_block ?_)
 replace HM := HM.picks (fs' := [.row (.slice X ((linR y).length) cX) ((linR y).length) ((linR y).map I64v) 3 1]) [0] (by decide) rfl
 refine qs (fun mS aS wS => ∃ (k : Nat), (k ≤ (linR y).length) ∧ mS = (linR y).length - k ∧ Fr aS 31 [] [(6, vI k), (5, vW (remUp (linR y) k)), (4, .slice X ((linR y).length) cX), (2, vW 0)] ∧ Mem w wS [.row (.slice X ((linR y).length) cX) ((linR y).length) ((linR y).map I64v) 3 1]) (m := (linR y).length - 0) ⟨0, Nat.zero_le _, rfl, HF.sub (by kernel_rfl), HM.picks [0] (by decide) rfl⟩ ?_
 clear HF HM; rintro mS a w_ ⟨k, hk, rfl, HF, HM⟩
 refine wp_seq (wp_seq (qa ?_))
 refine fp HF 2 0 [(15, .slice X ((linR y).length) cX), (14, vI k)] fun a HF => ?_
 refine fy HF HM 2 rfl rfl rfl (Yl.len rfl rfl (by kernel_rfl)) fun a HF => ?_
 refine fp HF 1 3 [(17, .bool (decide ((k : Int) < (((linR y).length : Nat) : Int))))] fun a HF => ?_
 refine qb rfl ?_
 rcases HF.tf 17 rfl with ⟨hb17, HF⟩ | ⟨hb17, HF⟩
 ·
  have hd17 := of_decide_eq_true hb17
  have hk31 : k < 32 := by omega
  refine qe HF rfl (wp_skip (wp_seq (wp_block (wp_seq (qa ?_)))))
  refine fp HF 2 0 [(21, vI k), (20, .slice X ((linR y).length) cX)] fun a HF => ?_
  obtain ⟨gX, rfl⟩ := qch (HM.own (i := 0) rfl) (Nat.lt_of_le_of_lt (Nat.zero_le _) (show k < (linR y).length from by omega))
  refine fy HF HM 2 rfl rfl rfl (v := vP gX (k * 1)) (Yl.ix0 gX k 1 rfl rfl rfl) fun a HF => ?_
  refine fy HF HM 3 rfl rfl rfl (v := vI ((linR y).getD k 0)) (Yl.qh rfl rfl (by kernel_rfl) (fun _ h => h.qnm (i := 0) rfl (k := k) (qai (F := I64v) (k := k) (x := ((linR y).getD k 0)) ((getD_at 0 (k := k) (by first | omega | (simp; omega))))))) fun a HF => ?_
  refine fp HF 1 4 [(24, .bool ((((linR y).getD k 0) : Int) == (1 : Int)))] fun a HF => ?_
  refine qb rfl ?_
  rcases HF.tf 24 rfl with ⟨hb24, HF⟩ | ⟨hb24, HF⟩
  ·
   have hd24 := eq_of_beq hb24
   have hrs := qyz (linR y) hk31
   refine qe HF rfl (qa ?_)
   refine fp HF 3 0 [(27, vI (IntKind.i64.wrap (31 - (k : Int)))), (25, vW (remUp (linR y) k))] fun a HF => ?_
   replace HF := HF.sp 27 (vI (31 - k : Nat)) rfl (qi (by omega) (by omega))
   refine fy HF HM 3 rfl rfl rfl (v := vW (1 * 2 ^ (31 - k) : Nat)) (Yl.shlN (m := 1) (n := (31 - k)) rfl rfl rfl (by show _ ≤ 32; omega) (pow31 k)) fun a HF => ?_
   refine fp HF 1 4 [(29, vW (IntKind.u32.wrap ((remUp (linR y) k : Int) + ((1 * 2 ^ (31 - k) : Nat) : Int))))] fun a HF => ?_
   replace HF := HF.sp 29 (vW (remUp (linR y) (k + 1))) rfl (qcq (by rw [qen, if_pos (by omega)]; omega) (by rw [qen, if_pos (by omega)]; omega))
   refine fp HF 1 5 [(5, vW (remUp (linR y) (k + 1)))] fun a HF => ?_
   refine qb rfl (qa ?_)
   refine fp HF 2 0 [(19, vI (IntKind.i64.wrap ((k : Int) + 1)))] fun a HF => ?_
   replace HF := HF.sp 19 (vI (k + 1 : Nat)) rfl (qi (by omega) (by omega))
   refine fp HF 1 2 [(6, vI (k + 1 : Nat))] fun a HF => ?_
   refine qb rfl ?_
   exact ⟨_, (by omega), k + 1, by omega, rfl, HF.sub (by kernel_rfl), HM.picks [0] (by decide) rfl⟩
  have hd24 := ne_of_beq_false hb24
  replace HF := HF.as (t := 5) (u := .int .u32 (remUp (linR y) (k + 1) : Int)) rfl (by rw [qen, if_neg (by omega), Nat.add_zero])
  refine qd HF rfl (wp_skip (qa ?_))
  refine fp HF 2 0 [(19, vI (IntKind.i64.wrap ((k : Int) + 1)))] fun a HF => ?_
  replace HF := HF.sp 19 (vI (k + 1 : Nat)) rfl (qi (by omega) (by omega))
  refine fp HF 1 2 [(6, vI (k + 1 : Nat))] fun a HF => ?_
  refine qb rfl ?_
  exact ⟨_, (by omega), k + 1, by omega, rfl, HF.sub (by kernel_rfl), HM.picks [0] (by decide) rfl⟩
 have hd17 := of_decide_eq_false hb17
 refine qd HF rfl (wp_exit (wp_seq (qa ?_)))
 refine fp HF 2 0 [(2, vW (remUp (linR y) k))] fun a HF => ?_
 refine qb rfl (wp_ret ?_)
 exact ret1 rfl HF (.tmp HF rfl) (⟨by rw [show k = (linR y).length by omega, qna, qut, ql4 y (by omega)], HM.below⟩)
theorem qrd (A : Option Addr) (c y : Nat) (hy : y < 256) (w : World) (hr : Rd w w.heap.size 1 A 1 ([y].map B8)) : Calls Tryz.prog 102 #[.slice A 1 c] w (Is w (.int .u32 (crcT y : Int))) := by
 by_cases h : y = 0
 ·subst h; exact qoo A c w hr
 ·exact qrc A c y hy h w hr
theorem quw (c : Nat) (hc : c < 4294967296) (A : Option Addr) (n cp : Nat) (l : List Nat) (w : World) (hr : Rd w w.heap.size 1 A n (l.map B8)) (hln : l.length = n) (hn : n ≤ 1000000000) (hl : ∀ b ∈ l, b < 256) :
    Calls Tryz.prog 83 #[.int .u32 (c : Int), .slice A n cp] w (Is w (.int .u32 ((4294967295 - qr (4294967295 - c) l : Nat) : Int))) := by
 refine qg (vs := [vW c, .slice A n cp]) Tryz.func83 rfl rfl (by kernel_rfl) (σ0 := [(0, vW c), (1, .slice A n cp)]) rfl ?_
 intro a HF
 have HM := Mem.start w
 refine wp_seq (qa ?_)
 refine fp HF 1 0 [(4, vW 0)] fun a HF => ?_
 refine qb rfl (wp_seq (qa ?_))
 refine fp HF 2 0 [(7, vW (IntKind.u32.wrap (4294967295 - (c : Int))))] fun a HF => ?_
 replace HF := HF.sp 7 (vW (4294967295 - c : Nat)) rfl (qcq (by omega) (by omega))
 refine fp HF 1 2 [(0, vW (4294967295 - c : Nat))] fun a HF => ?_
 refine qb rfl (wp_seq (wp_seq (qa ?_)))
 refine fp HF 1 0 [(5, vI 0)] fun a HF => ?_
 refine qb rfl (wp_block ?_)
 refine qs (fun mS aS wS => ∃ (k : Nat), (k ≤ n) ∧ mS = n - k ∧ Fr aS 29 [] [(5, vI k), (0, vW (qr (4294967295 - c) (l.take k))), (4, vW 0), (1, .slice A n cp)] ∧ Mem w wS []) (m := n - 0) ⟨0, Nat.zero_le _, rfl, HF.sub (by kernel_rfl), HM.picks [] (by decide) rfl⟩ ?_
 clear HF HM; rintro mS a w_ ⟨k, hk, rfl, HF, HM⟩
 have hcr := qd3 (l.take k) (c := 4294967295 - c) (by omega) (qbl hl k)
 refine wp_seq (wp_seq (qa ?_))
 refine fp HF 2 0 [(9, .slice A n cp), (8, vI k)] fun a HF => ?_
 refine fy HF HM 2 rfl rfl rfl (Yl.len rfl rfl (by kernel_rfl)) fun a HF => ?_
 refine fp HF 1 3 [(11, .bool (decide ((k : Int) < (n : Int))))] fun a HF => ?_
 refine qb rfl ?_
 rcases HF.tf 11 rfl with ⟨hb11, HF⟩ | ⟨hb11, HF⟩
 ·
  have hd11 := of_decide_eq_true hb11
  have hk11 : k < n := by omega
  have hxk := getD_lt hl (k := k) (by omega)
  have hy8 : (qr (4294967295 - c) (l.take k) % 256 ^^^ l.getD k 0) < 256 := Nat.xor_lt_two_pow (n := 8) (by omega) (by omega)
  refine qe HF rfl (wp_skip (wp_seq (wp_block (qa ?_))))
  refine fp HF 2 0 [(15, vW (IntKind.u32.wrap (Int.tdiv (qr (4294967295 - c) (l.take k) : Int) 256)))] fun a HF => ?_
  replace HF := HF.sp 15 (vW ((qr (4294967295 - c) (l.take k)) / 256 : Nat)) rfl (qbj .u32 256 (by show _ ≤ 4294967295; omega))
  refine fp HF 2 2 [(17, vW (Int.tmod (qr (4294967295 - c) (l.take k) : Int) 256))] fun a HF => ?_
  replace HF := HF.sp 17 (vW ((qr (4294967295 - c) (l.take k)) % 256 : Nat)) rfl (qap .u32 _ 256)
  refine fp HF 1 4 [(18, vB (IntKind.u8.wrap (((qr (4294967295 - c) (l.take k)) % 256 : Nat) : Int)))] fun a HF => ?_
  replace HF := HF.sp 18 (vB (qr (4294967295 - c) (l.take k) % 256 : Nat)) rfl ((qbi (qr (4294967295 - c) (l.take k) % 256)).trans (by rw [Nat.mod_mod]))
  refine fp HF 2 5 [(20, vI k), (19, .slice A n cp)] fun a HF => ?_
  obtain ⟨gA, oA, rfl, _⟩ := hr.qy (Nat.lt_of_le_of_lt (Nat.zero_le _) (show k < n from by omega)) (by decide)
  refine fy HF HM 7 rfl rfl rfl (v := vP gA (oA + k * 1)) (Yl.ix gA oA k 1 rfl rfl rfl) fun a HF => ?_
  have hx49 := getD_lt hl (k := k) (by first | omega | (simp; omega))
  refine fy HF HM 8 rfl rfl rfl (v := vB (l.getD k 0)) (Yl.qh rfl rfl (by kernel_rfl) (fun _ h => (h.old hr).qa4 (k := k) (qai (F := B8) (k := k) (x := (l.getD k 0)) ((getD_at 0 (k := k) (by first | omega | (simp; omega))))))) fun a HF => ?_
  refine fp HF 1 9 [(23, vB (IntKind.u8.wrap (BitVec.ofInt (IntKind.u8).bits ((qr (4294967295 - c) (l.take k) % 256 : Nat) : Int) ^^^ BitVec.ofInt (IntKind.u8).bits ((l.getD k 0) : Int)).toNat))] fun a HF => ?_
  replace HF := HF.sp 23 (vB ((qr (4294967295 - c) (l.take k) % 256) ^^^ (l.getD k 0) : Nat)) rfl (qzo (m := qr (4294967295 - c) (l.take k) % 256) (n := (l.getD k 0)) (by omega) (by omega))
  refine fo HF 10 rfl rfl ?_
  refine ze HF HM (vs := [(0, vB ((qr (4294967295 - c) (l.take k) % 256) ^^^ (l.getD k 0) : Nat))]) (cs := #[vB ((qr (4294967295 - c) (l.take k) % 256) ^^^ (l.getD k 0) : Nat)]) rfl ei_u8 (by decide) rfl (by kernel_rfl) rfl (by decide) ?_
  clear HF HM; intro a w24 g24 HF HM
  refine fo HF 11 rfl rfl ?_
  refine e_is HF HM [vS g24 1 1] (vW (crcT (qr (4294967295 - c) (l.take k) % 256 ^^^ l.getD k 0))) rfl rfl (qrd _ _ (qr (4294967295 - c) (l.take k) % 256 ^^^ l.getD k 0) hy8 _ (HM.rdBlk (i := 0) (n := 1) (size := 1) rfl rfl)) fun w25 hbw HM a HF => ?_
  refine fp HF 1 12 [(26, vW (IntKind.u32.wrap (BitVec.ofInt (IntKind.u32).bits (((qr (4294967295 - c) (l.take k)) / 256 : Nat) : Int) ^^^ BitVec.ofInt (IntKind.u32).bits (crcT (qr (4294967295 - c) (l.take k) % 256 ^^^ l.getD k 0) : Int)).toNat))] fun a HF => ?_
  replace HF := HF.sp 26 (vW (qr (4294967295 - c) (l.take (k + 1)))) rfl (by have h := qho (m := (qr (4294967295 - c) (l.take k)) / 256) (n := crcT (qr (4294967295 - c) (l.take k) % 256 ^^^ l.getD k 0)) (by omega) (qsz (by omega)); rw [qhx (by omega), qiz]; exact h)
  refine fp HF 1 13 [(0, vW (qr (4294967295 - c) (l.take (k + 1))))] fun a HF => ?_
  refine qb rfl (qa ?_)
  refine fp HF 2 0 [(13, vI (IntKind.i64.wrap ((k : Int) + 1)))] fun a HF => ?_
  replace HF := HF.sp 13 (vI (k + 1 : Nat)) rfl (qi (by omega) (by omega))
  refine fp HF 1 2 [(5, vI (k + 1 : Nat))] fun a HF => ?_
  refine qb rfl ?_
  exact ⟨_, (by omega), k + 1, by omega, rfl, HF.sub (by kernel_rfl), HM.picks [] (by decide) rfl⟩
 have hd11 := of_decide_eq_false hb11
 refine qd HF rfl (wp_exit (wp_seq (qa ?_)))
 refine fp HF 2 0 [(28, vW (IntKind.u32.wrap (4294967295 - (qr (4294967295 - c) (l.take k) : Int))))] fun a HF => ?_
 replace HF := HF.sp 28 (vW (4294967295 - (qr (4294967295 - c) (l.take k)) : Nat)) rfl (qcq (by omega) (by omega))
 refine fp HF 1 2 [(4, vW (4294967295 - (qr (4294967295 - c) (l.take k)) : Nat))] fun a HF => ?_
 refine qb rfl (wp_ret ?_)
 exact ret1 rfl HF (.tmp HF rfl) (⟨by rw [List.take_of_length_le (by omega)], HM.below⟩)
theorem qux (A : Option Addr) (n cp : Nat) (l : List Nat) (w : World) (hr : Rd w w.heap.size 1 A n (l.map B8)) (hln : l.length = n) (hn : n ≤ 1000000000) (hl : ∀ b ∈ l, b < 256) :
    Calls Tryz.prog 62 #[.slice A n cp] w (Is w (.int .u32 (qp l : Int))) := by
 refine qg (vs := [.slice A n cp]) Tryz.func62 rfl rfl (by kernel_rfl) (σ0 := [(0, .slice A n cp)]) rfl ?_
 intro a HF
 have HM := Mem.start w
 refine wp_seq (qa ?_)
 refine fp HF 1 0 [(2, vW 0)] fun a HF => ?_
 refine qb rfl (wp_seq (qa ?_))
 refine fp HF 1 0 [(3, .slice A n cp)] fun a HF => ?_
 refine fo HF 1 rfl rfl ?_
 refine e_is HF HM [vW 0, .slice A n cp] (vW (qp l)) rfl rfl (quw 0 (by decide) _ _ _ l _ (HM.old hr) hln hn hl) fun w4 hbw HM a HF => ?_
 refine fp HF 1 2 [(2, vW (qp l))] fun a HF => ?_
 refine qb rfl (wp_ret ?_)
 exact ret1 rfl HF (.tmp HF rfl) (⟨rfl, HM.below⟩)
theorem qre (A : Option Addr) (n cp : Nat) (l : List Nat) (w : World) (hr : Rd w w.heap.size 1 A n (l.map B8)) (hln : l.length = n) (hn : n ≤ 100000000) (hl : ∀ b ∈ l, b < 256) :
    Calls Tryz.prog 41 #[.slice A n cp] w (qad w (sealL l)) := by
 refine qg (vs := [.slice A n cp]) Tryz.func41 rfl rfl (by kernel_rfl) (σ0 := [(0, .slice A n cp)]) rfl ?_
 intro a HF
 have HM := Mem.start w
 refine wp_seq (qa ?_)
 refine fp HF 1 0 [(2, .slice none 0 0)] fun a HF => ?_
 refine qb rfl (wp_seq (qa ?_))
 refine fp HF 1 0 [(4, .slice A n cp)] fun a HF => ?_
 refine fo HF 1 rfl rfl ?_
 refine e_is HF HM [.slice A n cp] (vW (qp l)) rfl rfl (qux _ _ _ l _ (HM.old hr) hln (by omega) hl) fun w5 hbw HM a HF => ?_
 refine fp HF 1 2 [(3, vW (qp l))] fun a HF => ?_
 refine qb rfl ?_
 have hcs := ql5 l
 refine wp_seq (qa ?_)
 refine fo HF 0 rfl rfl ?_
 refine qkp HF HM rfl ei_u8 rfl (by decide) ?_
 clear HF HM; intro a w6 g6 HF HM
 refine fp HF 1 1 [(7, .slice A n cp)] fun a HF => ?_
 refine fo HF 2 rfl rfl ?_
 refine qu HF HM (i := 0) rfl ei_u8 rfl rfl rfl (news := (l.map B8)) (HM.old hr) (qa2 _) (by omega) (by omega) rfl (by decide) ?_
 clear HF HM; intro a w8 A8 c8 HF HM hc8
 refine fp HF 2 3 [(10, vW (Int.tmod (qp l : Int) 256))] fun a HF => ?_
 replace HF := HF.sp 10 (vW ((qp l) % 256 : Nat)) rfl (qap .u32 _ 256)
 refine fp HF 1 5 [(11, vB (IntKind.u8.wrap (((qp l) % 256 : Nat) : Int)))] fun a HF => ?_
 replace HF := HF.sp 11 (vB (qp l % 256 : Nat)) rfl ((qbi (qp l % 256)).trans (by rw [Nat.mod_mod]))
 refine fp HF 2 6 [(13, vW (IntKind.u32.wrap (Int.tdiv (qp l : Int) 256)))] fun a HF => ?_
 replace HF := HF.sp 13 (vW ((qp l) / 256 : Nat)) rfl (qbj .u32 256 (by show _ ≤ 4294967295; omega))
 refine fp HF 1 8 [(14, vW (Int.tmod (((qp l) / 256 : Nat) : Int) 256))] fun a HF => ?_
 replace HF := HF.sp 14 (vW (((qp l) / 256) % 256 : Nat)) rfl (qap .u32 _ 256)
 refine fp HF 1 9 [(15, vB (IntKind.u8.wrap ((((qp l) / 256) % 256 : Nat) : Int)))] fun a HF => ?_
 replace HF := HF.sp 15 (vB (qp l / 256 % 256 : Nat)) rfl ((qbi (qp l / 256 % 256)).trans (by rw [Nat.mod_mod]))
 refine fp HF 2 10 [(17, vW (IntKind.u32.wrap (Int.tdiv (qp l : Int) 65536)))] fun a HF => ?_
 replace HF := HF.sp 17 (vW ((qp l) / 65536 : Nat)) rfl (qbj .u32 65536 (by show _ ≤ 4294967295; omega))
 refine fp HF 1 12 [(18, vW (Int.tmod (((qp l) / 65536 : Nat) : Int) 256))] fun a HF => ?_
 replace HF := HF.sp 18 (vW (((qp l) / 65536) % 256 : Nat)) rfl (qap .u32 _ 256)
 refine fp HF 1 13 [(19, vB (IntKind.u8.wrap ((((qp l) / 65536) % 256 : Nat) : Int)))] fun a HF => ?_
 replace HF := HF.sp 19 (vB (qp l / 65536 % 256 : Nat)) rfl ((qbi (qp l / 65536 % 256)).trans (by rw [Nat.mod_mod]))
 refine fp HF 2 14 [(21, vW (IntKind.u32.wrap (Int.tdiv (qp l : Int) 16777216)))] fun a HF => ?_
 replace HF := HF.sp 21 (vW ((qp l) / 16777216 : Nat)) rfl (qbj .u32 16777216 (by show _ ≤ 4294967295; omega))
 refine fp HF 1 16 [(22, vB (IntKind.u8.wrap (((qp l) / 16777216 : Nat) : Int)))] fun a HF => ?_
 replace HF := HF.sp 22 (vB (((qp l) / 16777216) % 256 : Nat)) rfl (qbi ((qp l) / 16777216))
 refine fo HF 17 rfl rfl ?_
 refine ze HF HM (vs := [(0, vB (qp l % 256 : Nat)), (1, vB (qp l / 256 % 256 : Nat)), (2, vB (qp l / 65536 % 256 : Nat)), (3, vB (((qp l) / 16777216) % 256 : Nat))]) (cs := #[vB (qp l % 256 : Nat), vB (qp l / 256 % 256 : Nat), vB (qp l / 65536 % 256 : Nat), vB (((qp l) / 16777216) % 256 : Nat)]) rfl ei_u8 (by decide) rfl (by kernel_rfl) rfl (by decide) ?_
 clear HF HM; intro a w23 g23 HF HM
 refine fo HF 18 rfl rfl ?_
 refine qu HF HM (i := 1) rfl ei_u8 rfl rfl rfl (news := ((le4 (qp l)).map B8)) (HM.rdBlk (i := 0) (n := 4) (size := 1) rfl rfl) (qa2 _) (by omega) (by omega) rfl (by decide) ?_
 clear HF HM; intro a w24 A24 c24 HF HM hc24
 refine fp HF 1 19 [(2, .slice A24 (0 + n + 4) c24)] fun a HF => ?_
 refine qb rfl ?_
 have hnA24 : 0 + n + 4 = (sealL l).length := by rw [qkv]; omega
 replace HM := HM.reRow (i := 1) (ys := (sealL l).map B8) rfl hnA24 (by simp [sealL])
 rw [hnA24] at hc24
 replace HF := HF.as (t := 2) (u := .slice A24 ((sealL l).length) c24) rfl (by rw [hnA24])
 replace HF := HF.as (t := 24) (u := .slice A24 ((sealL l).length) c24) rfl (by rw [hnA24])
 refine wp_ret ?_
 replace HM := HM.picks (fs' := [.row (.slice A24 ((sealL l).length) c24) ((sealL l).length) ((sealL l).map B8) 5 1]) [1] (by decide) rfl
 exact ret1 rfl HF (.tmp HF rfl) (⟨⟨_, _, rfl, HM.own (i := 0) rfl, hc24⟩, HM.below⟩)
theorem qij (b : Bs) (w : World) : Calls Tryz.prog 84 #[.agg b.cells] w (BoolPost w b.right) := by
 refine qg (vs := [.agg b.cells]) Tryz.func84 rfl rfl (by kernel_rfl) (σ0 := [(0, .agg b.cells)]) rfl ?_
 intro a HF
 have HM := Mem.start w
 refine wp_seq (qa ?_)
 refine fo HF 0 rfl rfl ?_
 refine e_box HF HM (cs := b.cells) rfl rfl rfl rfl (by decide) ?_
 clear HF HM; intro a w1 g1 HF HM
 refine fp HF 1 1 [(2, .bool false)] fun a HF => ?_
 refine qb rfl (wp_seq (qa ?_))
 refine fp HF 1 0 [(3, vP g1 0)] fun a HF => ?_
 refine fy HF HM 1 rfl rfl rfl (v := vI b.seq) (Yl.qh rfl rfl (by kernel_rfl) (fun _ h => h.cell (i := 0) rfl (rfl))) fun a HF => ?_
 refine fp HF 2 2 [(6, .bool (decide ((b.seq : Int) ≥ (1 : Int))))] fun a HF => ?_
 rcases HF.tf 6 rfl with ⟨hb6, HF⟩ | ⟨hb6, HF⟩
 ·
  refine fp HF 1 4 [(7, vP g1 0)] fun a HF => ?_
  refine fy HF HM 5 rfl rfl rfl (v := vI b.seq) (Yl.qh rfl rfl (by kernel_rfl) (fun _ h => h.cell (i := 0) rfl (rfl))) fun a HF => ?_
  refine fp HF 3 6 [(11, .bool (decide ((b.seq : Int) ≤ (281474976710656 : Int))))] fun a HF => ?_
  rcases HF.tf 11 rfl with ⟨hb11, HF⟩ | ⟨hb11, HF⟩
  ·
   refine fp HF 1 9 [(12, vP g1 1)] fun a HF => ?_
   refine fy HF HM 10 rfl rfl rfl (v := vI b.time) (Yl.qh rfl rfl (by kernel_rfl) (fun _ h => h.cell (i := 0) rfl (rfl))) fun a HF => ?_
   refine fp HF 3 11 [(16, .bool (decide ((b.time : Int) ≥ (0 : Int))))] fun a HF => ?_
   rcases HF.tf 16 rfl with ⟨hb16, HF⟩ | ⟨hb16, HF⟩
   ·
    refine fp HF 1 14 [(17, vP g1 1)] fun a HF => ?_
    refine fy HF HM 15 rfl rfl rfl (v := vI b.time) (Yl.qh rfl rfl (by kernel_rfl) (fun _ h => h.cell (i := 0) rfl (rfl))) fun a HF => ?_
    refine fp HF 3 16 [(2, .bool (decide ((b.time : Int) ≤ (281474976710656 : Int))))] fun a HF => ?_
    refine qb rfl (wp_ret ?_)
    replace HM := HM.picks (fs' := []) [] (by decide) rfl
    exact ret1 rfl HF (.tmp HF rfl) (⟨congrArg (fun b => Ending.returned (.bool b)) (by unfold Bs.right; rw [Bool.eq_iff_iff]; (try simp at hb6); (try simp at hb11); (try simp at hb16); (try simp); (try omega)), HM.below⟩)
   refine fp HF 5 14 [(2, .bool false)] fun a HF => ?_
   refine qb rfl (wp_ret ?_)
   replace HM := HM.picks (fs' := []) [] (by decide) rfl
   exact ret1 rfl HF (.tmp HF rfl) (⟨congrArg (fun b => Ending.returned (.bool b)) (by unfold Bs.right; rw [Bool.eq_iff_iff]; (try simp at hb6); (try simp at hb11); (try simp at hb16); (try simp); (try omega)), HM.below⟩)
  refine fp HF 10 9 [(2, .bool false)] fun a HF => ?_
  refine qb rfl (wp_ret ?_)
  replace HM := HM.picks (fs' := []) [] (by decide) rfl
  exact ret1 rfl HF (.tmp HF rfl) (⟨congrArg (fun b => Ending.returned (.bool b)) (by unfold Bs.right; rw [Bool.eq_iff_iff]; (try simp at hb6); (try simp at hb11); (try simp); (try omega)), HM.below⟩)
 refine fp HF 15 4 [(2, .bool false)] fun a HF => ?_
 refine qb rfl (wp_ret ?_)
 replace HM := HM.picks (fs' := []) [] (by decide) rfl
 exact ret1 rfl HF (.tmp HF rfl) (⟨congrArg (fun b => Ending.returned (.bool b)) (by unfold Bs.right; rw [Bool.eq_iff_iff]; (try simp at hb6); (try simp); (try omega)), HM.below⟩)
theorem quy {x y : Int} (h : y ≤ x) (h2 : x - y < 9223372036854775808) : IntKind.u64.wrap (IntKind.i64.wrap (x - y)) = ((x - y).toNat : Int) := by
 rw [IntWalk.i64_in _ (by omega), IntKind.wrap_u64]; omega
theorem qik {b : Bs} {e : Ev} (h : e.check = 0) (h2 : b.right = true ∧ b.behind e = true) : zb b e = 0 := by unfold zb; rw [if_neg (by simp [h]), if_pos h2]
theorem qe5 {b : Bs} {e : Ev} (h : e.check = 0) (h2 : b.right = true ∧ b.behind e = true) : qaf b e = zr b e := by unfold qaf; rw [if_pos (qik h h2)]
theorem qcl {b : Bs} {e : Ev} (h : zb b e ≠ 0) : qaf b e = [] := by unfold qaf; rw [if_neg h]
theorem qy0 {e : Ev} (he : e.Ok) : ∀ x ∈ e.vals, x < 18446744073709551616 := by
 intro x hx
 unfold Ev.vals at hx
 obtain ⟨i, _, rfl⟩ := List.mem_map.1 hx
 have h1 := he.task.2; have h2 := he.group.2; have h3 := he.to.2; have h4 := he.weight.2; have h5 := he.ticks.2; have h6 := he.mask; have h7 := he.got.2
 unfold Ev.fld
 split <;> omega
theorem quz (b : Bs) (e : Ev) (he : e.Ok) (w : World) : Calls Tryz.prog 85 #[.agg b.cells, .agg e.cells] w (qah w (zb b e) (qaf b e)) := by
 refine qg (vs := [.agg b.cells, .agg e.cells]) Tryz.func85 rfl rfl (by kernel_rfl) (σ0 := [(0, .agg b.cells), (1, .agg e.cells)]) rfl ?_
 intro a HF
 have HM := Mem.start w
 refine wp_seq (qa ?_)
 refine fo HF 0 rfl rfl ?_
 refine e_box HF HM (cs := b.cells) rfl rfl rfl rfl (by decide) ?_
 clear HF HM; intro a w2 g2 HF HM
 refine fo HF 1 rfl rfl ?_
 refine e_box HF HM (cs := e.cells) rfl rfl rfl rfl (by decide) ?_
 clear HF HM; intro a w3 g3 HF HM
 refine fp HF 2 2 [(5, vI 0), (4, .slice none 0 0)] fun a HF => ?_
 refine qb rfl (wp_seq (qa ?_))
 refine fy HF HM 0 rfl rfl rfl (v := .agg e.cells) (Yl.zc rfl rfl ⟨(by kernel_rfl), (by kernel_rfl)⟩ rfl (fun _ h => qf (h.blk (i := 0) rfl))) fun a HF => ?_
 refine fo HF 1 rfl rfl ?_
 refine e_cl HF [.agg e.cells] rfl rfl (qm0 e he _) ?_
 rintro _ w12 ⟨⟨v, rfl, ho⟩, hbw⟩
 obtain ⟨A12, c12, rfl, hc12⟩ := qbh ho
 refine ⟨_, rfl, ?_⟩
 replace HM := HM.callRow hbw ho
 clear HF; intro a HF
 refine fp HF 5 2 [(7, vI e.check), (6, .slice A12 e.qx.length c12)] fun a HF => ?_
 refine qb rfl (wp_seq (wp_seq (qa ?_)))
 refine fp HF 2 0 [(16, .bool ((e.check : Int) != (0 : Int)))] fun a HF => ?_
 refine qb rfl ?_
 rcases HF.tf 16 rfl with ⟨hb16, HF⟩ | ⟨hb16, HF⟩
 ·
  have hbad : e.check ≠ 0 := by rw [bne_iff_ne] at hb16; omega
  refine qe HF rfl (wp_seq (qa ?_))
  refine fp HF 3 0 [(5, vI e.check), (4, .slice none 0 0)] fun a HF => ?_
  refine qb rfl (wp_ret ?_)
  exact ret2 rfl HF (.tmp HF rfl) (.tmp HF rfl) (⟨⟨none, 0, by rw [qcl (by rw [show zb b e = e.check from by unfold zb; rw [if_pos hbad]]; exact hbad), show zb b e = e.check from by unfold zb; rw [if_pos hbad]]; rfl, by rw [qcl (by rw [show zb b e = e.check from by unfold zb; rw [if_pos hbad]]; exact hbad)]; exact World.ownsRow_nil _ _ _ _, by rw [qcl (by rw [show zb b e = e.check from by unfold zb; rw [if_pos hbad]]; exact hbad)]; exact Nat.le_refl _⟩, HM.below⟩)
 have hgood : e.check = 0 := by rw [bne_eq_false_iff_eq] at hb16; omega
 have hov : e.qx = e.vals := by unfold Ev.qx; rw [if_pos hgood]
 obtain ⟨_, _, _, q1, q2, q3, q4⟩ := qdy hgood
 have hvl := qe9 e
 rw [← hov] at hvl
 have hx64 := qy0 he
 refine qd HF rfl (wp_skip (wp_seq ?_))
 refine qax (fun aS wS => Fr aS 70 [] [(34, .bool (!(b.right && b.behind e))), (16, .bool false), (7, vI e.check), (6, .slice A12 e.qx.length c12), (5, vI 0), (4, .slice none 0 0), (3, vP g3 0), (2, vP g2 0)] ∧ Mem w wS [.row (.slice A12 e.qx.length c12) e.qx.length (e.qx.map U64) 39 1, .blk g3 e.cells 112, .blk g2 b.cells 131]) ?_ ?_
 ·
  refine qa ?_
  refine fy HF HM 0 rfl rfl rfl (v := .agg b.cells) (Yl.zc rfl rfl ⟨(by kernel_rfl), (by kernel_rfl)⟩ rfl (fun _ h => qf (h.blk (i := 2) rfl))) fun a HF => ?_
  refine fo HF 1 rfl rfl ?_
  refine e_cl HF [.agg b.cells] rfl rfl (qij b _) ?_
  rintro _ w19 ⟨rfl, hbw⟩
  refine ⟨_, rfl, ?_⟩
  replace HM := HM.call hbw
  clear HF; intro a HF
  refine fp HF 2 2 [(21, .bool (!b.right))] fun a HF => ?_
  rcases HF.tf 21 rfl with ⟨hb21, HF⟩ | ⟨hb21, HF⟩
  ·
   refine fp HF 13 4 [(34, .bool true)] fun a HF => ?_
   refine qb rfl ?_
   have HF := HF.as (t := 34) (u := .bool (!(b.right && b.behind e))) rfl (congrArg Value.bool (by unfold Bs.behind; (try simp at hb16); (try simp at hb21); rw [Bool.eq_iff_iff]; (try simp [hb16, hb21]); (try omega)))
   exact ⟨HF.sub (by kernel_rfl), HM.picks [0, 1, 2] (by decide) rfl⟩
  refine fp HF 1 4 [(22, vP g3 0)] fun a HF => ?_
  refine fy HF HM 5 rfl rfl rfl (v := vI e.seq) (Yl.qh rfl rfl (by kernel_rfl) (fun _ h => h.cell (i := 1) rfl (rfl))) fun a HF => ?_
  refine fp HF 1 6 [(24, vP g2 0)] fun a HF => ?_
  refine fy HF HM 7 rfl rfl rfl (v := vI b.seq) (Yl.qh rfl rfl (by kernel_rfl) (fun _ h => h.cell (i := 2) rfl (rfl))) fun a HF => ?_
  refine fp HF 3 8 [(28, .bool (decide ((e.seq : Int) < (b.seq : Int))))] fun a HF => ?_
  rcases HF.tf 28 rfl with ⟨hb28, HF⟩ | ⟨hb28, HF⟩
  ·
   refine fp HF 6 11 [(34, .bool true)] fun a HF => ?_
   refine qb rfl ?_
   have HF := HF.as (t := 34) (u := .bool (!(b.right && b.behind e))) rfl (congrArg Value.bool (by unfold Bs.behind; (try simp at hb16); (try simp at hb21); (try simp at hb28); rw [Bool.eq_iff_iff]; (try simp [hb16, hb21, hb28]); (try omega)))
   exact ⟨HF.sub (by kernel_rfl), HM.picks [0, 1, 2] (by decide) rfl⟩
  refine fp HF 1 11 [(29, vP g3 1)] fun a HF => ?_
  refine fy HF HM 12 rfl rfl rfl (v := vI e.time) (Yl.qh rfl rfl (by kernel_rfl) (fun _ h => h.cell (i := 1) rfl (rfl))) fun a HF => ?_
  refine fp HF 1 13 [(31, vP g2 1)] fun a HF => ?_
  refine fy HF HM 14 rfl rfl rfl (v := vI b.time) (Yl.qh rfl rfl (by kernel_rfl) (fun _ h => h.cell (i := 2) rfl (rfl))) fun a HF => ?_
  refine fp HF 2 15 [(34, .bool (decide ((e.time : Int) < (b.time : Int))))] fun a HF => ?_
  refine qb rfl ?_
  have HF := HF.as (t := 34) (u := .bool (!(b.right && b.behind e))) rfl (congrArg Value.bool (by unfold Bs.behind; (try simp at hb16); (try simp at hb21); (try simp at hb28); rw [Bool.eq_iff_iff]; (try simp [hb16, hb21, hb28]); (try omega)))
  exact ⟨HF.sub (by kernel_rfl), HM.picks [0, 1, 2] (by decide) rfl⟩
 clear HF HM; rintro a w4 ⟨HF, HM⟩
 rcases HF.tf 34 rfl with ⟨hb34, HF⟩ | ⟨hb34, HF⟩
 ·
  have hrb : ¬ (b.right = true ∧ b.behind e = true) := by intro h; rw [h.1, h.2] at hb34; cases hb34
  refine qe HF rfl (wp_seq (qa ?_))
  refine fp HF 2 0 [(5, vI 70), (4, .slice none 0 0)] fun a HF => ?_
  refine qb rfl (wp_ret ?_)
  exact ret2 rfl HF (.tmp HF rfl) (.tmp HF rfl) (⟨⟨none, 0, by rw [qcl (by rw [show zb b e = 70 from by unfold zb; rw [if_neg (by simp [hgood]), if_neg hrb]]; decide), show zb b e = 70 from by unfold zb; rw [if_neg (by simp [hgood]), if_neg hrb]]; rfl, by rw [qcl (by rw [show zb b e = 70 from by unfold zb; rw [if_neg (by simp [hgood]), if_neg hrb]]; decide)]; exact World.ownsRow_nil _ _ _ _, by rw [qcl (by rw [show zb b e = 70 from by unfold zb; rw [if_neg (by simp [hgood]), if_neg hrb]]; decide)]; exact Nat.le_refl _⟩, HM.below⟩)
 have hrb : b.right = true ∧ b.behind e = true := by simpa using hb34
 have hbr := hrb.1
 have hbb := hrb.2
 unfold Bs.right at hbr
 unfold Bs.behind at hbb
 simp only [decide_eq_true_eq] at hbr hbb
 refine qd HF rfl (wp_skip (wp_seq (qa ?_)))
 refine fp HF 1 0 [(35, vP g3 3)] fun a HF => ?_
 refine fy HF HM 1 rfl rfl rfl (v := vB e.kind) (Yl.qh rfl rfl (by kernel_rfl) (fun _ h => h.cell (i := 1) rfl (rfl))) fun a HF => ?_
 refine fo HF 2 rfl rfl ?_
 refine ze HF HM (vs := [(0, vB e.kind)]) (cs := #[vB e.kind]) rfl ei_u8 (by decide) rfl (by kernel_rfl) rfl (by decide) ?_
 clear HF HM; intro a w37 g37 HF HM
 refine fp HF 1 3 [(8, vS g37 1 1)] fun a HF => ?_
 refine qb rfl (wp_seq (qa ?_))
 refine fp HF 2 0 [(39, vP g3 0), (38, vS g37 1 1)] fun a HF => ?_
 refine fy HF HM 2 rfl rfl rfl (v := vI e.seq) (Yl.qh rfl rfl (by kernel_rfl) (fun _ h => h.cell (i := 2) rfl (rfl))) fun a HF => ?_
 refine fp HF 1 3 [(41, vP g2 0)] fun a HF => ?_
 refine fy HF HM 4 rfl rfl rfl (v := vI b.seq) (Yl.qh rfl rfl (by kernel_rfl) (fun _ h => h.cell (i := 3) rfl (rfl))) fun a HF => ?_
 refine fp HF 2 5 [(44, vQ (IntKind.u64.wrap (IntKind.i64.wrap (e.seq - b.seq))))] fun a HF => ?_
 replace HF := HF.sp 44 (vQ ((e.seq - b.seq).toNat)) rfl (by rw [quy (by omega) (by omega)])
 refine fo HF 7 rfl rfl ?_
 refine e_cl HF [vQ ((e.seq - b.seq).toNat)] rfl rfl (qdr ((e.seq - b.seq).toNat) _ (by omega)) ?_
 rintro _ w45 ⟨v, rfl, ho, hbw⟩
 obtain ⟨A45, c45, rfl, hc45⟩ := qbh ho
 have hl45 := qm ((e.seq - b.seq).toNat)
 refine ⟨_, rfl, ?_⟩
 replace HM := HM.callRow hbw ho
 clear HF; intro a HF
 refine fo HF 8 rfl rfl ?_
 replace HM := HM.blkRow (i := 1) (n := 1) (size := 1) rfl rfl (by decide)
 refine qu HF HM (i := 1) rfl ei_u8 rfl rfl rfl (news := ((vbytes ((e.seq - b.seq).toNat)).map B8)) (HM.rd (i := 0) rfl) (qa2 _) (by omega) (by omega) rfl (by decide) ?_
 clear HF HM; intro a w46 A46 c46 HF HM hc46
 refine fp HF 1 9 [(8, .slice A46 (1 + ((vbytes ((e.seq - b.seq).toNat)).length)) c46)] fun a HF => ?_
 refine qb rfl (wp_seq (qa ?_))
 refine fp HF 2 0 [(48, vP g3 1), (47, .slice A46 (1 + ((vbytes ((e.seq - b.seq).toNat)).length)) c46)] fun a HF => ?_
 refine fy HF HM 2 rfl rfl rfl (v := vI e.time) (Yl.qh rfl rfl (by kernel_rfl) (fun _ h => h.cell (i := 3) rfl (rfl))) fun a HF => ?_
 refine fp HF 1 3 [(50, vP g2 1)] fun a HF => ?_
 refine fy HF HM 4 rfl rfl rfl (v := vI b.time) (Yl.qh rfl rfl (by kernel_rfl) (fun _ h => h.cell (i := 4) rfl (rfl))) fun a HF => ?_
 refine fp HF 2 5 [(53, vQ (IntKind.u64.wrap (IntKind.i64.wrap (e.time - b.time))))] fun a HF => ?_
 replace HF := HF.sp 53 (vQ ((e.time - b.time).toNat)) rfl (by rw [quy (by omega) (by omega)])
 refine fo HF 7 rfl rfl ?_
 refine e_cl HF [vQ ((e.time - b.time).toNat)] rfl rfl (qdr ((e.time - b.time).toNat) _ (by omega)) ?_
 rintro _ w54 ⟨v, rfl, ho, hbw⟩
 obtain ⟨A54, c54, rfl, hc54⟩ := qbh ho
 have hl54 := qm ((e.time - b.time).toNat)
 refine ⟨_, rfl, ?_⟩
 replace HM := HM.callRow hbw ho
 clear HF; intro a HF
 refine fo HF 8 rfl rfl ?_
 refine qu HF HM (i := 2) rfl ei_u8 rfl rfl rfl (news := ((vbytes ((e.time - b.time).toNat)).map B8)) (HM.rd (i := 0) rfl) (qa2 _) (by omega) (by omega) rfl (by decide) ?_
 clear HF HM; intro a w55 A55 c55 HF HM hc55
 refine fp HF 1 9 [(8, .slice A55 ((1 + ((vbytes ((e.seq - b.seq).toNat)).length)) + ((vbytes ((e.time - b.time).toNat)).length)) c55)] fun a HF => ?_
 refine qb rfl ?_
 have hn55 : (1 + ((vbytes ((e.seq - b.seq).toNat)).length)) + ((vbytes ((e.time - b.time).toNat)).length) = (putUp b e 0).length := by rw [qj1]; simp; try omega
 rw [hn55] at HM hc55
 rw [show (((#[vB e.kind]).toList) ++ ((vbytes ((e.seq - b.seq).toNat)).map B8)) ++ ((vbytes ((e.time - b.time).toNat)).map B8) = (putUp b e 0).map B8 from by simp [qj1, B8]] at HM
 replace HF := HF.as (t := 8) (u := .slice A55 ((putUp b e 0).length) c55) rfl (by rw [hn55])
 replace HF := HF.as (t := 55) (u := .slice A55 ((putUp b e 0).length) c55) rfl (by rw [hn55])
 refine wp_seq (wp_seq (qa ?_))
 refine fp HF 1 0 [(9, vI 0)] fun a HF => ?_
 refine qb rfl (wp_block ?_)
 replace HM := HM.picks (fs' := [.row (.slice A55 ((putUp b e 0).length) c55) ((putUp b e 0).length) ((putUp b e 0).map B8) 5 1, .row (.slice A12 e.qx.length c12) e.qx.length (e.qx.map U64) 39 1, .blk g3 e.cells 112, .blk g2 b.cells 131]) [2, 3, 4, 5] (by decide) rfl
 refine qs (fun mS aS wS => ∃ (k : Nat) (Ak : Option Addr) (ck : Nat), (k ≤ e.qx.length) ∧ ((putUp b e k).length ≤ ck) ∧ mS = e.qx.length - k ∧ Fr aS 70 [] [(9, vI k), (55, .slice A55 ((putUp b e 0).length) c55), (8, .slice Ak ((putUp b e k).length) ck), (34, .bool false), (16, .bool false), (7, vI e.check), (6, .slice A12 e.qx.length c12), (5, vI 0), (4, .slice none 0 0), (3, vP g3 0), (2, vP g2 0)] ∧ Mem w wS [.row (.slice Ak ((putUp b e k).length) ck) ((putUp b e k).length) ((putUp b e k).map B8) 5 1, .row (.slice A12 e.qx.length c12) e.qx.length (e.qx.map U64) 39 1, .blk g3 e.cells 112, .blk g2 b.cells 131]) (m := e.qx.length - 0) ⟨0, A55, c55, Nat.zero_le _, hc55, rfl, HF.sub (by kernel_rfl), HM.picks [0, 1, 2, 3] (by decide) rfl⟩ ?_
 clear HF HM; rintro mS a w_ ⟨k, Ak, ck, hk, hck, rfl, HF, HM⟩
 refine wp_seq (wp_seq (qa ?_))
 refine fp HF 2 0 [(57, .slice A12 e.qx.length c12), (56, vI k)] fun a HF => ?_
 refine fy HF HM 2 rfl rfl rfl (Yl.len rfl rfl (by kernel_rfl)) fun a HF => ?_
 refine fp HF 1 3 [(59, .bool (decide ((k : Int) < (e.qx.length : Int))))] fun a HF => ?_
 refine qb rfl ?_
 rcases HF.tf 59 rfl with ⟨hb59, HF⟩ | ⟨hb59, HF⟩
 ·
  have hk59 : k < e.qx.length := by simp only [decide_eq_true_eq] at hb59; omega
  obtain ⟨x, hx⟩ : ∃ x, e.vals[k]? = some x := ⟨_, List.getElem?_eq_getElem (by rw [← hov]; exact hk59)⟩
  have hpl := qul b e k
  refine qe HF rfl (wp_skip (wp_seq (wp_block (qa ?_))))
  refine fp HF 3 0 [(64, vI k), (63, .slice A12 e.qx.length c12), (62, .slice Ak ((putUp b e k).length) ck)] fun a HF => ?_
  obtain ⟨gA12, rfl⟩ := qch (HM.own (i := 1) rfl) (Nat.lt_of_le_of_lt (Nat.zero_le _) (show k < e.qx.length from hk59))
  refine fy HF HM 3 rfl rfl rfl (v := vP gA12 (k * 1)) (Yl.ix0 gA12 k 1 rfl rfl rfl (hk59)) fun a HF => ?_
  refine fy HF HM 4 rfl rfl rfl (v := vQ x) (Yl.qh rfl rfl (by kernel_rfl) (fun _ h => h.qnm (i := 1) rfl (k := k) (qai (F := U64) (k := k) (x := x) (by rw [hov]; exact hx)))) fun a HF => ?_
  refine fo HF 5 rfl rfl ?_
  refine e_cl HF [vQ x] rfl rfl (qdr x _ (hx64 _ (List.mem_of_getElem? hx))) ?_
  rintro _ w67 ⟨v, rfl, ho, hbw⟩
  obtain ⟨A67, c67, rfl, hc67⟩ := qbh ho
  have hl67 := qm x
  refine ⟨_, rfl, ?_⟩
  replace HM := HM.callRow hbw ho
  clear HF; intro a HF
  refine fo HF 6 rfl rfl ?_
  refine qu HF HM (i := 1) rfl ei_u8 rfl rfl rfl (news := ((vbytes x).map B8)) (HM.rd (i := 0) rfl) (qa2 _) (by omega) (by omega) rfl (by decide) ?_
  clear HF HM; intro a w68 A68 c68 HF HM hc68
  refine fp HF 1 7 [(8, .slice A68 (((putUp b e k).length) + ((vbytes x).length)) c68)] fun a HF => ?_
  refine qb rfl ?_
  have hn68 : ((putUp b e k).length) + ((vbytes x).length) = (putUp b e (k + 1)).length := by rw [qj2 hx]; simp
  rw [hn68] at HM hc68
  rw [show ((putUp b e k).map B8) ++ ((vbytes x).map B8) = (putUp b e (k + 1)).map B8 from by rw [qj2 hx, List.map_append]] at HM
  replace HF := HF.as (t := 8) (u := .slice A68 ((putUp b e (k + 1)).length) c68) rfl (by rw [hn68])
  replace HF := HF.as (t := 68) (u := .slice A68 ((putUp b e (k + 1)).length) c68) rfl (by rw [hn68])
  refine qa ?_
  refine fp HF 2 0 [(61, vI (IntKind.i64.wrap ((k : Int) + 1)))] fun a HF => ?_
  replace HF := HF.sp 61 (vI (k + 1 : Nat)) rfl (by rw [IntWalk.i64_in _ (by omega)]; simp)
  refine fp HF 1 2 [(9, vI (k + 1 : Nat))] fun a HF => ?_
  refine qb rfl ?_
  exact ⟨_, (by omega), k + 1, A68, c68, hk59, hc68, rfl, HF.sub (by kernel_rfl), HM.picks [1, 2, 3, 4] (by decide) rfl⟩
 obtain rfl : k = e.vals.length := by rw [hov] at hb59 hk; simp only [decide_eq_false_iff_not] at hb59; omega
 refine qd HF rfl (wp_exit (wp_seq (qa ?_)))
 refine fp HF 3 0 [(5, vI 0), (4, .slice Ak ((putUp b e e.vals.length).length) ck)] fun a HF => ?_
 refine qb rfl (wp_ret ?_)
 exact ret2 rfl HF (.tmp HF rfl) (.tmp HF rfl) (⟨⟨Ak, ck, by rw [qe5 hgood hrb, qik hgood hrb, ← qih]; rfl, by rw [qe5 hgood hrb, ← qih]; exact HM.own (i := 0) rfl, by rw [qe5 hgood hrb, ← qih]; exact hck⟩, HM.below⟩)
end Go.Proofs.YtfeheccoijnbaaaGreatDoor
