/- Parts. -/
import Derived.Test.YtfeheccoijnbaaaGreatDoorQvDoorE
import Derived.Test.YtfeheccoijnbaaaGreatDoorQvZ2
set_option linter.all false
set_option maxRecDepth 100000
set_option maxHeartbeats 8000000
namespace Go.Proofs.YtfeheccoijnbaaaGreatDoor
open Go.RowKit
theorem qfr (A : Option Addr) (n c : Nat) (l : List Ev) (hok : ∀ e ∈ l, e.Ok) (w : World) (hr : Rd w w.heap.size 11 A n (l.flatMap evL)) (hn : n ≤ 140737488355328) (hln : l.length = n) :
    Calls Tryz.prog 82 #[.slice A n c] w (RowPost w (rowR l)) := by
 refine qg (vs := [.slice A n c]) Tryz.func82 rfl rfl (by kernel_rfl) (σ0 := [(0, .slice A n c)]) rfl ?_
 intro a HF
 have HM := Mem.start w
 refine wp_seq (qa ?_)
 refine fp HF 2 0 [(3, vI 0), (2, vI 0)] fun a HF => ?_
 refine qb rfl (wp_seq (wp_seq (qa ?_)))
 refine fp HF 1 0 [(4, vI 0)] fun a HF => ?_
 refine qb rfl (wp_block ?_)
 refine qs (fun mS aS wS => ∃ (k : Nat), (k ≤ n) ∧ (rowR l = rowGo (qbp l k) k (l.drop k)) ∧ mS = n - k ∧ Fr aS 66 [] [(4, vI k), (3, vI 0), (2, vI 0), (0, .slice A n c)] ∧ Mem w wS []) (m := n - 0) ⟨0, Nat.zero_le _, rfl, rfl, HF.sub (by kernel_rfl), HM.picks [] (by decide) rfl⟩ ?_
 clear HF HM; rintro mS a w_ ⟨k, hk, hj, rfl, HF, HM⟩
 refine wp_seq (wp_seq (qa ?_))
 refine fp HF 2 0 [(7, .slice A n c), (6, vI k)] fun a HF => ?_
 refine fy HF HM 2 rfl rfl rfl (Yl.len rfl rfl (by kernel_rfl)) fun a HF => ?_
 refine fp HF 1 3 [(9, .bool (decide ((k : Int) < (n : Int))))] fun a HF => ?_
 refine qb rfl ?_
 rcases HF.tf 9 rfl with ⟨hb9, HF⟩ | ⟨hb9, HF⟩
 ·
  have hk9 : k < n := by simp at hb9; omega
  obtain ⟨e, hke⟩ : ∃ e, l[k]? = some e := ⟨_, List.getElem?_eq_getElem (by omega)⟩
  have hgo := qrb hke
  refine qe HF rfl (wp_skip (wp_seq (wp_block (wp_seq (wp_seq (qa ?_))))))
  refine fp HF 2 0 [(13, vI k), (12, .slice A n c)] fun a HF => ?_
  obtain ⟨gA, oA, rfl, _⟩ := hr.qy (Nat.lt_of_le_of_lt (Nat.zero_le _) (show k < n from hk9)) (by decide)
  refine fy HF HM 2 rfl rfl rfl (v := vP gA (oA + k * 11)) (Yl.ix gA oA k 11 rfl rfl rfl (hk9)) fun a HF => ?_
  refine fy HF HM 3 rfl rfl rfl (v := .agg e.cells) (Yl.zc rfl rfl ⟨(by kernel_rfl), (by kernel_rfl)⟩ rfl (fun _ h => (h.old hr).zt zf (hke))) fun a HF => ?_
  refine fo HF 4 rfl rfl ?_
  refine e_cl HF [.agg e.cells] rfl rfl (qig e (hok e (List.mem_of_getElem? hke)) _) ?_
  rintro _ w16 ⟨rfl, hbw⟩
  refine ⟨_, rfl, ?_⟩
  replace HM := HM.call hbw
  clear HF; intro a HF
  refine fp HF 1 5 [(5, vI e.check)] fun a HF => ?_
  refine qb rfl (wp_seq (qa ?_))
  refine fp HF 2 0 [(18, .bool ((e.check : Int) != (0 : Int)))] fun a HF => ?_
  refine qb rfl ?_
  rcases HF.tf 18 rfl with ⟨hb18, HF⟩ | ⟨hb18, HF⟩
  ·
   have hcb : e.check ≠ 0 := by rw [bne_iff_ne] at hb18; omega
   rw [if_pos hcb] at hgo
   refine qe HF rfl (wp_seq (qa ?_))
   refine fp HF 4 0 [(3, vI e.check), (2, vI k)] fun a HF => ?_
   refine qb rfl (wp_ret ?_)
   exact ret2 rfl HF (.tmp HF rfl) (.tmp HF rfl) (⟨by rw [hj, hgo]; (try rfl), HM.below⟩)
  have hcg : ¬ e.check ≠ 0 := by rw [bne_eq_false_iff_eq] at hb18; omega
  rw [if_neg hcg] at hgo
  refine qd HF rfl (wp_skip ?_)
  refine qax (fun aS wS => Fr aS 66 [] [(64, .bool (!(qbp l k).all (fun q => e.after q))), (18, .bool false), (5, vI e.check), (9, .bool true), (4, vI k), (3, vI 0), (2, vI 0), (0, .slice (some ⟨gA, oA, none⟩) n c)] ∧ Mem w wS []) ?_ ?_
  ·
   refine qag HM [] [] [] fun HM HS => ?_
   refine ap HF (fun _ => HS) [0, 1, 2] #[true, true, true, false, false, false, false, false, false, false, false, false, false, false, false, false, false, false, false, false, false, false, false, false, false, false, false, false, false, false, false, false, false, false, false, false, false, false, false, false, false, false, false, false] [(23, .bool (decide ((k : Int) > (0 : Int))))] fun a HF => ?_
   rcases HF.tf 23 rfl with ⟨hb23, HF⟩ | ⟨hb23, HF⟩
   ·
    have hk0 : 0 < k := by simp at hb23; omega
    obtain ⟨q, hq⟩ : ∃ q, l[k - 1]? = some q := ⟨_, List.getElem?_eq_getElem (by omega)⟩
    have hpv : qbp l k = some q := by rw [← hq, show k = (k - 1) + 1 by omega]; rfl
    refine ap HF (fun _ => HS) [3, 4, 8, 9] #[true, true, true, true, true, false, false, false, true, true, false, false, false, false, false, false, false, false, false, false, false, false, false, false, false, false, false, false, false, false, false, false, false, false, false, false, false, false, false, false, false, false, false, false] [(30, vI k), (29, .slice (some ⟨gA, oA, none⟩) n c), (25, vI k), (24, .slice (some ⟨gA, oA, none⟩) n c)] fun a HF => ?_
    refine ay HF HS 5 rfl rfl rfl (v := vP gA (oA + k * 11)) (Yl.ix gA oA k 11 rfl rfl rfl (hk9)) fun a HF => ?_
    refine ap HF (fun _ => HS) [6] #[true, true, true, true, true, true, true, false, true, true, false, false, false, false, false, false, false, false, false, false, false, false, false, false, false, false, false, false, false, false, false, false, false, false, false, false, false, false, false, false, false, false, false, false] [(27, vP gA (oA + k * 11 + 2))] fun a HF => ?_
    refine ay HF HS 7 rfl rfl rfl (v := vB e.cpu) (Yl.qh rfl rfl (by kernel_rfl) (fun _ h => (h.old hr).partAt zf (k := k) (j := 2) (x := e) (hke) rfl)) fun a HF => ?_
    refine zh HF (fun _ => HS) (i := 10) rfl rfl (d := 31) rfl (by decide) (by kernel_rfl) (fun _ _ _ h => h) (v := vI (IntKind.i64.wrap ((k : Int) - 1))) (fun _ => Yl.pure (by kernel_rfl)) fun a HF => ?_
    replace HF := HF.sp 31 (vI (k - 1 : Nat)) rfl (by rw [IntWalk.i64_in _ (by omega)]; congr 1; omega)
    refine ay HF HS 11 rfl rfl rfl (v := vP gA (oA + (k - 1) * 11)) (Yl.ix gA oA (k - 1) 11 rfl rfl rfl) fun a HF => ?_
    refine ap HF (fun _ => HS) [12] #[true, true, true, true, true, true, true, true, true, true, true, true, true, false, false, false, false, false, false, false, false, false, false, false, false, false, false, false, false, false, false, false, false, false, false, false, false, false, false, false, false, false, false, false] [(33, vP gA (oA + (k - 1) * 11 + 2))] fun a HF => ?_
    refine ay HF HS 13 rfl rfl rfl (v := vB q.cpu) (Yl.qh rfl rfl (by kernel_rfl) (fun _ h => (h.old hr).partAt zf (k := (k - 1)) (j := 2) (x := q) (hq) rfl)) fun a HF => ?_
    refine ap HF (fun _ => HS) [14, 15] #[true, true, true, true, true, true, true, true, true, true, true, true, true, true, true, true, false, false, false, false, false, false, false, false, false, false, false, false, false, false, false, false, false, false, false, false, false, false, false, false, false, false, false, false] [(36, .bool ((e.cpu : Int) != (q.cpu : Int)))] fun a HF => ?_
    rcases HF.tf 36 rfl with ⟨hb36, HF⟩ | ⟨hb36, HF⟩
    ·
     refine ap HF (fun _ => HS) [16, 17, 18, 19, 20, 21, 22, 23, 24, 25, 26, 27, 28, 29, 30, 31, 32, 33, 34, 35, 36, 37, 38, 39, 40, 41, 42, 43] #[true, true, true, true, true, true, true, true, true, true, true, true, true, true, true, true, true, true, true, true, true, true, true, true, true, true, true, true, true, true, true, true, true, true, true, true, true, true, true, true, true, true, true, true] [(64, .bool true)] fun a HF => ?_
     refine qn (by kernel_rfl) ?_
     have HF := HF.as (t := 64) (u := .bool (!(qbp l k).all (fun q => e.after q))) rfl (congrArg Value.bool (by rw [hpv]; (try simp at hb9); (try simp at hb18); (try simp at hb23); (try simp at hb36); rw [Bool.eq_iff_iff]; simp [Ev.after]; try omega))
     exact ⟨HF.sub (by kernel_rfl), HM.picks [] (by decide) rfl⟩
    refine ap HF (fun _ => HS) [16, 17, 21, 22] #[true, true, true, true, true, true, true, true, true, true, true, true, true, true, true, true, true, true, false, false, false, true, true, false, false, false, false, false, false, false, false, false, false, false, false, false, false, false, false, false, false, false, false, false] [(43, vI k), (42, .slice (some ⟨gA, oA, none⟩) n c), (38, vI k), (37, .slice (some ⟨gA, oA, none⟩) n c)] fun a HF => ?_
    refine ay HF HS 18 rfl rfl rfl (v := vP gA (oA + k * 11)) (Yl.ix gA oA k 11 rfl rfl rfl (hk9)) fun a HF => ?_
    refine ap HF (fun _ => HS) [19] #[true, true, true, true, true, true, true, true, true, true, true, true, true, true, true, true, true, true, true, true, false, true, true, false, false, false, false, false, false, false, false, false, false, false, false, false, false, false, false, false, false, false, false, false] [(40, vP gA (oA + k * 11))] fun a HF => ?_
    refine ay HF HS 20 rfl rfl rfl (v := vI e.seq) (Yl.qh rfl rfl (by kernel_rfl) (fun _ h => (by have := (h.old hr).partAt zf (k := k) (j := 0) (x := e) (hke) rfl; simpa using this))) fun a HF => ?_
    refine zh HF (fun _ => HS) (i := 23) rfl rfl (d := 44) rfl (by decide) (by kernel_rfl) (fun _ _ _ h => h) (v := vI (IntKind.i64.wrap ((k : Int) - 1))) (fun _ => Yl.pure (by kernel_rfl)) fun a HF => ?_
    replace HF := HF.sp 44 (vI (k - 1 : Nat)) rfl (by rw [IntWalk.i64_in _ (by omega)]; congr 1; omega)
    refine ay HF HS 24 rfl rfl rfl (v := vP gA (oA + (k - 1) * 11)) (Yl.ix gA oA (k - 1) 11 rfl rfl rfl) fun a HF => ?_
    refine ap HF (fun _ => HS) [25] #[true, true, true, true, true, true, true, true, true, true, true, true, true, true, true, true, true, true, true, true, true, true, true, true, true, true, false, false, false, false, false, false, false, false, false, false, false, false, false, false, false, false, false, false] [(46, vP gA (oA + (k - 1) * 11))] fun a HF => ?_
    refine ay HF HS 26 rfl rfl rfl (v := vI q.seq) (Yl.qh rfl rfl (by kernel_rfl) (fun _ h => (by have := (h.old hr).partAt zf (k := (k - 1)) (j := 0) (x := q) (hq) rfl; simpa using this))) fun a HF => ?_
    refine ap HF (fun _ => HS) [27, 28, 29] #[true, true, true, true, true, true, true, true, true, true, true, true, true, true, true, true, true, true, true, true, true, true, true, true, true, true, true, true, true, true, false, false, false, false, false, false, false, false, false, false, false, false, false, false] [(50, .bool (decide ((e.seq : Int) ≤ (q.seq : Int))))] fun a HF => ?_
    rcases HF.tf 50 rfl with ⟨hb50, HF⟩ | ⟨hb50, HF⟩
    ·
     refine ap HF (fun _ => HS) [30, 31, 32, 33, 34, 35, 36, 37, 38, 39, 40, 41, 42, 43] #[true, true, true, true, true, true, true, true, true, true, true, true, true, true, true, true, true, true, true, true, true, true, true, true, true, true, true, true, true, true, true, true, true, true, true, true, true, true, true, true, true, true, true, true] [(64, .bool true)] fun a HF => ?_
     refine qn (by kernel_rfl) ?_
     have HF := HF.as (t := 64) (u := .bool (!(qbp l k).all (fun q => e.after q))) rfl (congrArg Value.bool (by rw [hpv]; (try simp at hb9); (try simp at hb18); (try simp at hb23); (try simp at hb36); (try simp at hb50); rw [Bool.eq_iff_iff]; simp [Ev.after]; try omega))
     exact ⟨HF.sub (by kernel_rfl), HM.picks [] (by decide) rfl⟩
    refine ap HF (fun _ => HS) [30, 31, 35, 36] #[true, true, true, true, true, true, true, true, true, true, true, true, true, true, true, true, true, true, true, true, true, true, true, true, true, true, true, true, true, true, true, true, false, false, false, true, true, false, false, false, false, false, false, false] [(57, vI k), (56, .slice (some ⟨gA, oA, none⟩) n c), (52, vI k), (51, .slice (some ⟨gA, oA, none⟩) n c)] fun a HF => ?_
    refine ay HF HS 32 rfl rfl rfl (v := vP gA (oA + k * 11)) (Yl.ix gA oA k 11 rfl rfl rfl (hk9)) fun a HF => ?_
    refine ap HF (fun _ => HS) [33] #[true, true, true, true, true, true, true, true, true, true, true, true, true, true, true, true, true, true, true, true, true, true, true, true, true, true, true, true, true, true, true, true, true, true, false, true, true, false, false, false, false, false, false, false] [(54, vP gA (oA + k * 11 + 1))] fun a HF => ?_
    refine ay HF HS 34 rfl rfl rfl (v := vI e.time) (Yl.qh rfl rfl (by kernel_rfl) (fun _ h => (h.old hr).partAt zf (k := k) (j := 1) (x := e) (hke) rfl)) fun a HF => ?_
    refine zh HF (fun _ => HS) (i := 37) rfl rfl (d := 58) rfl (by decide) (by kernel_rfl) (fun _ _ _ h => h) (v := vI (IntKind.i64.wrap ((k : Int) - 1))) (fun _ => Yl.pure (by kernel_rfl)) fun a HF => ?_
    replace HF := HF.sp 58 (vI (k - 1 : Nat)) rfl (by rw [IntWalk.i64_in _ (by omega)]; congr 1; omega)
    refine ay HF HS 38 rfl rfl rfl (v := vP gA (oA + (k - 1) * 11)) (Yl.ix gA oA (k - 1) 11 rfl rfl rfl) fun a HF => ?_
    refine ap HF (fun _ => HS) [39] #[true, true, true, true, true, true, true, true, true, true, true, true, true, true, true, true, true, true, true, true, true, true, true, true, true, true, true, true, true, true, true, true, true, true, true, true, true, true, true, true, false, false, false, false] [(60, vP gA (oA + (k - 1) * 11 + 1))] fun a HF => ?_
    refine ay HF HS 40 rfl rfl rfl (v := vI q.time) (Yl.qh rfl rfl (by kernel_rfl) (fun _ h => (h.old hr).partAt zf (k := (k - 1)) (j := 1) (x := q) (hq) rfl)) fun a HF => ?_
    refine ap HF (fun _ => HS) [41, 42, 43] #[true, true, true, true, true, true, true, true, true, true, true, true, true, true, true, true, true, true, true, true, true, true, true, true, true, true, true, true, true, true, true, true, true, true, true, true, true, true, true, true, true, true, true, true] [(64, .bool (decide ((e.time : Int) < (q.time : Int))))] fun a HF => ?_
    refine qn (by kernel_rfl) ?_
    replace HF := HF.to [(64, .bool (decide ((e.time : Int) < (q.time : Int)))), (18, .bool false), (5, vI e.check), (9, .bool true), (4, vI k), (3, vI 0), (2, vI 0), (0, .slice (some ⟨gA, oA, none⟩) n c)]
    have HF := HF.as (t := 64) (u := .bool (!(qbp l k).all (fun q => e.after q))) rfl (congrArg Value.bool (by rw [hpv]; (try simp at hb9); (try simp at hb18); (try simp at hb23); (try simp at hb36); (try simp at hb50); rw [Bool.eq_iff_iff]; simp [Ev.after]; try omega))
    exact ⟨HF.sub (by kernel_rfl), HM.picks [] (by decide) rfl⟩
   have hpv : qbp l k = none := by rw [show k = 0 by simp at hb23; omega]; rfl
   refine ap HF (fun _ => HS) [3, 4, 5, 6, 7, 8, 9, 10, 11, 12, 13, 14, 15, 16, 17, 18, 19, 20, 21, 22, 23, 24, 25, 26, 27, 28, 29, 30, 31, 32, 33, 34, 35, 36, 37, 38, 39, 40, 41, 42, 43] #[true, true, true, true, true, true, true, true, true, true, true, true, true, true, true, true, true, true, true, true, true, true, true, true, true, true, true, true, true, true, true, true, true, true, true, true, true, true, true, true, true, true, true, true] [(64, .bool false)] fun a HF => ?_
   refine qn (by kernel_rfl) ?_
   have HF := HF.as (t := 64) (u := .bool (!(qbp l k).all (fun q => e.after q))) rfl (congrArg Value.bool (by rw [hpv]; (try simp at hb9); (try simp at hb18); (try simp at hb23); rw [Bool.eq_iff_iff]; simp [Ev.after]; try omega))
   exact ⟨HF.sub (by kernel_rfl), HM.picks [] (by decide) rfl⟩
  clear HF HM; rintro a w7 ⟨HF, HM⟩
  rcases HF.tf 64 rfl with ⟨hb64, HF⟩ | ⟨hb64, HF⟩
  ·
   rw [if_pos (by simpa using hb64)] at hgo
   refine qe HF rfl (wp_seq (qa ?_))
   refine fp HF 3 0 [(3, vI 71), (2, vI k)] fun a HF => ?_
   refine qb rfl (wp_ret ?_)
   exact ret2 rfl HF (.tmp HF rfl) (.tmp HF rfl) (⟨by rw [hj, hgo]; (try rfl), HM.below⟩)
  rw [if_neg (by simpa using hb64)] at hgo
  refine qd HF rfl (wp_skip (qa ?_))
  refine fp HF 2 0 [(11, vI (IntKind.i64.wrap ((k : Int) + 1)))] fun a HF => ?_
  replace HF := HF.sp 11 (vI (k + 1 : Nat)) rfl (by rw [IntWalk.i64_in _ (by omega)]; simp)
  refine fp HF 1 2 [(4, vI (k + 1 : Nat))] fun a HF => ?_
  refine qb rfl ?_
  exact ⟨_, (by omega), k + 1, by omega, hj.trans hgo, rfl, HF.sub (by kernel_rfl), HM.picks [] (by decide) rfl⟩
 have hk9 : k = n := by simp at hb9; omega
 refine qd HF rfl (wp_exit (wp_seq (qa ?_)))
 refine fp HF 2 0 [(3, vI 0), (2, vI (-1))] fun a HF => ?_
 refine qb rfl (wp_ret ?_)
 exact ret2 rfl HF (.tmp HF rfl) (.tmp HF rfl) (⟨by rw [hj, hk9, List.drop_eq_nil_of_le (by omega)]; cases qbp l n <;> rfl, HM.below⟩)
structure It where
 e : Ev
 before : Int
structure It.Ok (x : It) : Prop where
 e : x.e.Ok
 before : I64 x.before
def It.cells (x : It) : Array Value := #[.int .i64 x.e.seq, .int .i64 x.e.time, .int .u8 (x.e.cpu : Int), .int .u8 (x.e.kind : Int), .int .i64 x.e.task, .int .i64 x.e.group, .int .i64 x.e.to, .int .i64 x.e.weight, .int .i64 x.e.ticks, .int .u64 (x.e.mask : Int), .int .i64 x.e.got, .int .i64 x.before]
def itL (x : It) : List Value := x.cells.toList
theorem qaq (x : It) : (itL x).length = 12 := rfl
def evsI (l : List It) : List Ev := l.map It.e
def befI (l : List It) : List Int := l.map It.before
def qa3 : Int → List Int → Bool
 | _, [] => true
 | r, n :: t => decide (0 ≤ n ∧ n ≤ r) && qa3 (r - n) t
def qd7 : Int := 281474976710656
def cpuOk (cpu : Nat) : List It → Bool
 | [] => true
 | x :: _ => decide (x.e.cpu = cpu)
def zx (cpu : Nat) (l : List It) (opn : Int) : Bool := decide ((rowR (evsI l)).2 = 0) && (qa3 qd7 (opn :: befI l) && cpuOk cpu l)
def sumI : List Int → Int
 | [] => 0
 | n :: t => n + sumI t
def ofB (cpu : Nat) (l : List It) (opn : Int) (n : Nat) : Bk := ⟨1, cpu, sumI (befI (l.take n)) + (if n = l.length then opn else 0), 0, evsI (l.take n)⟩
def qav (p : Nat → Bool) : Nat → Nat
 | 0 => 0
 | n + 1 => if p (n + 1) = true then n + 1 else qav p n
def cutN (cpu : Nat) (l : List It) (opn : Int) (limit : Nat) : Nat := qav (fun n => decide ((ofB cpu l opn n).err = 0)) (min l.length limit)
def cutGo (cpu : Nat) (opn : Int) (limit : Nat) : Nat → List It → List Bk
 | 0, _ => []
 | f + 1, l => if l.length = 0 then [] else ofB cpu l opn (cutN cpu l opn limit) :: cutGo cpu opn limit f (l.drop (cutN cpu l opn limit))
def cutS (cpu : Nat) (l : List It) (opn : Int) (limit : Int) : List Bk × Nat :=
 if 64 ≤ cpu ∨ limit < 1 ∨ 4096 < limit then ([], 2)
 else if zx cpu l opn = false then ([], 110)
 else if l.length = 0 then ((if opn = 0 then [] else [⟨1, cpu, opn, 0, []⟩]), 0)
 else (cutGo cpu opn limit.toNat l.length l, 0)
theorem qjn : ∀ {l : List Int} {r : Int}, qa3 r l = true → ∀ n ∈ l, 0 ≤ n ∧ n ≤ r
 | [], _, _, n, hn => by cases hn
 | x :: t, r, h, n, hn => by
  simp only [qa3, Bool.and_eq_true, decide_eq_true_eq] at h
  rcases List.mem_cons.1 hn with rfl | hn
  ·exact h.1
  ·have := qjn h.2 n hn
   omega
theorem qjo : ∀ {l : List Int} {r : Int}, 0 ≤ r → qa3 r l = true → 0 ≤ sumI l ∧ sumI l ≤ r
 | [], r, hr, _ => ⟨Int.le_refl _, hr⟩
 | x :: t, r, hr, h => by
  simp only [qa3, Bool.and_eq_true, decide_eq_true_eq] at h
  have := qjo (by omega) h.2
  simp only [sumI]
  omega
theorem qg4 : ∀ (a b : List Int), sumI (a ++ b) = sumI a + sumI b
 | [], b => by simp [sumI]
 | x :: a, b => by simp only [List.cons_append, sumI, qg4 a b]; omega
theorem qcs (p : Nat → Bool) : ∀ n, qav p n ≤ n
 | 0 => Nat.le_refl _
 | n + 1 => by
  rw [qav]
  split
  ·exact Nat.le_refl _
  ·exact Nat.le_succ_of_le (qcs p n)
theorem qh3 (p : Nat → Bool) : ∀ n, 0 < qav p n → p (qav p n) = true
 | 0, h => by simp [qav] at h
 | n + 1, h => by
  rw [qav] at h ⊢
  split
  ·rename_i hp; exact hp
  ·rename_i hp
   rw [if_neg hp] at h
   exact qh3 p n h
theorem qgg (p : Nat → Bool) (h1 : p 1 = true) : ∀ n, 0 < n → 0 < qav p n
 | 0, h => by omega
 | n + 1, _ => by
  rw [qav]
  split
  ·omega
  ·rename_i hp
   cases n with
   | zero => exact absurd h1 hp
   | succ m => exact qgg p h1 (m + 1) (by omega)
theorem qh4 (p : Nat → Bool) : ∀ {n k : Nat}, k ≤ n → (∀ m, k < m → m ≤ n → p m = false) → qav p n = qav p k
 | 0, k, h, _ => by
  have : k = 0 := by omega
  subst this; rfl
 | n + 1, k, h, hno => by
  by_cases hk : k = n + 1
  ·subst hk; rfl
  ·rw [qav, if_neg (by rw [hno (n + 1) (by omega) (Nat.le_refl _)]; decide)]
   exact qh4 p (by omega) (fun m h1 h2 => hno m h1 (by omega))
theorem qme {cpu : Nat} : ∀ (l : List Ev) (p : Option Ev) (b : Bs) (k : Nat), Chain cpu p b l → ∃ b', Chain cpu none b' (l.drop k)
 | [], _, b, k, _ => ⟨b, by rw [List.drop_nil]; trivial⟩
 | e :: r, p, b, 0, h => ⟨b, h.1, h.2.1, (fun q hq => by cases hq), h.2.2.2⟩
 | e :: r, _, _, k + 1, h => qme r (some e) e.at k h.2.2.2
theorem qfp (l : List It) (n : Nat) : evsI (l.take n) = (evsI l).take n := by unfold evsI; rw [List.map_take]
theorem qtu (l : List It) (n : Nat) : evsI (l.drop n) = (evsI l).drop n := by unfold evsI; rw [List.map_drop]
theorem qek (l : List It) : (evsI l).length = l.length := by unfold evsI; rw [List.length_map]
theorem qgh (l : List It) (n : Nat) : sumI (befI l) = sumI (befI (l.take n)) + sumI (befI (l.drop n)) := by
 unfold befI
 rw [List.map_take, List.map_drop, ← qg4, List.take_append_drop]
theorem qh5 : ∀ {l : List Int}, (∀ n ∈ l, 0 ≤ n) → 0 ≤ sumI l
 | [], _ => Int.le_refl _
 | x :: t, h => by
  have h1 := h x List.mem_cons_self
  have h2 := qh5 (l := t) (fun n hn => h n (List.mem_cons_of_mem _ hn))
  simp only [sumI]
  omega
structure GoodI (cpu : Nat) (l : List It) (opn : Int) : Prop where
 c64 : cpu < 64
 chain : ∃ b, Chain cpu none b (evsI l)
 ok : ∀ x ∈ l, x.Ok
 o0 : 0 ≤ opn
 bef : ∀ x ∈ l, 0 ≤ x.before
 sum : opn + sumI (befI l) ≤ 281474976710656
theorem qct {l : List It} (h : ∀ x ∈ l, 0 ≤ x.before) : 0 ≤ sumI (befI l) := qh5 fun n hn => by
 unfold befI at hn
 obtain ⟨x, hx, rfl⟩ := List.mem_map.1 hn
 exact h x hx
theorem GoodI.drop {cpu : Nat} {l : List It} {opn : Int} (h : GoodI cpu l opn) (k : Nat) : GoodI cpu (l.drop k) opn := by
 obtain ⟨b, hb⟩ := h.chain
 have h1 := qgh l k
 have h2 := qct (l := l.take k) (fun x hx => h.bef x (List.mem_of_mem_take hx))
 have h3 := h.sum
 exact ⟨h.c64, by rw [qtu]; exact qme _ _ _ k hb, fun x hx => h.ok x (List.mem_of_mem_drop hx), h.o0, fun x hx => h.bef x (List.mem_of_mem_drop hx), by omega⟩
theorem GoodI.of {cpu : Nat} {l : List It} {opn : Int} (hc : cpu < 64) (hok : ∀ x ∈ l, x.Ok) (h : zx cpu l opn = true) : GoodI cpu l opn := by
 unfold zx at h
 simp only [Bool.and_eq_true, decide_eq_true_eq] at h
 obtain ⟨h1, h2, h3⟩ := h
 have hr := h2
 simp only [qa3, Bool.and_eq_true, decide_eq_true_eq] at hr
 have hs := qjo (r := qd7 - opn) (by omega) hr.2
 have hm : qd7 = 281474976710656 := rfl
 refine ⟨hc, ?_, hok, hr.1.1, ?_, by omega⟩
 ·cases l with
  | nil => exact ⟨⟨0, 0⟩, trivial⟩
  | cons x r =>
   have hev : ∀ e ∈ evsI (x :: r), e.Ok := fun e he => by
    unfold evsI at he
    obtain ⟨y, hy, rfl⟩ := List.mem_map.1 he
    exact (hok y hy).e
   have hx : x.e.check = 0 := qpb h1 rfl
   have hcp : x.e.cpu = cpu := by simpa [cpuOk] using h3
   refine ⟨x.e.at, qd4 (evsI (x :: r)) none x.e.at 0 hev (qg2 hx) ?_ (fun q hq => by cases hq) h1⟩
   intro y hy
   have : y = x.e := by simpa [evsI] using hy.symm
   subst this
   exact ⟨qhs _, hcp⟩
 ·intro x hx
  exact (qjn hr.2 x.before (List.mem_map_of_mem hx)).1
theorem qbw {cpu : Nat} {l : List It} {opn : Int} {n : Nat} (hn : n ≤ l.length) : (ofB cpu l opn n).evs.length = n := by
 show (evsI (l.take n)).length = n
 rw [qek, List.length_take]
 omega
theorem qk0 {cpu : Nat} {l : List It} {opn : Int} (h : GoodI cpu l opn) (n : Nat) : 0 ≤ (ofB cpu l opn n).lost ∧ (ofB cpu l opn n).lost ≤ 281474976710656 := by
 have h1 := qgh l n
 have h2 := qct (l := l.take n) (fun x hx => h.bef x (List.mem_of_mem_take hx))
 have h3 := qct (l := l.drop n) (fun x hx => h.bef x (List.mem_of_mem_drop hx))
 have h4 := h.sum
 have h5 := h.o0
 show 0 ≤ sumI (befI (l.take n)) + (if n = l.length then opn else 0) ∧ sumI (befI (l.take n)) + (if n = l.length then opn else 0) ≤ _
 split <;> omega
theorem qtv {cpu : Nat} {l : List It} {opn : Int} (h : GoodI cpu l opn) (n : Nat) : (ofB cpu l opn n).Ok := by
 have := qk0 h n
 refine ⟨by show 1 < 256; decide, by have := h.c64; show cpu < 256; omega, ⟨by omega, by omega⟩, by show I64 0; exact ⟨by decide, by decide⟩, fun e he => ?_⟩
 have he : e ∈ evsI (l.take n) := he
 unfold evsI at he
 obtain ⟨y, hy, rfl⟩ := List.mem_map.1 he
 exact (h.ok y (List.mem_of_mem_take hy)).e
theorem qh6 {cpu : Nat} {b : Bs} {l : List Ev} (h : Chain cpu none b l) : (rowR l).2 = 0 := by
 cases l with
 | nil => rfl
 | cons e r =>
  have hr : b.right = true := h.1.right
  rw [(ql1 hr h).1]
theorem qwn {cpu : Nat} {l : List It} {opn : Int} (h : GoodI cpu l opn) {n : Nat} (h1 : 0 < n) (h2 : n ≤ l.length) : (ofB cpu l opn n).fits = true := by
 obtain ⟨b, hb⟩ := h.chain
 have hl := qk0 h n
 have hlen := qbw (cpu := cpu) (opn := opn) h2
 have hc : Chain cpu none b (evsI (l.take n)) := by rw [qfp]; exact qh2 _ _ _ n hb
 rw [qfo (b := ofB cpu l opn n) rfl (by show cpu ≤ 63; have := h.c64; omega) hl.1 hl.2 rfl (by rw [hlen]; omega), decide_eq_true_eq]
 ·exact qh6 hc
 ·intro k hk
  exact qfm _ _ _ hc _ (qal Ev.zero hk)
theorem qwo {cpu : Nat} {l : List It} {opn : Int} {n : Nat} (h1 : 0 < n) (h2 : n ≤ l.length) : 12 + (ofB cpu l opn n).body.length = Bk.sz ⟨1, cpu, (ofB cpu l opn n).lost, 0, evsI l⟩ n + (vbytes n).length := by
 have h := qtr (b := ⟨1, cpu, (ofB cpu l opn n).lost, 0, evsI l⟩) rfl h1 (by show n ≤ (evsI l).length; rw [qek]; exact h2)
 have e : Bk.upto ⟨1, cpu, (ofB cpu l opn n).lost, 0, evsI l⟩ n = ofB cpu l opn n := by
  unfold Bk.upto
  show (⟨1, cpu, (ofB cpu l opn n).lost, 0, (evsI l).take n⟩ : Bk) = ⟨1, cpu, _, 0, evsI (l.take n)⟩
  rw [qfp]
  rfl
 rwa [e] at h
theorem qyl {cpu : Nat} {lo lo' : Int} {es : List Ev} {n : Nat} (h : lo ≤ lo') : Bk.sz ⟨1, cpu, lo, 0, es⟩ n ≤ Bk.sz ⟨1, cpu, lo', 0, es⟩ n := by
 have h1 := qjm (x := lo.toNat) (y := lo'.toNat) (by omega)
 have hb : Bk.base ⟨1, cpu, lo, 0, es⟩ = Bk.base ⟨1, cpu, lo', 0, es⟩ := rfl
 unfold Bk.sz
 simp only [hb]
 generalize (vbytes cpu).length = a1
 generalize Bk.base ⟨1, cpu, lo', 0, es⟩ = q
 generalize (vbytes q.seq.toNat).length = a2
 generalize (vbytes q.time.toNat).length = a3
 generalize (recs q (List.take n es)).length = a4
 omega
theorem qym {cpu : Nat} {lo : Int} {es : List Ev} {m n : Nat} (h0 : 0 < n) (h : n ≤ m) : Bk.sz ⟨1, cpu, lo, 0, es.take m⟩ n = Bk.sz ⟨1, cpu, lo, 0, es⟩ n := by
 have hb : Bk.base ⟨1, cpu, lo, 0, es.take m⟩ = Bk.base ⟨1, cpu, lo, 0, es⟩ := by
  unfold Bk.base
  cases es with
  | nil => simp
  | cons e r =>
   cases m with
   | zero => omega
   | succ j => rfl
 unfold Bk.sz
 rw [hb]
 show 12 + _ + _ + _ + _ + (recs _ ((es.take m).take n)).length = 12 + _ + _ + _ + _ + (recs _ (es.take n)).length
 rw [List.take_take, Nat.min_eq_left h]
theorem qtw {cpu : Nat} {l : List It} {opn : Int} (h : GoodI cpu l opn) {n : Nat} (h1 : 0 < n) (h2 : n ≤ l.length) : (ofB cpu l opn n).err = 0 ↔ Bk.sz ⟨1, cpu, (ofB cpu l opn n).lost, 0, evsI l⟩ n + (vbytes n).length ≤ 4096 := by
 have hs := qwo (cpu := cpu) (opn := opn) h1 h2
 unfold Bk.err
 rw [if_neg (by rw [qwn h h1 h2]; decide), hs]
 split <;> omega
theorem qd8 (p : Nat → Bool) : ∀ n m, qav p n < m → m ≤ n → p m = false
 | 0, m, h1, h2 => by omega
 | n + 1, m, h1, h2 => by
  rw [qav] at h1
  split at h1
  ·omega
  ·rename_i hp
   by_cases hm : m = n + 1
   ·subst hm; simpa using hp
   ·exact qd8 p n m h1 (by omega)
def mostB (cpu : Nat) (l : List It) (m : Nat) : Bk := ⟨1, cpu, 0, 0, evsI (l.take m)⟩
theorem qjp {cpu : Nat} {l : List It} {opn : Int} (h : GoodI cpu l opn) {m : Nat} (h0 : 0 < m) (hm : m ≤ l.length) : (mostB cpu l m).fits = true ∧ (mostB cpu l m).Ok ∧ (mostB cpu l m).qeq ≤ m ∧ 0 < (mostB cpu l m).qeq ∧ ∀ n, (mostB cpu l m).qeq < n → n ≤ m → (ofB cpu l opn n).err ≠ 0 := by
 obtain ⟨b, hb⟩ := h.chain
 have hc : Chain cpu none b (evsI (l.take m)) := by rw [qfp]; exact qh2 _ _ _ m hb
 have hlen : (mostB cpu l m).evs.length = m := by show (evsI (l.take m)).length = m; rw [qek, List.length_take]; omega
 have hbig : ∀ n, 0 < n → n ≤ m → ((mostB cpu l m).big n = true ↔ 4096 < Bk.sz ⟨1, cpu, 0, 0, evsI l⟩ n + (vbytes n).length) := fun n h1 h2 => by
  unfold Bk.big
  rw [decide_eq_true_eq]
  unfold mostB
  rw [qfp, qym h1 h2]
 obtain ⟨k, hk⟩ : ∃ k, k = qav (fun i => !(mostB cpu l m).big i) m := ⟨_, rfl⟩
 have hkm : k ≤ m := by rw [hk]; exact qcs _ _
 have hf : (mostB cpu l m).qeq = k := by
  refine qtt (by rw [hlen]; exact hkm) (fun h1 => ?_) (fun n h1 h2 => ?_)
  ·have := qh3 (fun i => !(mostB cpu l m).big i) m (by rw [← hk]; exact h1)
   rw [← hk] at this
   simpa using this
  ·have := qd8 (fun i => !(mostB cpu l m).big i) m n (by rw [← hk]; exact h1) (by rw [hlen] at h2; exact h2)
   simpa using this
 have hpos : 0 < k := by
  rw [hk]
  refine qgg _ ?_ m h0
  have h1 := (hbig 1 (by omega) (by omega))
  have h2 := sz_le ⟨1, cpu, 0, 0, evsI l⟩ 1
  have h3 := qm 1
  cases hb1 : (mostB cpu l m).big 1 with
  | true => have := h1.1 hb1; omega
  | false => rfl
 refine ⟨?_, ?_, by rw [hf]; exact hkm, by rw [hf]; exact hpos, ?_⟩
 ·rw [qfo (b := mostB cpu l m) rfl (by show cpu ≤ 63; have := h.c64; omega) (Int.le_refl _) (by show (0 : Int) ≤ _; omega) rfl (by rw [hlen]; omega), decide_eq_true_eq]
  ·exact qh6 hc
  ·intro i hi
   exact qfm _ _ _ hc _ (qal Ev.zero hi)
 ·refine ⟨by show 1 < 256; decide, by have := h.c64; show cpu < 256; omega, by show I64 0; exact ⟨by decide, by decide⟩, by show I64 0; exact ⟨by decide, by decide⟩, fun e he => ?_⟩
  have he : e ∈ evsI (l.take m) := he
  unfold evsI at he
  obtain ⟨y, hy, rfl⟩ := List.mem_map.1 he
  exact (h.ok y (List.mem_of_mem_take hy)).e
 ·intro n h1 h2 he
  rw [hf, hk] at h1
  have h3 := qd8 (fun i => !(mostB cpu l m).big i) m n h1 h2
  have h4 : (mostB cpu l m).big n = true := by simpa using h3
  have hn : 0 < n := by omega
  have h5 := (hbig n hn h2).1 h4
  have h6 := (qtw h hn (by omega)).1 he
  have h7 := qyl (cpu := cpu) (es := evsI l) (n := n) (qk0 h n).1
  omega
theorem qtx {cpu : Nat} {l : List It} {opn : Int} (h : GoodI cpu l opn) {limit : Nat} (hl : 0 < limit) (h0 : 0 < l.length) :
  cutN cpu l opn limit = qav (fun n => decide ((ofB cpu l opn n).err = 0)) (mostB cpu l (min l.length limit)).qeq := by
 have hm := qjp h (m := min l.length limit) (by omega) (by omega)
 unfold cutN
 refine qh4 _ hm.2.2.1 (fun n h1 h2 => ?_)
 rw [decide_eq_false_iff_not]
 exact hm.2.2.2.2 n h1 h2
theorem qyn {cpu : Nat} {l : List It} {opn : Int} (h : GoodI cpu l opn) (h0 : 0 < l.length) : (ofB cpu l opn 1).err = 0 := by
 rw [qtw h (by omega) (by omega)]
 have h2 := sz_le ⟨1, cpu, (ofB cpu l opn 1).lost, 0, evsI l⟩ 1
 have h3 := qm 1
 omega
theorem qk1 {cpu : Nat} {l : List It} {opn : Int} (h : GoodI cpu l opn) {limit : Nat} (hl : 0 < limit) (h0 : 0 < l.length) : 0 < cutN cpu l opn limit ∧ cutN cpu l opn limit ≤ l.length ∧ (ofB cpu l opn (cutN cpu l opn limit)).err = 0 := by
 have h1 := qgg (fun n => decide ((ofB cpu l opn n).err = 0)) (by rw [decide_eq_true (qyn h h0)]) (min l.length limit) (by omega)
 have h2 := qcs (fun n => decide ((ofB cpu l opn n).err = 0)) (min l.length limit)
 have h3 := qh3 (fun n => decide ((ofB cpu l opn n).err = 0)) (min l.length limit) h1
 unfold cutN
 exact ⟨h1, by omega, of_decide_eq_true h3⟩
theorem qgi {cpu limit f : Nat} {opn : Int} {l : List It} (h : 0 < l.length) (hf : 0 < f) : cutGo cpu opn limit f l = ofB cpu l opn (cutN cpu l opn limit) :: cutGo cpu opn limit (f - 1) (l.drop (cutN cpu l opn limit)) := by
 cases f with
 | zero => omega
 | succ f => rw [cutGo, if_neg (by omega)]; rfl
theorem qh7 {cpu limit f : Nat} {opn : Int} {l : List It} (h : l.length = 0) : cutGo cpu opn limit f l = [] := by
 cases f with
 | zero => rfl
 | succ f => rw [cutGo, if_pos h]
section
variable {cpu : Nat} {l : List It} {opn limit : Int}
theorem qel (h : 64 ≤ cpu ∨ limit < 1 ∨ 4096 < limit) : cutS cpu l opn limit = ([], 2) := by unfold cutS; rw [if_pos h]
theorem qjq (h : ¬(64 ≤ cpu ∨ limit < 1 ∨ 4096 < limit)) (h2 : zx cpu l opn = false) : cutS cpu l opn limit = ([], 110) := by unfold cutS; rw [if_neg h, if_pos h2]
theorem qmf (h : ¬(64 ≤ cpu ∨ limit < 1 ∨ 4096 < limit)) (h2 : zx cpu l opn = true) (h3 : l.length = 0) (h4 : opn = 0) : cutS cpu l opn limit = ([], 0) := by unfold cutS; rw [if_neg h, if_neg (by rw [h2]; decide), if_pos h3, if_pos h4]
theorem qmg (h : ¬(64 ≤ cpu ∨ limit < 1 ∨ 4096 < limit)) (h2 : zx cpu l opn = true) (h3 : l.length = 0) (h4 : opn ≠ 0) : cutS cpu l opn limit = ([⟨1, cpu, opn, 0, []⟩], 0) := by unfold cutS; rw [if_neg h, if_neg (by rw [h2]; decide), if_pos h3, if_neg h4]
theorem qmh {lim : Nat} (h : ¬(64 ≤ cpu ∨ (lim : Int) < 1 ∨ 4096 < (lim : Int))) (h2 : zx cpu l opn = true) (h3 : l.length ≠ 0) : cutS cpu l opn (lim : Int) = (cutGo cpu opn lim l.length l, 0) := by unfold cutS; rw [if_neg h, if_neg (by rw [h2]; decide), if_neg h3, Int.toNat_natCast]
end
theorem qwp {cpu : Nat} {l : List It} {opn : Int} (h : l.length = 0) : ofB cpu l opn 0 = ⟨1, cpu, opn, 0, []⟩ := by
 cases l with
 | nil => show (⟨1, cpu, 0 + (if 0 = 0 then opn else 0), 0, []⟩ : Bk) = _; rw [if_pos rfl, Int.zero_add]
 | cons x r => cases h
theorem qh8 {p : Nat → Bool} {m : Nat} (h : p m = false) (h0 : 0 < m) : qav p m = qav p (m - 1) := by
 cases m with
 | zero => omega
 | succ m => rw [qav, if_neg (by rw [h]; decide)]; rfl
theorem qh9 {p : Nat → Bool} {m : Nat} (h : p m = true) : qav p m = m := by
 cases m with
 | zero => rfl
 | succ m => rw [qav, if_pos h]
def qbn (cpu : Nat) : Int → List It → Bool
 | _, [] => true
 | s, x :: t => decide (0 ≤ x.before ∧ x.before ≤ 281474976710656 - s ∧ x.e.cpu = cpu) && qbn cpu (s + x.before) t
theorem qe2 (cpu : Nat) : ∀ (l : List It) (s : Int), qbn cpu s l = true ↔ (qa3 (281474976710656 - s) (befI l) = true ∧ ∀ x ∈ l, x.e.cpu = cpu)
 | [], s => by simp [qbn, befI, qa3]
 | x :: t, s => by
  have ih := qe2 cpu t (s + x.before)
  show (_ && qbn cpu (s + x.before) t) = true ↔ (_ && qa3 (281474976710656 - s - x.before) (befI t)) = true ∧ _
  rw [Bool.and_eq_true, Bool.and_eq_true, ih, decide_eq_true_eq, decide_eq_true_eq, show (281474976710656 : Int) - (s + x.before) = 281474976710656 - s - x.before by omega]
  constructor
  ·rintro ⟨⟨h1, h2, h3⟩, h4, h5⟩
   exact ⟨⟨⟨h1, h2⟩, h4⟩, fun y hy => by rcases List.mem_cons.1 hy with rfl | hy; exact h3; exact h5 y hy⟩
  ·rintro ⟨⟨⟨h1, h2⟩, h4⟩, h5⟩
   exact ⟨⟨h1, h2, h5 x List.mem_cons_self⟩, h4, fun y hy => h5 y (List.mem_cons_of_mem _ hy)⟩
def qdu (cpu : Nat) (l : List It) (opn : Int) : Bool := decide (0 ≤ opn ∧ opn ≤ 281474976710656) && (qbn cpu opn l && decide ((rowR (evsI l)).2 = 0))
theorem qmi {cpu : Nat} {l : List It} {opn : Int} (hc : cpu < 64) (hok : ∀ x ∈ l, x.Ok) : qdu cpu l opn = zx cpu l opn := by
 rw [Bool.eq_iff_iff]
 constructor
 ·intro h
  unfold qdu at h
  simp only [Bool.and_eq_true, decide_eq_true_eq, qe2] at h
  obtain ⟨h1, ⟨h2, h3⟩, h4⟩ := h
  unfold zx
  simp only [Bool.and_eq_true, decide_eq_true_eq, qa3]
  refine ⟨h4, ⟨⟨h1.1, h1.2⟩, h2⟩, ?_⟩
  cases l with
  | nil => rfl
  | cons x r => exact decide_eq_true (h3 x List.mem_cons_self)
 ·intro h
  have hG := GoodI.of hc hok h
  unfold zx at h
  simp only [Bool.and_eq_true, decide_eq_true_eq, qa3] at h
  obtain ⟨h4, ⟨h1, h2⟩, h3⟩ := h
  unfold qdu
  simp only [Bool.and_eq_true, decide_eq_true_eq, qe2]
  refine ⟨h1, ⟨h2, fun x hx => ?_⟩, h4⟩
  obtain ⟨b, hb⟩ := hG.chain
  exact qfm _ _ _ hb _ (List.mem_map_of_mem hx)
theorem qq1 {cpu : Nat} {l : List It} {k : Nat} {s : Int} (d : It) (h : k < l.length) : qbn cpu s (l.drop k) = (decide (0 ≤ (l.getD k d).before ∧ (l.getD k d).before ≤ 281474976710656 - s ∧ (l.getD k d).e.cpu = cpu) && qbn cpu (s + (l.getD k d).before) (l.drop (k + 1))) := by
 rw [List.drop_eq_getElem_cons h, List.getD_eq_getElem?_getD, List.getElem?_eq_getElem h]
 rfl
theorem qjr {cpu : Nat} {l : List It} {opn : Int} (h : ¬(0 ≤ opn ∧ opn ≤ 281474976710656)) : qdu cpu l opn = false := by
 unfold qdu
 rw [decide_eq_false h, Bool.false_and]
theorem qia {cpu : Nat} {l : List It} {opn : Int} (h : qbn cpu opn l = false) : qdu cpu l opn = false := by
 unfold qdu
 rw [h, Bool.false_and, Bool.and_false]
theorem qty {cpu : Nat} {l : List It} {opn : Int} (h1 : 0 ≤ opn ∧ opn ≤ 281474976710656) (h2 : qbn cpu opn l = true) : qdu cpu l opn = decide ((rowR (evsI l)).2 = 0) := by
 unfold qdu
 rw [h2, decide_eq_true h1, Bool.true_and, Bool.true_and]
def It.zero : It := ⟨Ev.zero, 0⟩
theorem si_it : SI Tryz.prog 43 12 := ⟨by kernel_rfl, by kernel_rfl⟩
theorem ei_it : EI Tryz.prog 28 43 (.agg It.zero.cells) 12 88 := ⟨by kernel_rfl, by kernel_rfl, rfl, by omega⟩
theorem qpj : EI Tryz.prog 22 27 (.agg #[.int .u8 0, .int .u8 0, .int .i64 0, .int .i64 0, .slice none 0 0]) 5 48 := ⟨by kernel_rfl, by kernel_rfl, rfl, by omega⟩
theorem qtz : EI Tryz.prog 78 116 (.agg It.zero.cells) 12 88 := ⟨by kernel_rfl, by kernel_rfl, rfl, by omega⟩
theorem qib : EI Tryz.prog 64 48 (.agg #[.int .u8 0, .int .u8 0, .int .i64 0, .int .i64 0, .slice none 0 0]) 5 48 := ⟨by kernel_rfl, by kernel_rfl, rfl, by omega⟩
theorem qpk (x : It) : ∀ v ∈ x.cells.toList, v.oneCell' = true := by intro v hv; simp [It.cells] at hv; rcases hv with rfl | rfl | rfl | rfl | rfl | rfl | rfl | rfl | rfl | rfl | rfl | rfl <;> rfl
section
variable {P : Program} {S : World → Prop} {σ : List (Nat × Value)} {o : Oper}
theorem Yl.q0d {t e : TypeId} {z : Value} {size bytes : Nat} (ei : EI P t e z size bytes) {x lo hi mx : Operand} {A : Option Addr} {m c i j q : Nat} {k k' k2 : IntKind} (hop : o.op = .slice t x (some lo) (some hi) (some mx)) (hx : look σ x = some (.slice A m c)) (hl : look σ lo = some (.int k (i : Int))) (hh : look σ hi = some (.int k' (j : Int))) (hm : look σ mx = some (.int k2 (q : Int))) (hij : i ≤ j) (hj : j ≤ q) (hq : q ≤ c) :
  Yl P S σ o (.slice (if q = i then A else A.map (·.add (i * size))) (j - i) (q - i)) := fun a n D HF w hS => by
 obtain ⟨inf, hinf, _, hs, _⟩ := info_parts ei.hi
 have e1 : (Instr.sliceAt t (.slice A m c) (some (.int k (i : Int))) (some (.int k' (j : Int))) (some (.int k2 (q : Int)))).run P w = .ok (.slice (if q = i then A else A.map (·.add (i * size))) (j - i) (q - i)) w := by
  subst hs
  simp [Instr.sliceAt, run_underlying ei.ht, Instr.slice, Instr.sliceBounds, Instr.sliceBound, asIntOf, hij, hj, hq, sizeOf, typeInfo, hinf]
 unfold execOp
 simp only [hop, HF.eval hx, HF.eval hl, HF.eval hh, HF.eval hm, Option.map_some, Sem.run_bind, e1, Result.andThen_ok]
 rfl
end
theorem qmj {α : Type} (f : α → List Value) (sz : Nat) (hf : ∀ x, (f x).length = sz) : ∀ (l : List α) (k : Nat), (l.flatMap f).take (k * sz) = (l.take k).flatMap f
 | [], _ => by simp
 | _ :: _, 0 => by simp
 | x :: l, k + 1 => by
  rw [List.flatMap_cons, List.take_succ_cons, List.flatMap_cons, List.take_append, List.take_of_length_le (by rw [hf, Nat.succ_mul]; omega), hf, ← qmj f sz hf l k]
  congr 2
  rw [Nat.succ_mul]; omega
theorem qmk {α : Type} (f : α → List Value) (sz : Nat) (hf : ∀ x, (f x).length = sz) : ∀ (l : List α) (k : Nat), (l.flatMap f).drop (k * sz) = (l.drop k).flatMap f
 | [], _ => by simp
 | _ :: _, 0 => by simp
 | x :: l, k + 1 => by
  rw [List.flatMap_cons, List.drop_succ_cons, List.drop_append, List.drop_of_length_le (by rw [hf, Nat.succ_mul]; omega), hf, ← qmk f sz hf l k, List.nil_append]
  congr 1
  rw [Nat.succ_mul]; omega
theorem Rd.qva {α : Type} {f : α → List Value} {sz : Nat} (hf : ∀ x, (f x).length = sz) {w : World} {B k : Nat} {A : Option Addr} {l : List α} (h : Rd w B sz A l.length (l.flatMap f)) (hk : k ≤ l.length) : Rd w B sz A k ((l.take k).flatMap f) := by
 have h1 := h.upto hk
 rwa [qmj f sz hf] at h1
theorem Rd.q0e {α : Type} {f : α → List Value} {sz : Nat} (hf : ∀ x, (f x).length = sz) {w : World} {B k c : Nat} {A : Option Addr} {l : List α} (h : Rd w B sz A l.length (l.flatMap f)) (hk : k ≤ l.length) (hc : l.length ≤ c) : Rd w B sz (if c = k then A else A.map (·.add (k * sz))) (l.drop k).length ((l.drop k).flatMap f) := by
 have h1 := h.from hk hc
 rwa [qmk f sz hf, ← List.length_drop] at h1
theorem Rd.q0f {α : Type} {f : α → List Value} {size : Nat} (hf : ∀ x, (f x).length = size) {w : World} {B n g o : Nat} {l : List α} (h : Rd w B size (some ⟨g, o, none⟩) n (l.flatMap f)) {k j m : Nat} {x : α} {ys : List Value} (hk : l[k]? = some x) (hy : ((f x).drop j).take m = ys) : w.rangeAt g (o + k * size + j) ys := fun i u hu => by
 rw [← hy, List.getElem?_take] at hu
 split at hu
 ·rw [List.getElem?_drop] at hu
  have h1 := h.zt hf hk (j + i) u hu
  rwa [← Nat.add_assoc] at h1
 ·cases hu
theorem qdq {α : Type} {l : List α} {k : Nat} (d : α) (h : k < l.length) : l.take (k + 1) = l.take k ++ [l.getD k d] := by
 rw [List.take_succ_eq_append_getElem h, List.getD_eq_getElem?_getD, List.getElem?_eq_getElem h]
 rfl
theorem qgj {l : List It} {k : Nat} (h : k < l.length) : (evsI (l.take (k + 1))).flatMap evL = (evsI (l.take k)).flatMap evL ++ evL (l.getD k It.zero).e := by
 rw [qdq It.zero h]
 unfold evsI
 rw [List.map_append, List.flatMap_append]
 simp
theorem qq2 {l : List It} {k : Nat} (h : k < l.length) : (befI (l.take (k + 1))).map I64i = (befI (l.take k)).map I64i ++ [I64i (l.getD k It.zero).before] := by
 rw [qdq It.zero h]
 unfold befI
 rw [List.map_append, List.map_append]
 rfl
theorem qpl (l : List It) : (befI l).length = l.length := by unfold befI; rw [List.length_map]
theorem qt0 {l : List It} (h : ∀ x ∈ l, x.Ok) : ∀ e ∈ evsI l, e.Ok := fun e he => by
 unfold evsI at he
 obtain ⟨x, hx, rfl⟩ := List.mem_map.1 he
 exact (h x hx).e
theorem qwq (l : List Int) : ∀ v ∈ l.map I64i, v.oneCell' = true := by
 intro v hv
 obtain ⟨_, _, rfl⟩ := List.mem_map.1 hv
 rfl
theorem qeu {α : Type} {l : List α} {k : Nat} (d : α) (h : k < l.length) : l.drop k = l.getD k d :: l.drop (k + 1) := by
 rw [List.drop_eq_getElem_cons h, List.getD_eq_getElem?_getD, List.getElem?_eq_getElem h]
 rfl
theorem qt1 {xs : List Int} {k : Nat} {r : Int} (h : k < xs.length) : qa3 r (xs.drop k) = (decide (0 ≤ xs.getD k 0 ∧ xs.getD k 0 ≤ r) && qa3 (r - xs.getD k 0) (xs.drop (k + 1))) := by
 rw [qeu 0 h, qa3]
theorem qq3 {cpu : Nat} {l : List It} (h : 0 < l.length) : cpuOk cpu l = decide ((l.getD 0 It.zero).e.cpu = cpu) := by
 cases l with
 | nil => cases h
 | cons x r => rfl
theorem qt2 {cpu : Nat} {l : List It} (h : l.length = 0) : cpuOk cpu l = true := by
 cases l with
 | nil => rfl
 | cons x r => cases h
theorem qoa {cpu : Nat} {l : List It} {opn : Int} (h : (rowR (evsI l)).2 ≠ 0) : zx cpu l opn = false := by
 unfold zx
 rw [decide_eq_false h, Bool.false_and]
theorem qgw {cpu : Nat} {l : List It} {opn : Int} (h : qa3 qd7 (opn :: befI l) = false) : zx cpu l opn = false := by
 unfold zx
 rw [h, Bool.false_and, Bool.and_false]
theorem qjs {cpu : Nat} {l : List It} {opn : Int} (h1 : (rowR (evsI l)).2 = 0) (h2 : qa3 qd7 (opn :: befI l) = true) : zx cpu l opn = cpuOk cpu l := by
 unfold zx
 rw [h2, decide_eq_true h1, Bool.true_and, Bool.true_and]
theorem qic {l : List It} {k j : Nat} (hj : j < k) (hk : k ≤ l.length) : sumI (befI (l.take (j + 1))) = sumI (befI (l.take j)) + (befI (l.take k)).getD j 0 := by
 rw [qdq It.zero (by omega : j < l.length)]
 unfold befI
 rw [List.map_append, qg4]
 have h1 : (List.map It.before (l.take k)).getD j 0 = (l.getD j It.zero).before := by
  rw [List.getD_eq_getElem?_getD, List.getElem?_map, List.getElem?_take, if_pos hj, List.getD_eq_getElem?_getD, List.getElem?_eq_getElem (by omega)]
  rfl
 rw [h1]
 simp [sumI]
theorem qt3 {l : List It} {j : Nat} (hj : j < l.length) : sumI (befI (l.take (j + 1))) = sumI (befI (l.take j)) + (l.getD j It.zero).before := by
 rw [qdq It.zero hj]
 unfold befI
 rw [List.map_append, qg4]
 simp [sumI]
theorem GoodI.part {cpu : Nat} {l : List It} {opn : Int} (h : GoodI cpu l opn) (j : Nat) : 0 ≤ sumI (befI (l.take j)) ∧ sumI (befI (l.take j)) + opn ≤ 281474976710656 := by
 have h1 := qgh l j
 have h2 := qct (l := l.take j) (fun x hx => h.bef x (List.mem_of_mem_take hx))
 have h3 := qct (l := l.drop j) (fun x hx => h.bef x (List.mem_of_mem_drop hx))
 have h4 := h.sum
 omega
theorem qfq {cpu : Nat} {l : List It} {opn : Int} {k : Nat} (hk : k ≤ l.length) {lo : Int} (hlo : lo = (ofB cpu l opn k).lost) (A : Option Addr) (c : Nat) : #[.int .u8 1, .int .u8 (cpu : Int), .int .i64 lo, .int .i64 0, .slice A k c] = (ofB cpu l opn k).cells A c := by
 subst hlo
 unfold Bk.cells
 rw [qbw hk]
 rfl
theorem qt4 {cpu : Nat} {l : List It} {opn : Int} {k : Nat} (h : k = l.length) : (ofB cpu l opn k).lost = sumI (befI (l.take k)) + opn := by
 show _ + (if k = l.length then opn else 0) = _
 rw [if_pos h]
theorem qt5 {cpu : Nat} {l : List It} {opn : Int} {k : Nat} (h : k ≠ l.length) : (ofB cpu l opn k).lost = sumI (befI (l.take k)) := by
 show _ + (if k = l.length then opn else 0) = _
 rw [if_neg h, Int.add_zero]
end Go.Proofs.YtfeheccoijnbaaaGreatDoor
namespace Go.Proofs.YtfeheccoijnbaaaGreatDoor
open Go.RowKit Go.ChangeShapes Go.WideShapes Go.ChangeAt
section
variable {H : Type} {enc : TypeId × Value → H} {P : Program} {W : World} {sp : Nat → Bool} {held : Bool}
theorem flat_get {sz : Nat} : ∀ (css : List (List Value)), (∀ l ∈ css, l.length = sz) → ∀ p u, (css.flatMap id)[p]? = some u → ∃ i j, ∃ hi : i < css.length, j < sz ∧ p = i * sz + j ∧ css[i][j]? = some u := by
 intro css
 induction css with
 | nil => intro _ p u h; simp at h
 | cons l r ih =>
  intro h p u hu
  have hll := h l (by simp)
  rw [List.flatMap_cons] at hu
  by_cases hp : p < sz
  ·rw [List.getElem?_append_left (by simp only [id]; omega)] at hu
   exact ⟨0, p, by simp, hp, by omega, hu⟩
  ·rw [List.getElem?_append_right (by simp only [id]; omega)] at hu
   simp only [id] at hu
   rw [hll] at hu
   obtain ⟨i, j, hi, hj, hpj, hu'⟩ := ih (fun y hy => h y (by simp [hy])) _ u hu
   exact ⟨i + 1, j, by simp; omega, hj, by rw [Nat.succ_mul]; omega, by simpa using hu'⟩
theorem qt6 {sz : Nat} : ∀ (css : List (List Value)), (∀ l ∈ css, l.length = sz) → (css.flatMap id).length = css.length * sz := by
 intro css
 induction css with
 | nil => simp
 | cons l r ih => intro h; rw [List.flatMap_cons, List.length_append, ih (fun y hy => h y (by simp [hy])), List.length_cons, Nat.succ_mul]; have := h l (by simp); simp only [id]; omega
theorem qgk {α : Type} (f : α → List Value) (Ok : α → Prop) {t e : TypeId} {sz : Nat} (ht : P.underlying t = some (.slice e)) (hsz : P.cellsOf e = sz) (h0 : 0 < sz) (hf : ∀ x, (f x).length = sz)
  (hE : ∀ m l y, DataW.trod enc P W 0 sp held m e l = some y → ∃ x, f x = l ∧ Ok x) {fuel : Nat} {cs : List Value} {x : DataW H × List MemPlace} (h : DataW.trod enc P W 0 sp held fuel t cs = some x) :
  ∃ (A : Option Addr) (c : Nat) (l : List α), cs = [.slice A l.length c] ∧ l.length ≤ c ∧ c ≤ maxLen ∧ (∀ x ∈ l, Ok x) ∧ Rd W W.heap.size sz A l.length (l.flatMap f) := by
 rcases DataW.trod_slice ht h with ⟨hc, _⟩ | ⟨a, len, cap, elems, rest, m, _, hc, _, _, hl, hm, hlen, hel, _⟩
 ·exact ⟨none, 0, [], hc, Nat.le_refl _, by unfold maxLen; omega, by simp, Rd.nil⟩
 ·have hall : ∀ i, i < len → ∃ x : α, W.cells? 0 (a.add (i * sz)) sz = some (f x) ∧ Ok x := by
   intro i hi
   have h1 := hel i hi
   rw [hsz, List.getElem?_eq_getElem (by omega : i < elems.length)] at h1
   obtain ⟨l, h2, h3⟩ := Option.bind_eq_some_iff.1 h1
   obtain ⟨x, rfl, hx⟩ := hE _ _ _ h3
   exact ⟨x, h2, hx⟩
  have key : ∀ k, k ≤ len → ∃ xs : List α, xs.length = k ∧ ∀ i (hi : i < xs.length), W.cells? 0 (a.add (i * sz)) sz = some (f xs[i]) ∧ Ok xs[i] := by
   intro k
   induction k with
   | zero => intro _; exact ⟨[], rfl, fun i hi => by simp at hi⟩
   | succ k ih =>
    intro hk
    obtain ⟨xs, h1, h2⟩ := ih (by omega)
    obtain ⟨x, h3, h4⟩ := hall k (by omega)
    refine ⟨xs ++ [x], by simp [h1], fun i hi => ?_⟩
    by_cases hik : i < xs.length
    ·rw [List.getElem_append_left hik]; exact h2 i hik
    ·obtain rfl : i = xs.length := by simp at hi; omega
     rw [List.getElem_append_right (Nat.le_refl _)]
     simp only [Nat.sub_self, List.getElem_cons_zero, h1]
     exact ⟨h3, h4⟩
  obtain ⟨xs, h1, h2⟩ := key len (Nat.le_refl _)
  have hfm : xs.flatMap f = (xs.map f).flatMap id := by rw [List.flatMap_map]; rfl
  have hll : ∀ l ∈ xs.map f, l.length = sz := fun l hl' => by obtain ⟨x, _, rfl⟩ := List.mem_map.1 hl'; exact hf x
  have hat : ∀ i (hi : i < xs.length) j, j < sz → W.cell? (a.add (i * sz + j)) = (f xs[i])[j]? := by
   intro i hi j hj
   have := (World.cells?_some (h2 i hi).1).2.2 j hj
   rwa [qg6] at this
  refine ⟨some a, cap, xs, by rw [hc, h1], by omega, hm, fun x hx => by obtain ⟨i, hi, rfl⟩ := List.getElem_of_mem hx; exact (h2 i hi).2, ⟨by rw [hfm, qt6 _ hll, List.length_map], fun hn => ⟨a, rfl, ?_, ?_⟩⟩⟩
  ·have h3 := hat 0 hn 0 h0
   have h4 := hf xs[0]
   rw [List.getElem?_eq_getElem (by omega)] at h3
   have := World.block_lt_of_cell? W _ h3
   simpa [Addr.add] using this
  ·intro p u hu
   rw [hfm] at hu
   obtain ⟨i, j, hi, hj, rfl, hu'⟩ := flat_get _ hll p u hu
   rw [List.length_map] at hi
   rw [hat i hi j hj, ← hu', List.getElem_map]
end
section
variable {H : Type} {enc : TypeId × Value → H} {W : World} {b0 : Nat} {v : Value} {d : DataW H} {p : List MemPlace}
theorem it_f0 : fieldAt Tryz.prog 43 0 0 41 = true := by kernel_rfl
theorem it_f1 : fieldAt Tryz.prog 43 1 11 3 = true := by kernel_rfl
theorem qpm : Tryz.prog.cellsOf 43 = 12 := by kernel_rfl
theorem qwr : Tryz.prog.cellsOf 41 = 11 := by kernel_rfl
theorem qt7 : Tryz.prog.underlying 28 = some (.slice 43) := by kernel_rfl
theorem qq4 {fuel : Nat} {cs : List Value} {x : DataW H × List MemPlace} (hf : DataW.trod enc Tryz.prog W 0 (fun _ => true) true fuel 41 cs = some x) : ∃ e : Ev, evL e = cs ∧ e.Ok := by
 obtain ⟨h1, h2⟩ := qhh qlq hf
 exact qlp h1 h2
theorem qt8 {fuel : Nat} {cs : List Value} {x : DataW H × List MemPlace} (hf : DataW.trod enc Tryz.prog W 0 (fun _ => true) true fuel 43 cs = some x) : ∃ e : It, itL e = cs ∧ e.Ok := by
 obtain ⟨hl, _, y0, g0⟩ := zq it_f0 hf
 obtain ⟨_, _, y1, g1⟩ := zq it_f1 hf
 obtain ⟨e, he, hok⟩ := qq4 g0
 obtain ⟨n, e1, _, w1⟩ := DataW.trod_int qf6 g1
 rw [qpm] at hl
 rw [qhk] at e1
 rw [qwr] at he
 have a1 := qab e1
 refine ⟨⟨e, n⟩, ?_, ⟨hok, qcx w1⟩⟩
 have h3 : cs = (cs.drop 0).take 11 ++ [Value.int .i64 n] := by
  refine List.ext_getElem? fun i => ?_
  by_cases hi : i < 11
  ·rw [List.getElem?_append_left (by simp; omega), List.drop_zero, List.getElem?_take, if_pos hi]
  ·by_cases h11 : i = 11
   ·subst h11
    rw [List.getElem?_append_right (by simp; omega), a1]
    simp [hl]
   ·rw [List.getElem?_eq_none (by omega), List.getElem?_eq_none (by simp; omega)]
 rw [h3, ← he]
 rfl
theorem qq5 {fuel : Nat} {cs : List Value} {x : DataW H × List MemPlace} (hf : DataW.trod enc Tryz.prog W 0 (fun _ => true) true fuel 28 cs = some x) :
  ∃ (A : Option Addr) (c : Nat) (l : List It), cs = [.slice A l.length c] ∧ l.length ≤ c ∧ c ≤ maxLen ∧ (∀ x ∈ l, x.Ok) ∧ Rd W W.heap.size 12 A l.length (l.flatMap itL) :=
 qgk itL It.Ok qt7 qpm (by decide) qaq (fun _ _ _ h => qt8 h) hf
end
end Go.Proofs.YtfeheccoijnbaaaGreatDoor
namespace Go.Proofs.YtfeheccoijnbaaaGreatDoor
open Go.RowKit
def zj : Nat → List Nat → List Bk × Nat × Nat
 | 0, _ => ([], 0, 0)
 | f + 1, l => if l.length = 0 then ([], 0, 0) else
  if (readB l).2.2 ≠ 0 then ([], 0, (readB l).2.2) else
   ((readB l).1 :: (zj f (l.drop (readB l).2.1)).1, (readB l).2.1 + (zj f (l.drop (readB l).2.1)).2.1, (zj f (l.drop (readB l).2.1)).2.2)
def qgx (l : List Nat) : List Bk × Nat × Nat := if 524288 < l.length then ([], 0, 3) else zj l.length l
theorem qod {f : Nat} {l : List Nat} (h : l.length = 0) : zj f l = ([], 0, 0) := by
 cases f with
 | zero => rfl
 | succ f => rw [zj, if_pos h]
theorem qoe {f : Nat} {l : List Nat} {b : Bk} {m er : Nat} (hf : 0 < f) (h : 0 < l.length) (hq : readB l = (b, m, er)) (he : er ≠ 0) : zj f l = ([], 0, er) := by
 cases f with
 | zero => omega
 | succ f => rw [zj, if_neg (by omega), if_pos (by rw [hq]; exact he), hq]
theorem qmq {f : Nat} {l : List Nat} {b : Bk} {m : Nat} (hf : 0 < f) (h : 0 < l.length) (hq : readB l = (b, m, 0)) : zj f l = (b :: (zj (f - 1) (l.drop m)).1, m + (zj (f - 1) (l.drop m)).2.1, (zj (f - 1) (l.drop m)).2.2) := by
 cases f with
 | zero => omega
 | succ f => rw [zj, if_neg (by omega), if_neg (by rw [hq]; exact fun h => h rfl), hq]; rfl
def qjt (W : World) (lp : Nat) (Inv : List Nat → List Fact → Prop) (Stop : List Fact → Prop) : Prop :=
 ∀ (rest : List Nat) (F fr : List Fact) (w : World) (A : Option Addr) (c : Nat) (b : Bk) (m er : Nat), Inv rest F → readB rest = (b, m, er) → 0 < rest.length → (∀ x ∈ rest, x < 256) → b.evs.length ≤ c → Mem W w (.row (.slice A b.evs.length c) b.evs.length (b.evs.flatMap evL) 41 11 :: (F ++ fr)) →
  YieldAt Fence.wide 0 Tryz.prog lp #[.agg #[.int .u8 (b.kind : Int), .int .u8 (b.cpu : Int), .int .i64 b.lost, .int .i64 b.next, .slice A b.evs.length c, .int .i64 (m : Int)], .int .i64 (er : Int)] w fun e w' => ∃ F', Mem W w' (F' ++ fr) ∧ ((er = 0 ∧ e = .returned (.bool true) ∧ Inv (rest.drop m) F') ∨ (er ≠ 0 ∧ e = .returned (.bool false) ∧ Stop F'))
def qub (W : World) (Inv : List Nat → List Fact → Prop) (Stop : List Fact → Prop) (r : Ending) (w' : World) : Prop := ∃ v, r = .returned v ∧ ∃ F', Mem W w' F' ∧ (Inv [] F' ∨ Stop F')
theorem qi1 {W : World} {fr : List Fact} {er : Nat} {I S : List Fact → Prop} : ∀ (e : Ending) (w' : World), (∃ F', Mem W w' (F' ++ fr) ∧ ((er = 0 ∧ e = .returned (.bool true) ∧ I F') ∨ (er ≠ 0 ∧ e = .returned (.bool false) ∧ S F'))) → ∃ v, e = .returned v
 | _, _, ⟨_, _, .inl ⟨_, h, _⟩⟩ => ⟨_, h⟩
 | _, _, ⟨_, _, .inr ⟨_, h, _⟩⟩ => ⟨_, h⟩
theorem Rd.q0k {w : World} {B k c : Nat} {A : Option Addr} {l : List Nat} (h : Rd w B 1 A l.length (l.map B8)) (hk : k ≤ l.length) (hc : l.length ≤ c) : Rd w B 1 (if c = k then A else A.map (·.add (k * 1))) (l.drop k).length ((l.drop k).map B8) := by
 rw [List.length_drop]
 exact h.qqd hk hc
theorem qeo (A : Option Addr) (n c : Nat) (l : List It) (w : World) (hr : Rd w w.heap.size 12 A n (l.flatMap itL)) (hln : l.length = n) (hn : n ≤ 1000000) :
    Calls Tryz.prog 45 #[.slice A n c] w fun r w' => (∃ A c, r = .returned (.slice A n c) ∧ w'.ownsRow w.heap.size 41 11 (.slice A n c) n ((evsI l).flatMap evL) ∧ n ≤ c) ∧ Below w.heap.size w w' := by
 refine qg (vs := [.slice A n c]) Tryz.func45 rfl rfl (by kernel_rfl) (σ0 := [(0, .slice A n c)]) rfl ?_
 intro a HF
 have HM := Mem.start w
 refine wp_seq (qa ?_)
 refine fp HF 1 0 [(2, .slice none 0 0)] fun a HF => ?_
 refine qb rfl (wp_seq (qa ?_))
 refine fp HF 1 0 [(3, .slice none 0 0)] fun a HF => ?_
 refine qb rfl ?_
 replace HM := HM.nil 41 11
 refine wp_seq (wp_seq (qa ?_))
 refine fp HF 1 0 [(6, .slice A n c)] fun a HF => ?_
 refine fy HF HM 1 rfl rfl rfl (Yl.len rfl rfl (by kernel_rfl)) fun a HF => ?_
 refine fp HF 1 2 [(8, vI 0)] fun a HF => ?_
 refine qb rfl (wp_block ?_)
 refine qs (fun mS aS wS => ∃ (k : Nat) (Ak : Option Addr) (ck : Nat), (k ≤ n) ∧ (k ≤ ck) ∧ mS = n - k ∧ Fr aS 19 [] [(8, vI k), (7, vI n), (6, .slice A n c), (3, .slice Ak k ck), (2, .slice none 0 0)] ∧ Mem w wS [.row (.slice Ak k ck) k ((evsI (l.take k)).flatMap evL) 41 11]) (m := n - 0) ⟨0, none, 0, Nat.zero_le _, Nat.le_refl _, rfl, HF.sub (by kernel_rfl), HM.picks [0] (by decide) rfl⟩ ?_
 clear HF HM; rintro mS a w_ ⟨k, Ak, ck, hk, hck, rfl, HF, HM⟩
 refine wp_seq (qa ?_)
 refine fp HF 1 0 [(9, .bool (decide ((k : Int) < (n : Int))))] fun a HF => ?_
 refine qb rfl (wp_seq ?_)
 rcases HF.tf 9 rfl with ⟨hb9, HF⟩ | ⟨hb9, HF⟩
 ·
  have hd9 := of_decide_eq_true hb9
  have hk9 : k < n := by omega
  refine qe HF rfl (wp_skip (wp_seq (wp_block (wp_seq (qa ?_)))))
  obtain ⟨gA, oA, rfl, _⟩ := hr.qy (Nat.lt_of_le_of_lt (Nat.zero_le _) (show k < n from by omega)) (by decide)
  refine fy HF HM 0 rfl rfl rfl (v := vP gA (oA + k * 12)) (Yl.ix gA oA k 12 rfl rfl rfl) fun a HF => ?_
  refine fy HF HM 1 rfl rfl rfl (v := .agg ((l.getD k It.zero).cells)) (Yl.zc rfl rfl si_it rfl (fun _ h => (h.old hr).zt qaq ((getD_at It.zero (k := k) (by first | omega | (simp; omega)))))) fun a HF => ?_
  refine fo HF 2 rfl rfl ?_
  refine qt HF HM (cs := #[vI 0, vI 0, vB 0, vB 0, vI 0, vI 0, vI 0, vI 0, vI 0, vQ 0, vI 0, vI 0]) rfl (by kernel_rfl) rfl (by decide) ?_
  clear HF HM; intro a w5 g5 HF HM
  refine fo HF 3 rfl rfl ?_
  refine e_sa HF HM 0 rfl rfl rfl rfl rfl si_it rfl rfl (qpk (l.getD k It.zero)) ?_
  clear HM; intro w4_3 HM
  refine qb rfl (qa ?_)
  refine fp HF 2 0 [(13, vP g5 0), (12, .slice Ak k ck)] fun a HF => ?_
  refine fy HF HM 2 rfl rfl rfl (v := .agg #[vI ((l.getD k It.zero).e.seq), vI ((l.getD k It.zero).e.time), vB ((l.getD k It.zero).e.cpu), vB ((l.getD k It.zero).e.kind), vI ((l.getD k It.zero).e.task), vI ((l.getD k It.zero).e.group), vI ((l.getD k It.zero).e.to), vI ((l.getD k It.zero).e.weight), vI ((l.getD k It.zero).e.ticks), vQ ((l.getD k It.zero).e.mask), vI ((l.getD k It.zero).e.got)]) (Yl.zc rfl rfl ⟨(by kernel_rfl), (by kernel_rfl)⟩ rfl (fun _ h => h.sub (i := 0) rfl 0 rfl)) fun a HF => ?_
  refine fo HF 3 rfl rfl ?_
  refine ze HF HM (vs := [(0, .agg #[vI ((l.getD k It.zero).e.seq), vI ((l.getD k It.zero).e.time), vB ((l.getD k It.zero).e.cpu), vB ((l.getD k It.zero).e.kind), vI ((l.getD k It.zero).e.task), vI ((l.getD k It.zero).e.group), vI ((l.getD k It.zero).e.to), vI ((l.getD k It.zero).e.weight), vI ((l.getD k It.zero).e.ticks), vQ ((l.getD k It.zero).e.mask), vI ((l.getD k It.zero).e.got)])]) (cs := #[vI ((l.getD k It.zero).e.seq), vI ((l.getD k It.zero).e.time), vB ((l.getD k It.zero).e.cpu), vB ((l.getD k It.zero).e.kind), vI ((l.getD k It.zero).e.task), vI ((l.getD k It.zero).e.group), vI ((l.getD k It.zero).e.to), vI ((l.getD k It.zero).e.weight), vI ((l.getD k It.zero).e.ticks), vQ ((l.getD k It.zero).e.mask), vI ((l.getD k It.zero).e.got)]) rfl ei_ev (by decide) rfl (by kernel_rfl) rfl (by decide) ?_
  clear HF HM; intro a w15 g15 HF HM
  refine fo HF 4 rfl rfl ?_
  refine qu HF HM (i := 2) rfl ei_ev rfl rfl rfl (news := (evL (l.getD k It.zero).e)) (HM.rdBlk (i := 0) (n := 1) (size := 11) rfl rfl) (qan _) (by omega) (by omega) rfl (by decide) ?_
  clear HF HM; intro a w16 A16 c16 HF HM hc16
  rw [show ((evsI (l.take k)).flatMap evL) ++ (evL (l.getD k It.zero).e) = ((evsI (l.take (k + 1))).flatMap evL) from by rw [qgj (by omega)]] at HM
  refine fp HF 1 5 [(3, .slice A16 (k + 1) c16)] fun a HF => ?_
  refine qb rfl (qa ?_)
  refine fp HF 1 0 [(17, vI (IntKind.i64.wrap ((k : Int) + 1)))] fun a HF => ?_
  replace HF := HF.sp 17 (vI (k + 1 : Nat)) rfl (qi (by omega) (by omega))
  refine fp HF 1 1 [(8, vI (k + 1 : Nat))] fun a HF => ?_
  refine qb rfl ?_
  exact ⟨_, (by omega), k + 1, A16, c16, by omega, hc16, rfl, HF.sub (by kernel_rfl), HM.picks [2] (by decide) rfl⟩
 have hd9 := of_decide_eq_false hb9
 have hkn : k = n := by omega
 refine qd HF rfl (wp_exit (wp_seq (qa ?_)))
 refine fp HF 2 0 [(2, .slice Ak k ck)] fun a HF => ?_
 refine qb rfl (wp_ret ?_)
 exact ret1 rfl HF (.tmp HF rfl) (⟨⟨Ak, ck, by rw [hkn], by have h := HM.own (i := 0) rfl; rw [hkn, List.take_of_length_le (by omega)] at h; exact h, by omega⟩, HM.below⟩)
theorem qj9 (A : Option Addr) (n c : Nat) (l : List It) (w : World) (hr : Rd w w.heap.size 12 A n (l.flatMap itL)) (hln : l.length = n) (hn : n ≤ 1000000) :
    Calls Tryz.prog 46 #[.slice A n c] w fun r w' => (∃ A c, r = .returned (.slice A n c) ∧ w'.ownsRow w.heap.size 3 1 (.slice A n c) n ((befI l).map I64i) ∧ n ≤ c) ∧ Below w.heap.size w w' := by
 refine qg (vs := [.slice A n c]) Tryz.func46 rfl rfl (by kernel_rfl) (σ0 := [(0, .slice A n c)]) rfl ?_
 intro a HF
 have HM := Mem.start w
 refine wp_seq (qa ?_)
 refine fp HF 1 0 [(2, .slice none 0 0)] fun a HF => ?_
 refine qb rfl (wp_seq (qa ?_))
 refine fp HF 1 0 [(3, .slice none 0 0)] fun a HF => ?_
 refine qb rfl ?_
 replace HM := HM.nil 3 1
 refine wp_seq (wp_seq (qa ?_))
 refine fp HF 1 0 [(6, .slice A n c)] fun a HF => ?_
 refine fy HF HM 1 rfl rfl rfl (Yl.len rfl rfl (by kernel_rfl)) fun a HF => ?_
 refine fp HF 1 2 [(8, vI 0)] fun a HF => ?_
 refine qb rfl (wp_block ?_)
 refine qs (fun mS aS wS => ∃ (k : Nat) (Ak : Option Addr) (ck : Nat), (k ≤ n) ∧ (k ≤ ck) ∧ mS = n - k ∧ Fr aS 19 [] [(8, vI k), (7, vI n), (6, .slice A n c), (3, .slice Ak k ck), (2, .slice none 0 0)] ∧ Mem w wS [.row (.slice Ak k ck) k ((befI (l.take k)).map I64i) 3 1]) (m := n - 0) ⟨0, none, 0, Nat.zero_le _, Nat.le_refl _, rfl, HF.sub (by kernel_rfl), HM.picks [0] (by decide) rfl⟩ ?_
 clear HF HM; rintro mS a w_ ⟨k, Ak, ck, hk, hck, rfl, HF, HM⟩
 refine wp_seq (qa ?_)
 refine fp HF 1 0 [(9, .bool (decide ((k : Int) < (n : Int))))] fun a HF => ?_
 refine qb rfl (wp_seq ?_)
 rcases HF.tf 9 rfl with ⟨hb9, HF⟩ | ⟨hb9, HF⟩
 ·
  have hd9 := of_decide_eq_true hb9
  have hk9 : k < n := by omega
  refine qe HF rfl (wp_skip (wp_seq (wp_block (wp_seq (qa ?_)))))
  obtain ⟨gA, oA, rfl, _⟩ := hr.qy (Nat.lt_of_le_of_lt (Nat.zero_le _) (show k < n from by omega)) (by decide)
  refine fy HF HM 0 rfl rfl rfl (v := vP gA (oA + k * 12)) (Yl.ix gA oA k 12 rfl rfl rfl) fun a HF => ?_
  refine fy HF HM 1 rfl rfl rfl (v := .agg ((l.getD k It.zero).cells)) (Yl.zc rfl rfl si_it rfl (fun _ h => (h.old hr).zt qaq ((getD_at It.zero (k := k) (by first | omega | (simp; omega)))))) fun a HF => ?_
  refine fo HF 2 rfl rfl ?_
  refine qt HF HM (cs := #[vI 0, vI 0, vB 0, vB 0, vI 0, vI 0, vI 0, vI 0, vI 0, vQ 0, vI 0, vI 0]) rfl (by kernel_rfl) rfl (by decide) ?_
  clear HF HM; intro a w5 g5 HF HM
  refine fo HF 3 rfl rfl ?_
  refine e_sa HF HM 0 rfl rfl rfl rfl rfl si_it rfl rfl (qpk (l.getD k It.zero)) ?_
  clear HM; intro w4_3 HM
  refine qb rfl (qa ?_)
  refine fp HF 2 0 [(13, vP g5 11), (12, .slice Ak k ck)] fun a HF => ?_
  refine fy HF HM 2 rfl rfl rfl (v := vI ((l.getD k It.zero).before)) (Yl.qh rfl rfl (by kernel_rfl) (fun _ h => h.cell (i := 0) rfl (rfl))) fun a HF => ?_
  refine fo HF 3 rfl rfl ?_
  refine ze HF HM (vs := [(0, vI ((l.getD k It.zero).before))]) (cs := #[vI ((l.getD k It.zero).before)]) rfl qow (by decide) rfl (by kernel_rfl) rfl (by decide) ?_
  clear HF HM; intro a w15 g15 HF HM
  refine fo HF 4 rfl rfl ?_
  refine qu HF HM (i := 2) rfl qow rfl rfl rfl (news := [I64i (l.getD k It.zero).before]) (HM.rdBlk (i := 0) (n := 1) (size := 1) rfl rfl) (by intro v hv; simp at hv; subst hv; rfl) (by omega) (by omega) rfl (by decide) ?_
  clear HF HM; intro a w16 A16 c16 HF HM hc16
  rw [show ((befI (l.take k)).map I64i) ++ [I64i (l.getD k It.zero).before] = ((befI (l.take (k + 1))).map I64i) from by rw [qq2 (by omega)]] at HM
  refine fp HF 1 5 [(3, .slice A16 (k + 1) c16)] fun a HF => ?_
  refine qb rfl (qa ?_)
  refine fp HF 1 0 [(17, vI (IntKind.i64.wrap ((k : Int) + 1)))] fun a HF => ?_
  replace HF := HF.sp 17 (vI (k + 1 : Nat)) rfl (qi (by omega) (by omega))
  refine fp HF 1 1 [(8, vI (k + 1 : Nat))] fun a HF => ?_
  refine qb rfl ?_
  exact ⟨_, (by omega), k + 1, A16, c16, by omega, hc16, rfl, HF.sub (by kernel_rfl), HM.picks [2] (by decide) rfl⟩
 have hd9 := of_decide_eq_false hb9
 have hkn : k = n := by omega
 refine qd HF rfl (wp_exit (wp_seq (qa ?_)))
 refine fp HF 2 0 [(2, .slice Ak k ck)] fun a HF => ?_
 refine qb rfl (wp_ret ?_)
 exact ret1 rfl HF (.tmp HF rfl) (⟨⟨Ak, ck, by rw [hkn], by have h := HM.own (i := 0) rfl; rw [hkn, List.take_of_length_le (by omega)] at h; exact h, by omega⟩, HM.below⟩)
theorem qor (cpu : Nat) (A : Option Addr) (n c : Nat) (l : List It) (opn : Int) (hok : ∀ x ∈ l, x.Ok) (ho : I64 opn) (B : Nat) (w : World) (hL : LaidX B w) (hB : B ≤ w.heap.size) (hr : Rd w w.heap.size 12 A n (l.flatMap itL)) (hln : l.length = n) (hn : n ≤ 1000000) :
    Calls Tryz.prog 43 #[.int .u8 (cpu : Int), .slice A n c, .int .i64 opn] w (Is w (.bool (zx cpu l opn))) := by
 refine qg (vs := [vB cpu, .slice A n c, vI opn]) Tryz.func43 rfl rfl (by kernel_rfl) (σ0 := [(0, vB cpu), (1, .slice A n c), (2, vI opn)]) rfl ?_
 intro a HF
 have HM := Mem.start w
 refine wp_seq (qa ?_)
 refine fp HF 1 0 [(6, .bool false)] fun a HF => ?_
 refine qb rfl (wp_seq (wp_seq (qa ?_)))
 refine fp HF 1 0 [(13, .slice A n c)] fun a HF => ?_
 refine fo HF 1 rfl rfl ?_
 refine e_cl HF [.slice A n c] rfl rfl (qeo A n c l _ (HM.old hr) (hln) (by omega)) ?_
 rintro _ w14 ⟨⟨A14, c14, rfl, ho, hc14⟩, hbw⟩
 refine ⟨_, rfl, ?_⟩
 replace HM := HM.callRow hbw ho
 clear HF; intro a HF
 refine fo HF 2 rfl rfl ?_
 refine e_cl HF [.slice A14 n c14] rfl rfl (qxh A14 n c14 (evsI l) (qt0 hok) B _ (hL.mem HM hB).laid (HM.le hB) (HM.rd (i := 0) rfl) (by omega) (i := (rowR (evsI l)).1) (er := (rowR (evsI l)).2) rfl) ?_
 rintro _ w15 ⟨rfl, hbw⟩
 refine ⟨_, rfl, ?_⟩
 replace HM := HM.call hbw
 clear HF; intro a HF
 refine fp HF 5 3 [(8, vI ((rowR (evsI l)).2))] fun a HF => ?_
 refine qb rfl (wp_seq (qa ?_))
 refine fp HF 2 0 [(19, .bool (((rowR (evsI l)).2 : Int) != (0 : Int)))] fun a HF => ?_
 refine qb rfl ?_
 rcases HF.tf 19 rfl with ⟨hb19, HF⟩ | ⟨hb19, HF⟩
 ·
  have hd19 := bne_iff_ne.1 hb19
  refine qe HF rfl (wp_seq (qa ?_))
  refine fp HF 1 0 [(6, .bool false)] fun a HF => ?_
  refine qb rfl (wp_ret ?_)
  replace HM := HM.picks (fs' := []) [] (by decide) rfl
  exact ret1 rfl HF (.tmp HF rfl) (⟨by rw [qoa (by omega)], HM.below⟩)
 have hd19 := bne_eq_false_iff_eq.1 hb19
 refine qd HF rfl (wp_skip (wp_seq (qa ?_)))
 refine fp HF 1 0 [(9, vI 281474976710656)] fun a HF => ?_
 refine qb rfl (wp_seq (wp_seq (qa ?_)))
 refine fp HF 1 0 [(20, vI opn)] fun a HF => ?_
 refine fo HF 1 rfl rfl ?_
 refine ze HF HM (vs := [(0, vI opn)]) (cs := #[vI opn]) rfl qow (by decide) rfl (by kernel_rfl) rfl (by decide) ?_
 clear HF HM; intro a w21 g21 HF HM
 refine fp HF 1 2 [(22, .slice A n c)] fun a HF => ?_
 refine fo HF 3 rfl rfl ?_
 refine e_cl HF [.slice A n c] rfl rfl (qj9 A n c l _ (HM.old hr) (hln) (by omega)) ?_
 rintro _ w23 ⟨⟨A23, c23, rfl, ho, hc23⟩, hbw⟩
 refine ⟨_, rfl, ?_⟩
 replace HM := HM.callRow hbw ho
 clear HF; intro a HF
 refine fo HF 4 rfl rfl ?_
 replace HM := HM.blkRow (i := 1) (n := 1) (size := 1) rfl rfl (by decide)
 refine qu HF HM (i := 1) rfl qow rfl rfl rfl (news := ((befI l).map I64i)) (HM.rd (i := 0) rfl) (qwq _) (by omega) (by omega) rfl (by decide) ?_
 clear HF HM; intro a w24 A24 c24 HF HM hc24
 rw [show ((#[vI opn]).toList) ++ ((befI l).map I64i) = (opn :: befI l).map I64i from rfl] at HM
 refine fy HF HM 5 rfl rfl rfl (Yl.len rfl rfl (by kernel_rfl)) fun a HF => ?_
 refine fp HF 1 6 [(26, vI 0)] fun a HF => ?_
 refine qb rfl ?_
 have hxl : (opn :: befI l).length = 1 + n := by rw [List.length_cons, qpl]; omega
 refine wp_block ?_
 replace HM := HM.picks (fs' := [.row (.slice A24 (1 + n) c24) (1 + n) ((opn :: befI l).map I64i) 3 1]) [1] (by decide) rfl
 refine qs (fun mS aS wS => ∃ (k : Nat) (r : Int), (k ≤ 1 + n) ∧ (0 ≤ r) ∧ (r ≤ 281474976710656) ∧ (qa3 qd7 (opn :: befI l) = qa3 r ((opn :: befI l).drop k)) ∧ mS = 1 + n - k ∧ Fr aS 53 [] [(26, vI k), (25, vI (1 + n : Nat)), (24, .slice A24 (1 + n) c24), (9, vI r), (19, .bool false), (6, .bool false), (0, vB cpu), (1, .slice A n c)] ∧ Mem w wS [.row (.slice A24 (1 + n) c24) (1 + n) ((opn :: befI l).map I64i) 3 1]) (m := 1 + n - 0) ⟨0, 281474976710656, Nat.zero_le _, by omega, Int.le_refl _, rfl, rfl, HF.sub (by kernel_rfl), HM.picks [0] (by decide) rfl⟩ ?_
 clear HF HM; rintro mS a w_ ⟨k, r, hk, hr0, hr1, hroom, rfl, HF, HM⟩
 refine wp_seq (qa ?_)
 refine fp HF 1 0 [(27, .bool (decide ((k : Int) < ((1 + n : Nat) : Int))))] fun a HF => ?_
 refine qb rfl (wp_seq ?_)
 rcases HF.tf 27 rfl with ⟨hb27, HF⟩ | ⟨hb27, HF⟩
 ·
  have hd27 := of_decide_eq_true hb27
  have hk27 : k < 1 + n := by omega
  have hat := qt1 (xs := opn :: befI l) (k := k) (r := r) (by omega)
  refine qe HF rfl (wp_skip (wp_seq (wp_block (wp_seq (qa ?_)))))
  obtain ⟨gA24, rfl⟩ := qch (HM.own (i := 0) rfl) (Nat.lt_of_le_of_lt (Nat.zero_le _) (show k < 1 + n from by omega))
  refine fy HF HM 0 rfl rfl rfl (v := vP gA24 (k * 1)) (Yl.ix0 gA24 k 1 rfl rfl rfl) fun a HF => ?_
  refine fy HF HM 1 rfl rfl rfl (v := vI ((opn :: befI l).getD k 0)) (Yl.qh rfl rfl (by kernel_rfl) (fun _ h => h.qnm (i := 0) rfl (k := k) (qai (F := I64i) (k := k) (x := ((opn :: befI l).getD k 0)) ((getD_at 0 (k := k) (by first | omega | (simp; omega))))))) fun a HF => ?_
  refine fp HF 1 2 [(11, vI ((opn :: befI l).getD k 0))] fun a HF => ?_
  refine qb rfl (wp_seq (wp_seq (qa ?_)))
  refine fp HF 3 0 [(32, .bool (decide ((((opn :: befI l).getD k 0) : Int) < (0 : Int))))] fun a HF => ?_
  rcases HF.tf 32 rfl with ⟨hb32, HF⟩ | ⟨hb32, HF⟩
  ·
   have hd32 := of_decide_eq_true hb32
   refine fp HF 4 3 [(36, .bool true)] fun a HF => ?_
   refine qb rfl (qe HF rfl (wp_seq (qa ?_)))
   refine fp HF 1 0 [(6, .bool false)] fun a HF => ?_
   refine qb rfl (wp_ret ?_)
   exact ret1 rfl HF (.tmp HF rfl) (⟨by rw [qgw (by rw [hroom, hat, decide_eq_false (by omega), Bool.false_and])], HM.below⟩)
  have hd32 := of_decide_eq_false hb32
  refine fp HF 4 3 [(36, .bool (decide ((((opn :: befI l).getD k 0) : Int) > (r : Int))))] fun a HF => ?_
  refine qb rfl ?_
  rcases HF.tf 36 rfl with ⟨hb36, HF⟩ | ⟨hb36, HF⟩
  ·
   have hd36 := of_decide_eq_true hb36
   refine qe HF rfl (wp_seq (qa ?_))
   refine fp HF 1 0 [(6, .bool false)] fun a HF => ?_
   refine qb rfl (wp_ret ?_)
   exact ret1 rfl HF (.tmp HF rfl) (⟨by rw [qgw (by rw [hroom, hat, decide_eq_false (by omega), Bool.false_and])], HM.below⟩)
  have hd36 := of_decide_eq_false hb36
  have hat2 : qa3 qd7 (opn :: befI l) = qa3 (r - ((opn :: befI l).getD k 0)) ((opn :: befI l).drop (k + 1)) := by rw [hroom, hat, decide_eq_true ⟨by omega, by omega⟩, Bool.true_and]
  refine qd HF rfl (wp_skip (qa ?_))
  refine fp HF 3 0 [(39, vI (IntKind.i64.wrap (r - ((opn :: befI l).getD k 0))))] fun a HF => ?_
  replace HF := HF.sp 39 (vI (r - ((opn :: befI l).getD k 0))) rfl (qgt ⟨by omega, by omega⟩)
  refine fp HF 1 3 [(9, vI (r - ((opn :: befI l).getD k 0)))] fun a HF => ?_
  refine qb rfl (qa ?_)
  refine fp HF 1 0 [(40, vI (IntKind.i64.wrap ((k : Int) + 1)))] fun a HF => ?_
  replace HF := HF.sp 40 (vI (k + 1 : Nat)) rfl (qi (by omega) (by omega))
  refine fp HF 1 1 [(26, vI (k + 1 : Nat))] fun a HF => ?_
  refine qb rfl ?_
  exact ⟨_, (by omega), k + 1, (r - ((opn :: befI l).getD k 0)), by omega, by omega, by omega, hat2, rfl, HF.sub (by kernel_rfl), HM.picks [0] (by decide) rfl⟩
 have hd27 := of_decide_eq_false hb27
 have hkn : k = 1 + n := by omega
 have hrt : qa3 qd7 (opn :: befI l) = true := by rw [hroom, List.drop_of_length_le (by omega)]; rfl
 refine qd HF rfl (wp_exit (wp_seq (qa ?_)))
 refine fp HF 1 0 [(41, .slice A n c)] fun a HF => ?_
 refine fy HF HM 1 rfl rfl rfl (Yl.len rfl rfl (by kernel_rfl)) fun a HF => ?_
 refine fp HF 2 2 [(44, .bool ((n : Int) == (0 : Int)))] fun a HF => ?_
 rcases HF.tf 44 rfl with ⟨hb44, HF⟩ | ⟨hb44, HF⟩
 ·
  have hd44 := eq_of_beq hb44
  refine fp HF 9 4 [(6, .bool true)] fun a HF => ?_
  refine qb rfl (wp_ret ?_)
  exact ret1 rfl HF (.tmp HF rfl) (⟨by rw [qjs (by omega) hrt, qt2 (by omega)], HM.below⟩)
 have hd44 := ne_of_beq_false hb44
 refine fp HF 1 4 [(45, .slice A n c)] fun a HF => ?_
 obtain ⟨gA, oA, rfl, _⟩ := hr.qy (Nat.lt_of_le_of_lt (Nat.zero_le _) (show 0 < n from by omega)) (by decide)
 refine fy HF HM 5 rfl rfl rfl (v := vP gA oA) (Yl.indexAddr (ad := ⟨gA, oA, none⟩) (y := 0) (sz := 12) rfl rfl rfl (by omega) (by kernel_rfl)) fun a HF => ?_
 refine fp HF 2 6 [(48, vP gA (oA + 2))] fun a HF => ?_
 refine fy HF HM 8 rfl rfl rfl (v := vB ((l.getD 0 It.zero).e.cpu)) (Yl.qh rfl rfl (by kernel_rfl) (fun _ h => (h.old hr).partAt qaq (k := 0) (j := 2) (x := (l.getD 0 It.zero)) ((getD_at It.zero (k := 0) (by first | omega | (simp; omega)))) rfl)) fun a HF => ?_
 refine fp HF 4 9 [(6, .bool (((l.getD 0 It.zero).e.cpu : Int) == (cpu : Int)))] fun a HF => ?_
 refine qb rfl (wp_ret ?_)
 exact ret1 rfl HF (.tmp HF rfl) (⟨by rw [qjs (by omega) hrt, qq3 (by omega)]; congr 2; rw [Bool.eq_iff_iff, beq_iff_eq, decide_eq_true_eq]; omega, HM.below⟩)
theorem qp8 (cpu : Nat) (A : Option Addr) (n c : Nat) (l : List It) (opn : Int) (k : Nat) (hG : GoodI cpu l opn) (hk : k ≤ n) (g1 g2 g3 : Nat) (w : World) (hg1 : w.heap[g1]? = some (.cells #[.int .u8 (cpu : Int)] 5 (0, 0))) (hg2 : w.heap[g2]? = some (.cells #[.slice A n c] 28 (0, 0))) (hg3 : w.heap[g3]? = some (.cells #[.int .i64 opn] 3 (0, 0))) (hr : Rd w w.heap.size 12 A l.length (l.flatMap itL)) (hc : n ≤ c) (hln : l.length = n) (hn : n ≤ 1000000) :
    Calls Tryz.prog 44 #[.int .i64 (k : Int), .pointer (some ⟨g1, 0, none⟩), .pointer (some ⟨g2, 0, none⟩), .pointer (some ⟨g3, 0, none⟩)] w (qz5 w (ofB cpu l opn k)) := by
 refine qg (vs := [vI k, vP g1 0, vP g2 0, vP g3 0]) Tryz.func44 rfl rfl (by kernel_rfl) (σ0 := [(0, vI k), (1, vP g1 0), (2, vP g2 0), (3, vP g3 0)]) rfl ?_
 intro a HF
 have HM := Mem.start w
 refine wp_seq (qa ?_)
 refine fo HF 0 rfl rfl ?_
 refine qt HF HM (cs := #[vB 0, vB 0, vI 0, vI 0, .slice none 0 0]) rfl (by kernel_rfl) rfl (by decide) ?_
 clear HF HM; intro a w5 g5 HF HM
 refine qb rfl ?_
 refine qax (fun aS wS => ∃ (A13 : Option Addr) (c13 : Nat) (g6 : Nat), Fr aS 40 [] [(6, vP g6 0), (5, vP g5 0), (0, vI k), (2, vP g2 0), (3, vP g3 0)] ∧ Mem w wS [.blk g6 #[vB 1, vB cpu, vI 0, vI 0, .slice A13 k c13] 27, .row (.slice A13 k c13) k ((evsI (l.take k)).flatMap evL) 41 11, .blk g5 #[vB 0, vB 0, vI 0, vI 0, .slice none 0 0] 27] ∧ (k ≤ c13)) ?_ ?_
 ·
  refine qag HM [.blk g5 #[vB 0, vB 0, vI 0, vI 0, .slice none 0 0] 27] [0] [7] fun HM HS => ?_
  refine ap HF (fun _ => HS) [2] #[false, false, true, false, false, false, false, false] [(11, vI k)] fun a HF => ?_
  refine ay HF HS 0 rfl rfl rfl (v := vB cpu) (Yl.qh rfl rfl (by kernel_rfl) (fun _ h => h.zn hg1 rfl)) fun a HF => ?_
  refine ay HF HS 1 rfl rfl rfl (v := .slice A n c) (Yl.qh rfl rfl (by kernel_rfl) (fun _ h => h.zn hg2 rfl)) fun a HF => ?_
  refine ay HF HS 3 rfl rfl rfl (v := .slice A k c) (Yl.qbo ei_it (j := k) rfl rfl rfl (by omega)) fun a HF => ?_
  refine qj [4, 6] (by kernel_rfl) rfl ?_
  refine all_cons ?_ ?_
  ·refine qo HF (i := 4) rfl rfl ?_
   refine e_cl HF [.slice A k c] rfl rfl (qeo A k c (l.take k) _ (HM.old (Rd.qva qaq hr (by omega))) (by rw [List.length_take]; omega) (by omega)) ?_
   rintro _ w13 ⟨⟨A13, c13, rfl, ho, hc13⟩, hbw⟩
   refine ⟨_, rfl, ?_⟩
   replace HM := HM.callRow hbw ho
   clear HF; intro a HF
   refine keepS (HM.picks [1] (by decide) rfl) (fun HS => ?_)
   refine ay HF HS 5 rfl rfl rfl (v := .agg #[vB 1, vB cpu, vI 0, vI 0, .slice A13 k c13]) (Yl.build (vs := [(0, vB 1), (1, vB cpu), (4, .slice A13 k c13)]) rfl (by kernel_rfl) (by kernel_rfl)) fun a HF => ?_
   refine qj [6] (by kernel_rfl) rfl ?_
   refine all_cons ?_ all_nil
   refine qo HF (i := 6) rfl rfl ?_
   refine qt HF HM (cs := #[vB 0, vB 0, vI 0, vI 0, .slice none 0 0]) rfl (by kernel_rfl) rfl (by decide) ?_
   clear HF HM; intro a w6 g6 HF HM
   refine keepS (HM.picks [2] (by decide) rfl) (fun HS => ?_)
   refine qj [7] (by kernel_rfl) rfl ?_
   refine all_cons ?_ all_nil
   refine qo HF (i := 7) rfl rfl ?_
   refine e_sa HF HM 0 rfl rfl rfl rfl rfl si_bk rfl rfl (by simp [Value.oneCell']) ?_
   clear HM; intro w1_7 HM
   refine noS (by kernel_rfl) ?_
   refine qn (by kernel_rfl) ?_
   exact ⟨A13, c13, g6, HF.sub (by kernel_rfl), HM.picks [0, 1, 2] (by decide) rfl, hc13⟩
  refine all_cons ?_ all_nil
  refine qo HF (i := 6) rfl rfl ?_
  refine qt HF HM (cs := #[vB 0, vB 0, vI 0, vI 0, .slice none 0 0]) rfl (by kernel_rfl) rfl (by decide) ?_
  clear HF HM; intro a w6 g6 HF HM
  refine keepS (HM.picks [1] (by decide) rfl) (fun HS => ?_)
  refine qj [4] (by kernel_rfl) rfl ?_
  refine all_cons ?_ all_nil
  refine qo HF (i := 4) rfl rfl ?_
  refine e_cl HF [.slice A k c] rfl rfl (qeo A k c (l.take k) _ (HM.old (Rd.qva qaq hr (by omega))) (by rw [List.length_take]; omega) (by omega)) ?_
  rintro _ w13 ⟨⟨A13, c13, rfl, ho, hc13⟩, hbw⟩
  refine ⟨_, rfl, ?_⟩
  replace HM := HM.callRow hbw ho
  clear HF; intro a HF
  refine keepS (HM.picks [2] (by decide) rfl) (fun HS => ?_)
  refine ay HF HS 5 rfl rfl rfl (v := .agg #[vB 1, vB cpu, vI 0, vI 0, .slice A13 k c13]) (Yl.build (vs := [(0, vB 1), (1, vB cpu), (4, .slice A13 k c13)]) rfl (by kernel_rfl) (by kernel_rfl)) fun a HF => ?_
  refine qj [7] (by kernel_rfl) rfl ?_
  refine all_cons ?_ all_nil
  refine qo HF (i := 7) rfl rfl ?_
  refine e_sa HF HM 1 rfl rfl rfl rfl rfl si_bk rfl rfl (by simp [Value.oneCell']) ?_
  clear HM; intro w1_7 HM
  refine noS (by kernel_rfl) ?_
  refine qn (by kernel_rfl) ?_
  exact ⟨A13, c13, g6, HF.sub (by kernel_rfl), HM.picks [1, 0, 2] (by decide) rfl, hc13⟩
 clear HF HM; rintro a w1 ⟨A13, c13, g6, HF, HM, hc13⟩
 refine wp_seq (wp_seq (qa ?_))
 refine fy HF HM 0 rfl rfl rfl (v := .slice A n c) (Yl.qh rfl rfl (by kernel_rfl) (fun _ h => h.zn hg2 rfl)) fun a HF => ?_
 refine fp HF 1 1 [(16, vI k)] fun a HF => ?_
 refine fy HF HM 2 rfl rfl rfl (v := .slice A k c) (Yl.qbo ei_it (j := k) rfl rfl rfl (by omega)) fun a HF => ?_
 refine fo HF 3 rfl rfl ?_
 refine e_cl HF [.slice A k c] rfl rfl (qj9 A k c (l.take k) _ (HM.old (Rd.qva qaq hr (by omega))) (by rw [List.length_take]; omega) (by omega)) ?_
 rintro _ w18 ⟨⟨A18, c18, rfl, ho, hc18⟩, hbw⟩
 refine ⟨_, rfl, ?_⟩
 replace HM := HM.callRow hbw ho
 clear HF; intro a HF
 refine fy HF HM 4 rfl rfl rfl (Yl.len rfl rfl (by kernel_rfl)) fun a HF => ?_
 refine fp HF 1 5 [(20, vI 0)] fun a HF => ?_
 refine qb rfl ?_
 have hbl : (befI (l.take k)).length = k := by rw [qpl, List.length_take]; omega
 refine wp_block ?_
 refine qs (fun mS aS wS => ∃ (j : Nat), (j ≤ k) ∧ mS = k - j ∧ Fr aS 40 [] [(20, vI j), (19, vI k), (18, .slice A18 k c18), (6, vP g6 0), (5, vP g5 0), (0, vI k), (2, vP g2 0), (3, vP g3 0)] ∧ Mem w wS [.row (.slice A18 k c18) k ((befI (l.take k)).map I64i) 3 1, .blk g6 #[vB 1, vB cpu, vI (sumI (befI (l.take j))), vI 0, .slice A13 k c13] 27, .row (.slice A13 k c13) k ((evsI (l.take k)).flatMap evL) 41 11, .blk g5 #[vB 0, vB 0, vI 0, vI 0, .slice none 0 0] 27]) (m := k - 0) ⟨0, Nat.zero_le _, rfl, HF.sub (by kernel_rfl), HM.picks [0, 1, 2, 3] (by decide) rfl⟩ ?_
 clear HF HM; rintro mS a w_ ⟨j, hj, rfl, HF, HM⟩
 refine wp_seq (qa ?_)
 refine fp HF 1 0 [(21, .bool (decide ((j : Int) < (k : Int))))] fun a HF => ?_
 refine qb rfl (wp_seq ?_)
 rcases HF.tf 21 rfl with ⟨hb21, HF⟩ | ⟨hb21, HF⟩
 ·
  have hd21 := of_decide_eq_true hb21
  have hj21 : j < k := by omega
  have ho0 := hG.o0
  have hp0 := hG.part j
  have hp1 := hG.part (j + 1)
  have hps := qic (l := l) (k := k) (j := j) (by omega) (by omega)
  refine qe HF rfl (wp_skip (wp_seq (wp_block (wp_seq (qa ?_)))))
  obtain ⟨gA18, rfl⟩ := qch (HM.own (i := 0) rfl) (Nat.lt_of_le_of_lt (Nat.zero_le _) (show j < k from by omega))
  refine fy HF HM 0 rfl rfl rfl (v := vP gA18 (j * 1)) (Yl.ix0 gA18 j 1 rfl rfl rfl) fun a HF => ?_
  refine fy HF HM 1 rfl rfl rfl (v := vI ((befI (l.take k)).getD j 0)) (Yl.qh rfl rfl (by kernel_rfl) (fun _ h => h.qnm (i := 0) rfl (k := j) (qai (F := I64i) (k := j) (x := ((befI (l.take k)).getD j 0)) ((getD_at 0 (k := j) (by first | omega | (simp; omega))))))) fun a HF => ?_
  refine fp HF 1 2 [(8, vI ((befI (l.take k)).getD j 0))] fun a HF => ?_
  refine qb rfl (qa ?_)
  refine fp HF 1 0 [(24, vP g6 2)] fun a HF => ?_
  refine fy HF HM 1 rfl rfl rfl (Yl.qh rfl rfl (by kernel_rfl) (fun _ h => h.cell (i := 1) rfl rfl)) fun a HF => ?_
  refine fp HF 2 2 [(27, vI (IntKind.i64.wrap ((sumI (befI (l.take j))) + ((befI (l.take k)).getD j 0))))] fun a HF => ?_
  replace HF := HF.sp 27 (vI (sumI (befI (l.take (j + 1))))) rfl (by rw [qic (k := k) (by omega) (by omega)]; exact qgt ⟨by omega, by omega⟩)
  refine fp HF 1 4 [(28, vP g6 2)] fun a HF => ?_
  refine fo HF 5 rfl rfl ?_
  refine zd HF HM (i := 1) rfl rfl rfl rfl (by kernel_rfl) rfl rfl (by simp) ?_
  clear HM; intro w5_5 HM
  refine qb rfl (qa ?_)
  refine fp HF 1 0 [(29, vI (IntKind.i64.wrap ((j : Int) + 1)))] fun a HF => ?_
  replace HF := HF.sp 29 (vI (j + 1 : Nat)) rfl (qi (by omega) (by omega))
  refine fp HF 1 1 [(20, vI (j + 1 : Nat))] fun a HF => ?_
  refine qb rfl ?_
  exact ⟨_, (by omega), j + 1, by omega, rfl, HF.sub (by kernel_rfl), HM.picks [0, 1, 2, 3] (by decide) rfl⟩
 have hd21 := of_decide_eq_false hb21
 obtain rfl : j = k := by omega
 have hp0 := hG.part j
 have ho0 := hG.o0
 refine qd HF rfl (wp_exit (wp_seq (wp_seq (qa ?_))))
 refine fp HF 1 0 [(30, vI j)] fun a HF => ?_
 refine fy HF HM 1 rfl rfl rfl (v := .slice A n c) (Yl.qh rfl rfl (by kernel_rfl) (fun _ h => h.zn hg2 rfl)) fun a HF => ?_
 refine fy HF HM 2 rfl rfl rfl (Yl.len rfl rfl (by kernel_rfl)) fun a HF => ?_
 refine fp HF 1 3 [(33, .bool ((j : Int) == (n : Int)))] fun a HF => ?_
 refine qb rfl ?_
 rcases HF.tf 33 rfl with ⟨hb33, HF⟩ | ⟨hb33, HF⟩
 ·
  have hd33 := eq_of_beq hb33
  have hlo := qt4 (cpu := cpu) (opn := opn) (l := l) (k := j) (by omega)
  refine qe HF rfl (qa ?_)
  refine fp HF 1 0 [(34, vP g6 2)] fun a HF => ?_
  refine fy HF HM 1 rfl rfl rfl (Yl.qh rfl rfl (by kernel_rfl) (fun _ h => h.cell (i := 1) rfl rfl)) fun a HF => ?_
  refine fy HF HM 2 rfl rfl rfl (v := vI opn) (Yl.qh rfl rfl (by kernel_rfl) (fun _ h => h.zn hg3 rfl)) fun a HF => ?_
  refine fp HF 1 3 [(37, vI (IntKind.i64.wrap ((sumI (befI (l.take j))) + opn)))] fun a HF => ?_
  replace HF := HF.sp 37 (vI ((sumI (befI (l.take j))) + opn)) rfl (qgt ⟨by omega, by omega⟩)
  refine fp HF 1 4 [(38, vP g6 2)] fun a HF => ?_
  refine fo HF 5 rfl rfl ?_
  refine zd HF HM (i := 1) rfl rfl rfl rfl (by kernel_rfl) rfl rfl (by simp) ?_
  clear HM; intro w8_5 HM
  refine qb rfl (wp_seq (qa ?_))
  refine fy HF HM 0 rfl rfl rfl (v := .agg #[vB 1, vB cpu, vI ((sumI (befI (l.take j))) + opn), vI 0, .slice A13 j c13]) (Yl.zc rfl rfl si_bk rfl (fun _ h => qf (h.blk (i := 1) rfl))) fun a HF => ?_
  refine fo HF 1 rfl rfl ?_
  refine e_sa HF HM 3 rfl rfl rfl rfl rfl si_bk rfl rfl (by simp [Value.oneCell']) ?_
  clear HM; intro w9_1 HM
  refine qb rfl (wp_ret ?_)
  exact ret1 rfl HF (.cellS (i := 3) HF HM rfl rfl si_bk rfl) (⟨⟨A13, c13, by rw [← qfq (by omega) (by rw [hlo])], by rw [qbw (by omega)]; exact HM.own (i := 2) rfl, by rw [qbw (by omega)]; omega⟩, HM.below⟩)
 have hd33 := ne_of_beq_false hb33
 have hlo := qt5 (cpu := cpu) (opn := opn) (l := l) (k := j) (by omega)
 refine qd HF rfl (wp_skip (wp_seq (qa ?_)))
 refine fy HF HM 0 rfl rfl rfl (v := .agg #[vB 1, vB cpu, vI (sumI (befI (l.take j))), vI 0, .slice A13 j c13]) (Yl.zc rfl rfl si_bk rfl (fun _ h => qf (h.blk (i := 1) rfl))) fun a HF => ?_
 refine fo HF 1 rfl rfl ?_
 refine e_sa HF HM 3 rfl rfl rfl rfl rfl si_bk rfl rfl (by simp [Value.oneCell']) ?_
 clear HM; intro w9_1 HM
 refine qb rfl (wp_ret ?_)
 exact ret1 rfl HF (.cellS (i := 3) HF HM rfl rfl si_bk rfl) (⟨⟨A13, c13, by rw [← qfq (by omega) (by rw [hlo])], by rw [qbw (by omega)]; exact HM.own (i := 2) rfl, by rw [qbw (by omega)]; omega⟩, HM.below⟩)
theorem qnd (A : Option Addr) (n c : Nat) (l : List It) (w : World) (hr : Rd w w.heap.size 12 A n (l.flatMap itL)) (hln : l.length = n) (hn : n ≤ 1000000) :
  Calls Tryz.prog 45 #[.slice A n c] w fun r w' => (∃ A c, r = .returned (.slice A (evsI l).length c) ∧ w'.ownsRow w.heap.size 41 11 (.slice A (evsI l).length c) (evsI l).length ((evsI l).flatMap evL) ∧ (evsI l).length ≤ c) ∧ Below w.heap.size w w' := by
 have e : (evsI l).length = n := by rw [qek]; exact hln
 rw [e]
 exact qeo A n c l w hr hln hn
theorem qw4 (b : Bk) (hok : b.Ok) (hf : b.fits = true) (A : Option Addr) (c B : Nat) (w : World) (hL : LaidX B w) (hB : B ≤ w.heap.size) (hr : Rd w w.heap.size 11 A b.evs.length (b.evs.flatMap evL)) (hn : b.evs.length ≤ 1000000) :
  Calls Tryz.prog 47 #[.agg (b.cells A c)] w (Is w (.tuple #[.int .i64 (b.qeq : Int), .int .i64 0])) := by
 have h := qu0 b hok A c B w hL hB hr hn
 unfold Bk.fill at h
 rwa [if_neg (by rw [hf]; decide)] at h
theorem qu3 (cpu : Nat) (hcpu : cpu < 256) (A : Option Addr) (n c : Nat) (l : List It) (opn limit : Int) (hok : ∀ x ∈ l, x.Ok) (ho : I64 opn) (hlm : I64 limit) (B : Nat) (w : World) (hL : LaidX B w) (hB : B ≤ w.heap.size) (hr : Rd w w.heap.size 12 A n (l.flatMap itL)) (hc : n ≤ c) (hln : l.length = n) (hn : n ≤ 1000000) :
    Calls Tryz.prog 15 #[.int .u8 (cpu : Int), .slice A n c, .int .i64 opn, .int .i64 limit] w (qh0 41 27 w (cutS cpu l opn limit).2 (cutS cpu l opn limit).1) := by
 subst hln
 refine qg (vs := [vB cpu, .slice A l.length c, vI opn, vI limit]) Tryz.func15 rfl rfl (by kernel_rfl) (σ0 := [(0, vB cpu), (1, .slice A l.length c), (2, vI opn), (3, vI limit)]) rfl ?_
 intro a HF
 have HM := Mem.start w
 refine wp_seq (qa ?_)
 refine fo HF 0 rfl rfl ?_
 refine e_box HF HM (cs := #[vB cpu]) rfl rfl rfl rfl (by decide) ?_
 clear HF HM; intro a w4 g4 HF HM
 refine fo HF 1 rfl rfl ?_
 refine e_box HF HM (cs := #[.slice A l.length c]) rfl rfl rfl rfl (by decide) ?_
 clear HF HM; intro a w5 g5 HF HM
 refine fo HF 2 rfl rfl ?_
 refine e_box HF HM (cs := #[vI opn]) rfl rfl rfl rfl (by decide) ?_
 clear HF HM; intro a w6 g6 HF HM
 refine fp HF 2 3 [(9, vI 0), (8, .slice none 0 0)] fun a HF => ?_
 refine qb rfl (wp_seq (wp_block (wp_seq (qa ?_))))
 refine fy HF HM 0 rfl rfl rfl (Yl.qh rfl rfl (by kernel_rfl) (fun _ h => h.cell (i := 2) rfl rfl)) fun a HF => ?_
 refine fp HF 2 1 [(17, .bool (decide ((cpu : Int) ≥ (64 : Int))))] fun a HF => ?_
 rcases HF.tf 17 rfl with ⟨hb17, HF⟩ | ⟨hb17, HF⟩
 ·
  have hd17 := of_decide_eq_true hb17
  refine fp HF 8 3 [(14, .bool true)] fun a HF => ?_
  refine qb rfl (qe HF rfl (wp_seq (qa ?_)))
  refine fp HF 2 0 [(9, vI 2), (8, .slice none 0 0)] fun a HF => ?_
  refine qb rfl (wp_ret ?_)
  exact ret2 rfl HF (.tmp HF rfl) (.tmp HF rfl) (by rw [qel (by omega)]; exact qb0 HM rfl)
 have hd17 := of_decide_eq_false hb17
 refine fp HF 4 3 [(21, .bool (decide ((limit : Int) < (1 : Int))))] fun a HF => ?_
 rcases HF.tf 21 rfl with ⟨hb21, HF⟩ | ⟨hb21, HF⟩
 ·
  have hd21 := of_decide_eq_true hb21
  refine fp HF 4 7 [(14, .bool true)] fun a HF => ?_
  refine qb rfl (qe HF rfl (wp_seq (qa ?_)))
  refine fp HF 2 0 [(9, vI 2), (8, .slice none 0 0)] fun a HF => ?_
  refine qb rfl (wp_ret ?_)
  exact ret2 rfl HF (.tmp HF rfl) (.tmp HF rfl) (by rw [qel (by omega)]; exact qb0 HM rfl)
 have hd21 := of_decide_eq_false hb21
 refine fp HF 4 7 [(14, .bool (decide ((limit : Int) > (4096 : Int))))] fun a HF => ?_
 refine qb rfl ?_
 rcases HF.tf 14 rfl with ⟨hb14, HF⟩ | ⟨hb14, HF⟩
 ·
  have hd14 := of_decide_eq_true hb14
  refine qe HF rfl (wp_seq (qa ?_))
  refine fp HF 2 0 [(9, vI 2), (8, .slice none 0 0)] fun a HF => ?_
  refine qb rfl (wp_ret ?_)
  exact ret2 rfl HF (.tmp HF rfl) (.tmp HF rfl) (by rw [qel (by omega)]; exact qb0 HM rfl)
 have hd14 := of_decide_eq_false hb14
 refine qd HF rfl (wp_seq (qa ?_))
 refine fy HF HM 0 rfl rfl rfl (Yl.qh rfl rfl (by kernel_rfl) (fun _ h => h.cell (i := 2) rfl rfl)) fun a HF => ?_
 refine fy HF HM 1 rfl rfl rfl (Yl.qh rfl rfl (by kernel_rfl) (fun _ h => h.cell (i := 1) rfl rfl)) fun a HF => ?_
 refine fy HF HM 2 rfl rfl rfl (Yl.qh rfl rfl (by kernel_rfl) (fun _ h => h.cell (i := 0) rfl rfl)) fun a HF => ?_
 refine fo HF 3 rfl rfl ?_
 refine e_is HF HM [vB cpu, .slice A l.length c, vI opn] (.bool (zx cpu l opn)) rfl rfl (qor cpu A l.length c l opn hok ho B _ (hL.mem HM hB) (HM.le hB) (HM.old hr) rfl (by omega)) fun w29 hbw HM a HF => ?_
 refine fp HF 2 4 [(25, .bool (!(zx cpu l opn)))] fun a HF => ?_
 refine qb rfl ?_
 rcases HF.tf 25 rfl with ⟨hb25, HF⟩ | ⟨hb25, HF⟩
 ·
  have hbad : zx cpu l opn = false := by simpa using hb25
  refine qe HF rfl (wp_seq (qa ?_))
  refine fp HF 2 0 [(9, vI 110), (8, .slice none 0 0)] fun a HF => ?_
  refine qb rfl (wp_ret ?_)
  exact ret2 rfl HF (.tmp HF rfl) (.tmp HF rfl) (by rw [qjq (by omega) hbad]; exact qb0 HM rfl)
 have hgood : zx cpu l opn = true := by simpa using hb25
 have hG := GoodI.of (by omega) hok hgood
 refine qd HF rfl (wp_seq (qa ?_))
 refine fy HF HM 0 rfl rfl rfl (Yl.qh rfl rfl (by kernel_rfl) (fun _ h => h.cell (i := 1) rfl rfl)) fun a HF => ?_
 refine fy HF HM 1 rfl rfl rfl (Yl.len rfl rfl (by kernel_rfl)) fun a HF => ?_
 refine fp HF 2 2 [(35, .bool ((l.length : Int) == (0 : Int)))] fun a HF => ?_
 rcases HF.tf 35 rfl with ⟨hb35, HF⟩ | ⟨hb35, HF⟩
 ·
  have hd35 := eq_of_beq hb35
  refine fy HF HM 4 rfl rfl rfl (Yl.qh rfl rfl (by kernel_rfl) (fun _ h => h.cell (i := 0) rfl rfl)) fun a HF => ?_
  refine fp HF 3 5 [(31, .bool ((opn : Int) == (0 : Int)))] fun a HF => ?_
  refine qb rfl ?_
  rcases HF.tf 31 rfl with ⟨hb31, HF⟩ | ⟨hb31, HF⟩
  ·
   have hd31 := eq_of_beq hb31
   refine qe HF rfl (wp_seq (qa ?_))
   refine fp HF 2 0 [(9, vI 0), (8, .slice none 0 0)] fun a HF => ?_
   refine qb rfl (wp_ret ?_)
   exact ret2 rfl HF (.tmp HF rfl) (.tmp HF rfl) (by rw [qmf (by omega) hgood (by omega) (by omega)]; exact qb0 HM rfl)
  have hd31 := ne_of_beq_false hb31
  refine qd HF rfl (wp_seq (qa ?_))
  refine fy HF HM 0 rfl rfl rfl (Yl.qh rfl rfl (by kernel_rfl) (fun _ h => h.cell (i := 1) rfl rfl)) fun a HF => ?_
  refine fy HF HM 1 rfl rfl rfl (Yl.len rfl rfl (by kernel_rfl)) fun a HF => ?_
  refine fp HF 2 2 [(39, .bool ((l.length : Int) == (0 : Int)))] fun a HF => ?_
  refine qb rfl ?_
  rcases HF.tf 39 rfl with ⟨hb39, HF⟩ | ⟨hb39, HF⟩
  ·
   have hd39 := eq_of_beq hb39
   refine qe HF rfl (wp_seq (qa ?_))
   refine fy HF HM 0 rfl rfl rfl (Yl.qh rfl rfl (by kernel_rfl) (fun _ h => h.cell (i := 2) rfl rfl)) fun a HF => ?_
   refine fy HF HM 1 rfl rfl rfl (Yl.qh rfl rfl (by kernel_rfl) (fun _ h => h.cell (i := 0) rfl rfl)) fun a HF => ?_
   refine fy HF HM 2 rfl rfl rfl (v := .agg #[vB 1, vB cpu, vI opn, vI 0, .slice none 0 0]) (Yl.build (vs := [(0, vB 1), (1, vB cpu), (2, vI opn)]) rfl (by kernel_rfl) (by kernel_rfl)) fun a HF => ?_
   refine fo HF 3 rfl rfl ?_
   refine ze HF HM (vs := [(0, .agg #[vB 1, vB cpu, vI opn, vI 0, .slice none 0 0])]) (cs := #[vB 1, vB cpu, vI opn, vI 0, .slice none 0 0]) rfl qpj (by decide) rfl (by kernel_rfl) rfl (by decide) ?_
   clear HF HM; intro a w46 g46 HF HM
   refine fp HF 2 4 [(9, vI 0), (8, vS g46 1 1)] fun a HF => ?_
   refine qb rfl (wp_ret ?_)
   exact ret2 rfl HF (.tmp HF rfl) (.tmp HF rfl) (by rw [qmg (by omega) hgood (by omega) (by omega)]; exact qwf HM (i := 0) rfl)
  have hd39 := ne_of_beq_false hb39
  exfalso; omega
 have hd35 := ne_of_beq_false hb35
 refine fp HF 4 4 [(31, .bool false)] fun a HF => ?_
 refine qb rfl (qd HF rfl (wp_seq (qa ?_)))
 refine fy HF HM 0 rfl rfl rfl (Yl.qh rfl rfl (by kernel_rfl) (fun _ h => h.cell (i := 1) rfl rfl)) fun a HF => ?_
 refine fy HF HM 1 rfl rfl rfl (Yl.len rfl rfl (by kernel_rfl)) fun a HF => ?_
 refine fp HF 2 2 [(39, .bool ((l.length : Int) == (0 : Int)))] fun a HF => ?_
 refine qb rfl ?_
 rcases HF.tf 39 rfl with ⟨hb39, HF⟩ | ⟨hb39, HF⟩
 ·
  have hd39 := eq_of_beq hb39
  exfalso; omega
 have hd39 := ne_of_beq_false hb39
 refine qd HF rfl (wp_skip (wp_seq (qa ?_)))
 refine fy HF HM 0 rfl rfl rfl (v := .func (.func 44) #[] #[vP g4 0, vP g5 0, vP g6 0]) (Yl.makeFunc (fst := []) (caps := [vP g4 0, vP g5 0, vP g6 0]) rfl rfl rfl) fun a HF => ?_
 refine fp HF 1 1 [(10, .func (.func 44) #[] #[vP g4 0, vP g5 0, vP g6 0])] fun a HF => ?_
 refine qb rfl (wp_seq (qa ?_))
 refine fp HF 1 0 [(11, .slice none 0 0)] fun a HF => ?_
 refine qb rfl ?_
 obtain ⟨lim, rfl⟩ : ∃ k : Nat, limit = (k : Int) := ⟨limit.toNat, by omega⟩
 replace HM := HM.nil 27 5
 replace HM : Mem w _ (.row (.slice none 0 0) 0 [] 27 5 :: .blk g6 #[vI opn] 3 :: .blk g5 #[.slice A l.length c] 28 :: .blk g4 #[vB cpu] 5 :: hbF 41 []) := HM
 refine wp_seq (wp_block ?_)
 refine qs (fun mS aS wS => ∃ (r : List It) (X : Option Addr) (cc : Nat) (q : List Hb) (f : Nat) (Ao : Option Addr) (co : Nat), (Rd w w.heap.size 12 X r.length (r.flatMap itL)) ∧ (r.length ≤ cc) ∧ (GoodI cpu r opn) ∧ (r.length ≤ l.length) ∧ (r.length ≤ f) ∧ (q.map Hb.b ++ cutGo cpu opn lim f r = cutGo cpu opn lim l.length l) ∧ (q.length ≤ co) ∧ (q.length + r.length ≤ l.length) ∧ mS = r.length ∧ Fr aS 87 [] [(11, .slice Ao q.length co), (10, .func (.func 44) #[] #[vP g4 0, vP g5 0, vP g6 0]), (39, .bool false), (31, .bool false), (25, .bool false), (14, .bool false), (9, vI 0), (8, .slice none 0 0), (6, vP g6 0), (5, vP g5 0), (4, vP g4 0), (3, vI lim)] ∧ Mem w wS (.row (.slice Ao q.length co) q.length (q.flatMap hbL) 27 5 :: .blk g6 #[vI opn] 3 :: .blk g5 #[.slice X r.length cc] 28 :: .blk g4 #[vB cpu] 5 :: hbF 41 q)) (m := l.length) ⟨l, A, c, [], l.length, none, 0, hr, by omega, hG, by omega, Nat.le_refl _, List.nil_append _, Nat.le_refl _, by simp, rfl, HF.sub (by kernel_rfl), HM.picksT 4 [0, 1, 2, 3] (by decide) (by decide) rfl⟩ ?_
 clear HF HM; rintro mS a w_ ⟨r, X, cc, q, f, Ao, co, hX, hcc, hGr, hrn, hf, hq, hco, hql, rfl, HF, HM⟩
 refine wp_seq (wp_seq (qa ?_))
 refine fy HF HM 0 rfl rfl rfl (Yl.qh rfl rfl (by kernel_rfl) (fun _ h => h.cell (i := 2) rfl rfl)) fun a HF => ?_
 refine fy HF HM 1 rfl rfl rfl (Yl.len rfl rfl (by kernel_rfl)) fun a HF => ?_
 refine fp HF 1 2 [(50, .bool (decide ((r.length : Int) > (0 : Int))))] fun a HF => ?_
 refine qb rfl ?_
 rcases HF.tf 50 rfl with ⟨hb50, HF⟩ | ⟨hb50, HF⟩
 ·
  have hd50 := of_decide_eq_true hb50
  have hr0 : 0 < r.length := by omega
  obtain ⟨m0, hm0⟩ : ∃ m, m = min r.length lim := ⟨_, rfl⟩
  obtain ⟨hmf, hmo, hmb, hmp, hma⟩ := qjp hGr (m := m0) (by omega) (by omega)
  have hml : (mostB cpu r m0).evs.length = m0 := by show (evsI (r.take m0)).length = m0; rw [qek, List.length_take]; omega
  have hcf := qtx hGr (limit := lim) (by omega) hr0
  rw [← hm0] at hcf
  obtain ⟨hcp, hcl, hce⟩ := qk1 hGr (limit := lim) (by omega) hr0
  have hst := qgi (cpu := cpu) (limit := lim) (opn := opn) hr0 (f := f) (by omega)
  refine qe HF rfl (wp_skip (wp_block (wp_seq (qa ?_))))
  refine fy HF HM 0 rfl rfl rfl (Yl.qh rfl rfl (by kernel_rfl) (fun _ h => h.cell (i := 2) rfl rfl)) fun a HF => ?_
  refine fy HF HM 1 rfl rfl rfl (Yl.len rfl rfl (by kernel_rfl)) fun a HF => ?_
  refine fp HF 1 2 [(53, vI lim)] fun a HF => ?_
  refine fy HF HM 3 rfl rfl rfl (v := vI (if (lim : Int) < (r.length : Int) then (lim : Int) else (r.length : Int))) (Yl.min rfl rfl rfl) fun a HF => ?_
  replace HF := HF.sp 54 (vI m0) rfl (by rw [hm0]; congr 1; split <;> omega)
  refine fp HF 1 4 [(12, vI m0)] fun a HF => ?_
  refine qb rfl ?_
  refine qax (fun aS wS => ∃ (A59 : Option Addr) (c59 : Nat) (g13 : Nat), Fr aS 87 [] [(13, vP g13 0), (12, vI m0), (50, .bool true), (11, .slice Ao q.length co), (10, .func (.func 44) #[] #[vP g4 0, vP g5 0, vP g6 0]), (39, .bool false), (31, .bool false), (25, .bool false), (14, .bool false), (9, vI 0), (8, .slice none 0 0), (6, vP g6 0), (5, vP g5 0), (4, vP g4 0), (3, vI lim)] ∧ Mem w wS (.blk g13 #[vB 1, vB cpu, vI 0, vI 0, .slice A59 ((evsI (r.take m0)).length) c59] 27 :: .row (.slice A59 ((evsI (r.take m0)).length) c59) ((evsI (r.take m0)).length) ((evsI (r.take m0)).flatMap evL) 41 11 :: .row (.slice Ao q.length co) q.length (q.flatMap hbL) 27 5 :: .blk g6 #[vI opn] 3 :: .blk g5 #[.slice X r.length cc] 28 :: .blk g4 #[vB cpu] 5 :: hbF 41 q) ∧ ((evsI (r.take m0)).length ≤ c59)) ?_ ?_
  ·
   refine qye HM (.row (.slice Ao q.length co) q.length (q.flatMap hbL) 27 5 :: .blk g6 #[vI opn] 3 :: .blk g5 #[.slice X r.length cc] 28 :: .blk g4 #[vB cpu] 5 :: hbF 41 q) 4 [0, 1, 2, 3] [7] fun HM HS => ?_
   refine ap HF (fun _ => HS) [2] #[false, false, true, false, false, false, false, false] [(57, vI m0)] fun a HF => ?_
   refine ay HF HS 0 rfl rfl rfl (Yl.qh rfl rfl (by kernel_rfl) (fun _ h => h.cell (i := 3) rfl rfl)) fun a HF => ?_
   refine ay HF HS 1 rfl rfl rfl (Yl.qh rfl rfl (by kernel_rfl) (fun _ h => h.cell (i := 2) rfl rfl)) fun a HF => ?_
   refine ay HF HS 3 rfl rfl rfl (v := .slice X m0 cc) (Yl.qbo ei_it (j := m0) rfl rfl rfl (by omega)) fun a HF => ?_
   refine qj [4, 6] (by kernel_rfl) rfl ?_
   refine all_cons ?_ ?_
   ·refine qo HF (i := 4) rfl rfl ?_
    refine e_cl HF [.slice X m0 cc] rfl rfl (qnd X m0 cc (r.take m0) _ (HM.old (Rd.qva qaq hX (by omega))) (by rw [List.length_take]; omega) (by omega)) ?_
    rintro _ w59 ⟨⟨A59, c59, rfl, ho, hc59⟩, hbw⟩
    refine ⟨_, rfl, ?_⟩
    replace HM := HM.callRow hbw ho
    clear HF; intro a HF
    refine keepS (HM.picksT 5 [1, 2, 3, 4] (by decide) (by decide) rfl) (fun HS => ?_)
    refine ay HF HS 5 rfl rfl rfl (v := .agg #[vB 1, vB cpu, vI 0, vI 0, .slice A59 ((evsI (r.take m0)).length) c59]) (Yl.build (vs := [(0, vB 1), (1, vB cpu), (4, .slice A59 ((evsI (r.take m0)).length) c59)]) rfl (by kernel_rfl) (by kernel_rfl)) fun a HF => ?_
    refine qj [6] (by kernel_rfl) rfl ?_
    refine all_cons ?_ all_nil
    refine qo HF (i := 6) rfl rfl ?_
    refine qt HF HM (cs := #[vB 0, vB 0, vI 0, vI 0, .slice none 0 0]) rfl (by kernel_rfl) rfl (by decide) ?_
    clear HF HM; intro a w13 g13 HF HM
    refine keepS (HM.picksT 6 [2, 3, 4, 5] (by decide) (by decide) rfl) (fun HS => ?_)
    refine qj [7] (by kernel_rfl) rfl ?_
    refine all_cons ?_ all_nil
    refine qo HF (i := 7) rfl rfl ?_
    refine e_sa HF HM 0 rfl rfl rfl rfl rfl si_bk rfl rfl (by simp [Value.oneCell']) ?_
    clear HM; intro w13_7 HM
    refine noS (by kernel_rfl) ?_
    refine qn (by kernel_rfl) ?_
    exact ⟨A59, c59, g13, HF.sub (by kernel_rfl), HM.picksT 6 [0, 1, 2, 3, 4, 5] (by decide) (by decide) rfl, hc59⟩
   refine all_cons ?_ all_nil
   refine qo HF (i := 6) rfl rfl ?_
   refine qt HF HM (cs := #[vB 0, vB 0, vI 0, vI 0, .slice none 0 0]) rfl (by kernel_rfl) rfl (by decide) ?_
   clear HF HM; intro a w13 g13 HF HM
   refine keepS (HM.picksT 5 [1, 2, 3, 4] (by decide) (by decide) rfl) (fun HS => ?_)
   refine qj [4] (by kernel_rfl) rfl ?_
   refine all_cons ?_ all_nil
   refine qo HF (i := 4) rfl rfl ?_
   refine e_cl HF [.slice X m0 cc] rfl rfl (qnd X m0 cc (r.take m0) _ (HM.old (Rd.qva qaq hX (by omega))) (by rw [List.length_take]; omega) (by omega)) ?_
   rintro _ w59 ⟨⟨A59, c59, rfl, ho, hc59⟩, hbw⟩
   refine ⟨_, rfl, ?_⟩
   replace HM := HM.callRow hbw ho
   clear HF; intro a HF
   refine keepS (HM.picksT 6 [2, 3, 4, 5] (by decide) (by decide) rfl) (fun HS => ?_)
   refine ay HF HS 5 rfl rfl rfl (v := .agg #[vB 1, vB cpu, vI 0, vI 0, .slice A59 ((evsI (r.take m0)).length) c59]) (Yl.build (vs := [(0, vB 1), (1, vB cpu), (4, .slice A59 ((evsI (r.take m0)).length) c59)]) rfl (by kernel_rfl) (by kernel_rfl)) fun a HF => ?_
   refine qj [7] (by kernel_rfl) rfl ?_
   refine all_cons ?_ all_nil
   refine qo HF (i := 7) rfl rfl ?_
   refine e_sa HF HM 1 rfl rfl rfl rfl rfl si_bk rfl rfl (by simp [Value.oneCell']) ?_
   clear HM; intro w13_7 HM
   refine noS (by kernel_rfl) ?_
   refine qn (by kernel_rfl) ?_
   exact ⟨A59, c59, g13, HF.sub (by kernel_rfl), HM.picksT 6 [1, 0, 2, 3, 4, 5] (by decide) (by decide) rfl, hc59⟩
  clear HF HM; rintro a w13 ⟨A59, c59, g13, HF, HM, hc59⟩
  refine wp_seq (qa ?_)
  refine fy HF HM 0 rfl rfl rfl (v := .agg #[vB 1, vB cpu, vI 0, vI 0, .slice A59 ((evsI (r.take m0)).length) c59]) (Yl.zc rfl rfl si_bk rfl (fun _ h => qf (h.blk (i := 0) rfl))) fun a HF => ?_
  refine fo HF 1 rfl rfl ?_
  refine e_is HF HM [.agg #[vB 1, vB cpu, vI 0, vI 0, .slice A59 ((evsI (r.take m0)).length) c59]] (.tuple #[vI ((mostB cpu r m0).qeq), vI 0]) rfl rfl (qw4 (mostB cpu r m0) hmo hmf A59 c59 B _ (hL.mem HM hB) (HM.le hB) (HM.rd (i := 1) rfl) (by rw [hml]; omega)) fun w63 hbw HM a HF => ?_
  refine fp HF 4 2 [(12, vI ((mostB cpu r m0).qeq))] fun a HF => ?_
  refine qb rfl (wp_seq (wp_block ?_))
  refine qs (fun mS aS wS => ∃ (m : Nat), (m ≤ r.length) ∧ (cutN cpu r opn lim ≤ m) ∧ (cutN cpu r opn lim = qav (fun n => decide ((ofB cpu r opn n).err = 0)) m) ∧ mS = 0 + m ∧ Fr aS 87 [] [(12, vI m), (13, vP g13 0), (50, .bool true), (11, .slice Ao q.length co), (10, .func (.func 44) #[] #[vP g4 0, vP g5 0, vP g6 0]), (39, .bool false), (31, .bool false), (25, .bool false), (14, .bool false), (9, vI 0), (8, .slice none 0 0), (6, vP g6 0), (5, vP g5 0), (4, vP g4 0), (3, vI lim)] ∧ Mem w wS (.blk g13 #[vB 1, vB cpu, vI 0, vI 0, .slice A59 ((evsI (r.take m0)).length) c59] 27 :: .row (.slice A59 ((evsI (r.take m0)).length) c59) ((evsI (r.take m0)).length) ((evsI (r.take m0)).flatMap evL) 41 11 :: .row (.slice Ao q.length co) q.length (q.flatMap hbL) 27 5 :: .blk g6 #[vI opn] 3 :: .blk g5 #[.slice X r.length cc] 28 :: .blk g4 #[vB cpu] 5 :: hbF 41 q)) (m := 0 + ((mostB cpu r m0).qeq)) ⟨(mostB cpu r m0).qeq, by omega, by rw [hcf]; exact qcs _ _, hcf, rfl, HF.sub (by kernel_rfl), HM.picksT 6 [0, 1, 2, 3, 4, 5] (by decide) (by decide) rfl⟩ ?_
  clear HF HM; rintro mS a w_ ⟨m, hm, hmc, hdn, rfl, HF, HM⟩
  refine wp_seq (wp_seq (qa ?_))
  refine fp HF 2 0 [(67, vI m), (66, .func (.func 44) #[] #[vP g4 0, vP g5 0, vP g6 0])] fun a HF => ?_
  refine fo HF 2 rfl rfl ?_
  refine qcz HF (f := 44) (vs := [vI m]) (fst := []) (caps := [vP g4 0, vP g5 0, vP g6 0]) rfl rfl rfl (by kernel_rfl) rfl (by decide) (qp8 cpu X r.length cc r opn m hGr (by omega) g4 g5 g6 _ (HM.blk (i := 5) rfl) (HM.blk (i := 4) rfl) (HM.blk (i := 3) rfl) (HM.old hX) hcc rfl (by omega)) ?_
  rintro _ w68 ⟨⟨A68, c68, rfl, ho, hc68⟩, hbw⟩
  refine ⟨_, rfl, ?_⟩
  replace HM := HM.callRow hbw ho
  clear HF; intro a HF
  refine fo HF 3 rfl rfl ?_
  refine e_is HF HM [.agg ((ofB cpu r opn m).cells A68 c68)] (vI ((ofB cpu r opn m).err)) rfl rfl (qto (ofB cpu r opn m) (qtv hGr m) A68 c68 B _ (hL.mem HM hB) (HM.le hB) (HM.rd (i := 0) rfl) (by rw [qbw (by omega)]; omega) rfl) fun w69 hbw HM a HF => ?_
  refine fp HF 1 4 [(70, .bool (((ofB cpu r opn m).err : Int) != (0 : Int)))] fun a HF => ?_
  refine qb rfl ?_
  rcases HF.tf 70 rfl with ⟨hb70, HF⟩ | ⟨hb70, HF⟩
  ·
   have hd70 := bne_iff_ne.1 hb70
   have hdd := qh8 (p := (fun n => decide ((ofB cpu r opn n).err = 0))) (m := m) (by rw [decide_eq_false_iff_not]; omega) (by omega)
   have hle := qcs (fun n => decide ((ofB cpu r opn n).err = 0)) (m - 1)
   refine qe HF rfl (wp_skip (wp_block (qa ?_)))
   refine fp HF 2 0 [(72, vI (IntKind.i64.wrap ((m : Int) - 1)))] fun a HF => ?_
   replace HF := HF.sp 72 (vI (m - 1 : Nat)) rfl (qi (by omega) (by omega))
   refine fp HF 1 2 [(12, vI (m - 1 : Nat))] fun a HF => ?_
   refine qb rfl ?_
   exact ⟨_, (by omega), (m - 1), by omega, by rw [hdn, hdd]; exact hle, hdn.trans hdd, rfl, HF.sub (by kernel_rfl), HM.picksT 7 [1, 2, 3, 4, 5, 6] (by decide) (by decide) rfl⟩
  have hd70 := bne_eq_false_iff_eq.1 hb70
  have hhere := qh9 (p := (fun n => decide ((ofB cpu r opn n).err = 0))) (m := m) (by rw [decide_eq_true_eq]; omega)
  rw [hdn, hhere] at hst
  refine qd HF rfl (wp_exit (wp_seq (qa ?_)))
  refine fp HF 3 0 [(75, vI m), (74, .func (.func 44) #[] #[vP g4 0, vP g5 0, vP g6 0]), (73, .slice Ao q.length co)] fun a HF => ?_
  refine fo HF 3 rfl rfl ?_
  refine qcz HF (f := 44) (vs := [vI m]) (fst := []) (caps := [vP g4 0, vP g5 0, vP g6 0]) rfl rfl rfl (by kernel_rfl) rfl (by decide) (qp8 cpu X r.length cc r opn m hGr (by omega) g4 g5 g6 _ (HM.blk (i := 6) rfl) (HM.blk (i := 5) rfl) (HM.blk (i := 4) rfl) (HM.old hX) hcc rfl (by omega)) ?_
  rintro _ w76 ⟨⟨A76, c76, rfl, ho, hc76⟩, hbw⟩
  refine ⟨_, rfl, ?_⟩
  replace HM := HM.callRow hbw ho
  clear HF; intro a HF
  refine fo HF 4 rfl rfl ?_
  refine ze HF HM (vs := [(0, .agg ((ofB cpu r opn m).cells A76 c76))]) (cs := ((ofB cpu r opn m).cells A76 c76)) rfl qpj (by decide) rfl (by kernel_rfl) rfl (by decide) ?_
  clear HF HM; intro a w77 g77 HF HM
  refine fo HF 5 rfl rfl ?_
  refine qu HF HM (i := 5) rfl qpj rfl rfl rfl (news := (hbL (⟨ofB cpu r opn m, A76, c76⟩ : Hb))) (HM.rdBlk (i := 0) (n := 1) (size := 5) rfl rfl) (qbk _ _ _) (by omega) (by omega) rfl (by decide) ?_
  clear HF HM; intro a w78 A78 c78 HF HM hc78
  refine fp HF 1 6 [(11, .slice A78 (q.length + 1) c78)] fun a HF => ?_
  refine qb rfl ?_
  have hnA78 : q.length + 1 = (q ++ [(⟨ofB cpu r opn m, A76, c76⟩ : Hb)]).length := by rw [List.length_append]; rfl
  replace HM := HM.reRow (i := 5) (ys := (q ++ [(⟨ofB cpu r opn m, A76, c76⟩ : Hb)]).flatMap hbL) rfl hnA78 (by rw [List.flatMap_append, List.flatMap_cons, List.flatMap_nil, List.append_nil])
  rw [hnA78] at hc78
  replace HF := HF.as (t := 11) (u := .slice A78 ((q ++ [(⟨ofB cpu r opn m, A76, c76⟩ : Hb)]).length) c78) rfl (by rw [hnA78])
  replace HF := HF.as (t := 78) (u := .slice A78 ((q ++ [(⟨ofB cpu r opn m, A76, c76⟩ : Hb)]).length) c78) rfl (by rw [hnA78])
  replace HM := Mem.qy5 (a := [.blk g77 ((ofB cpu r opn m).cells A76 c76) 27, .row (.slice A68 ((ofB cpu r opn m).evs.length) c68) ((ofB cpu r opn m).evs.length) ((ofB cpu r opn m).evs.flatMap evL) 41 11, .blk g13 #[vB 1, vB cpu, vI 0, vI 0, .slice A59 ((evsI (r.take m0)).length) c59] 27, .row (.slice A59 ((evsI (r.take m0)).length) c59) ((evsI (r.take m0)).length) ((evsI (r.take m0)).flatMap evL) 41 11, .row (.slice A78 ((q ++ [(⟨ofB cpu r opn m, A76, c76⟩ : Hb)]).length) c78) ((q ++ [(⟨ofB cpu r opn m, A76, c76⟩ : Hb)]).length) ((q ++ [(⟨ofB cpu r opn m, A76, c76⟩ : Hb)]).flatMap hbL) 27 5, .blk g6 #[vI opn] 3, .blk g5 #[.slice X r.length cc] 28, .blk g4 #[vB cpu] 5]) (q := q) (HM.picksT (fs' := (.row (.slice A76 ((ofB cpu r opn m).evs.length) c76) ((ofB cpu r opn m).evs.length) ((ofB cpu r opn m).evs.flatMap evL) 41 11 :: .blk g77 ((ofB cpu r opn m).cells A76 c76) 27 :: .row (.slice A68 ((ofB cpu r opn m).evs.length) c68) ((ofB cpu r opn m).evs.length) ((ofB cpu r opn m).evs.flatMap evL) 41 11 :: .blk g13 #[vB 1, vB cpu, vI 0, vI 0, .slice A59 ((evsI (r.take m0)).length) c59] 27 :: .row (.slice A59 ((evsI (r.take m0)).length) c59) ((evsI (r.take m0)).length) ((evsI (r.take m0)).flatMap evL) 41 11 :: .row (.slice A78 ((q ++ [(⟨ofB cpu r opn m, A76, c76⟩ : Hb)]).length) c78) ((q ++ [(⟨ofB cpu r opn m, A76, c76⟩ : Hb)]).length) ((q ++ [(⟨ofB cpu r opn m, A76, c76⟩ : Hb)]).flatMap hbL) 27 5 :: .blk g6 #[vI opn] 3 :: .blk g5 #[.slice X r.length cc] 28 :: .blk g4 #[vB cpu] 5 :: hbF 41 q)) 9 [1, 0, 2, 3, 4, 5, 6, 7, 8] (by decide) (by decide) rfl) rfl
  replace HM : Mem w _ (.blk g77 ((ofB cpu r opn m).cells A76 c76) 27 :: .row (.slice A68 ((ofB cpu r opn m).evs.length) c68) ((ofB cpu r opn m).evs.length) ((ofB cpu r opn m).evs.flatMap evL) 41 11 :: .blk g13 #[vB 1, vB cpu, vI 0, vI 0, .slice A59 ((evsI (r.take m0)).length) c59] 27 :: .row (.slice A59 ((evsI (r.take m0)).length) c59) ((evsI (r.take m0)).length) ((evsI (r.take m0)).flatMap evL) 41 11 :: .row (.slice A78 ((q ++ [(⟨ofB cpu r opn m, A76, c76⟩ : Hb)]).length) c78) ((q ++ [(⟨ofB cpu r opn m, A76, c76⟩ : Hb)]).length) ((q ++ [(⟨ofB cpu r opn m, A76, c76⟩ : Hb)]).flatMap hbL) 27 5 :: .blk g6 #[vI opn] 3 :: .blk g5 #[.slice X r.length cc] 28 :: .blk g4 #[vB cpu] 5 :: hbF 41 (q ++ [(⟨ofB cpu r opn m, A76, c76⟩ : Hb)])) := HM
  refine qa ?_
  refine fy HF HM 0 rfl rfl rfl (Yl.qh rfl rfl (by kernel_rfl) (fun _ h => h.cell (i := 6) rfl rfl)) fun a HF => ?_
  refine fp HF 1 1 [(80, vI m)] fun a HF => ?_
  refine fy HF HM 2 rfl rfl rfl (Yl.qh rfl rfl (by kernel_rfl) (fun _ h => h.cell (i := 6) rfl rfl)) fun a HF => ?_
  refine fy HF HM 3 rfl rfl rfl (Yl.len rfl rfl (by kernel_rfl)) fun a HF => ?_
  refine fy HF HM 4 rfl rfl rfl (Yl.qh rfl rfl (by kernel_rfl) (fun _ h => h.cell (i := 6) rfl rfl)) fun a HF => ?_
  refine fy HF HM 5 rfl rfl rfl (Yl.len rfl rfl (by kernel_rfl)) fun a HF => ?_
  refine fy HF HM 6 rfl rfl rfl (v := .slice (if r.length = m then X else X.map (·.add (m * 12))) (r.length - m) (r.length - m)) (Yl.q0d ei_it (i := m) (j := r.length) (q := r.length) rfl rfl rfl rfl rfl (by omega) (by omega) (by omega)) fun a HF => ?_
  replace HF := HF.sp 85 (.slice (if r.length = m then X else X.map (·.add (m * 12))) ((r.drop m).length) ((r.drop m).length)) rfl (by rw [List.length_drop])
  refine fo HF 7 rfl rfl ?_
  refine zd HF HM (i := 6) rfl rfl rfl rfl (by kernel_rfl) rfl rfl (by simp) ?_
  clear HM; intro w18_7 HM
  refine qb rfl ?_
  exact ⟨_, (by rw [List.length_drop]; omega), (r.drop m), if r.length = m then X else X.map (·.add (m * 12)), (r.drop m).length, (q ++ [(⟨ofB cpu r opn m, A76, c76⟩ : Hb)]), (f - 1), A78, c78, Rd.q0e qaq hX (by omega) (Nat.le_refl _), Nat.le_refl _, hGr.drop m, by rw [List.length_drop]; omega, by rw [List.length_drop]; omega, by rw [← hq, hst, List.map_append, List.append_assoc]; rfl, hc78, by rw [List.length_append, List.length_drop, List.length_singleton]; omega, rfl, HF.sub (by kernel_rfl), HM.picksT 8 [4, 5, 6, 7] (by decide) (by decide) rfl⟩
 have hd50 := of_decide_eq_false hb50
 have hq2 : q.map Hb.b = cutGo cpu opn lim l.length l := by rw [← hq, qh7 (by omega), List.append_nil]
 refine qd HF rfl (wp_exit (wp_seq (qa ?_)))
 refine fp HF 3 0 [(9, vI 0), (8, .slice Ao q.length co)] fun a HF => ?_
 refine qb rfl (wp_ret ?_)
 replace HM := HM.picksT (fs' := (.row (.slice Ao q.length co) q.length (q.flatMap hbL) 27 5 :: hbF 41 q)) 4 [0] (by decide) (by decide) rfl
 exact ret2 rfl HF (.tmp HF rfl) (.tmp HF rfl) (by rw [qmh (by omega) hgood (by omega), ← hq2]; exact qn9 HM hco)
theorem qm1 (cpu : Nat) (A : Option Addr) (n c : Nat) (l : List It) (opn : Int) (hok : ∀ x ∈ l, x.Ok) (ho : I64 opn) (w : World) (hr : Rd w w.heap.size 12 A n (l.flatMap itL)) (hln : l.length = n) (hn : n ≤ 1000000) :
    Calls Tryz.prog 59 #[.int .u8 (cpu : Int), .slice A n c, .int .i64 opn] w (Is w (.bool (qdu cpu l opn))) := by
 refine qg (vs := [vB cpu, .slice A n c, vI opn]) Tryz.func59 rfl rfl (by kernel_rfl) (σ0 := [(0, vB cpu), (1, .slice A n c), (2, vI opn)]) rfl ?_
 intro a HF
 have HM := Mem.start w
 refine wp_seq (qa ?_)
 refine fp HF 1 0 [(6, .bool false)] fun a HF => ?_
 refine qb rfl (wp_seq (qa ?_))
 refine fp HF 1 0 [(7, .slice none 0 0)] fun a HF => ?_
 refine qb rfl ?_
 replace HM := HM.nil 112 11
 refine wp_seq (wp_seq (qa ?_))
 refine fp HF 3 0 [(14, .bool (decide ((opn : Int) < (0 : Int))))] fun a HF => ?_
 rcases HF.tf 14 rfl with ⟨hb14, HF⟩ | ⟨hb14, HF⟩
 ·
  have hd14 := of_decide_eq_true hb14
  refine fp HF 3 3 [(17, .bool true)] fun a HF => ?_
  refine qb rfl (qe HF rfl (wp_seq (qa ?_)))
  refine fp HF 1 0 [(6, .bool false)] fun a HF => ?_
  refine qb rfl (wp_ret ?_)
  exact ret1 rfl HF (.tmp HF rfl) (⟨by rw [qjr (by omega)], HM.below⟩)
 have hd14 := of_decide_eq_false hb14
 refine fp HF 3 3 [(17, .bool (decide ((opn : Int) > (281474976710656 : Int))))] fun a HF => ?_
 refine qb rfl ?_
 rcases HF.tf 17 rfl with ⟨hb17, HF⟩ | ⟨hb17, HF⟩
 ·
  have hd17 := of_decide_eq_true hb17
  refine qe HF rfl (wp_seq (qa ?_))
  refine fp HF 1 0 [(6, .bool false)] fun a HF => ?_
  refine qb rfl (wp_ret ?_)
  exact ret1 rfl HF (.tmp HF rfl) (⟨by rw [qjr (by omega)], HM.below⟩)
 have hd17 := of_decide_eq_false hb17
 refine qd HF rfl (wp_skip (wp_seq (qa ?_)))
 refine fp HF 2 0 [(8, vI opn)] fun a HF => ?_
 refine qb rfl (wp_seq (wp_seq (qa ?_)))
 refine fp HF 1 0 [(9, vI 0)] fun a HF => ?_
 refine qb rfl (wp_block ?_)
 refine qs (fun mS aS wS => ∃ (k : Nat) (u : Int) (Ak : Option Addr) (ck : Nat), (k ≤ n) ∧ (k ≤ ck) ∧ (0 ≤ u) ∧ (u ≤ 281474976710656) ∧ (qbn cpu opn l = qbn cpu u (l.drop k)) ∧ mS = n - k ∧ Fr aS 73 [] [(9, vI k), (8, vI u), (17, .bool false), (7, .slice Ak k ck), (6, .bool false), (0, vB cpu), (1, .slice A n c), (2, vI opn)] ∧ Mem w wS [.row (.slice Ak k ck) k ((evsI (l.take k)).flatMap evL) 112 11]) (m := n - 0) ⟨0, opn, none, 0, Nat.zero_le _, Nat.le_refl _, by omega, by omega, rfl, rfl, HF.sub (by kernel_rfl), HM.picks [0] (by decide) rfl⟩ ?_
 clear HF HM; rintro mS a w_ ⟨k, u, Ak, ck, hk, hck, hu0, hu1, hup, rfl, HF, HM⟩
 refine wp_seq (wp_seq (qa ?_))
 refine fp HF 2 0 [(20, .slice A n c), (19, vI k)] fun a HF => ?_
 refine fy HF HM 2 rfl rfl rfl (Yl.len rfl rfl (by kernel_rfl)) fun a HF => ?_
 refine fp HF 1 3 [(22, .bool (decide ((k : Int) < (n : Int))))] fun a HF => ?_
 refine qb rfl ?_
 rcases HF.tf 22 rfl with ⟨hb22, HF⟩ | ⟨hb22, HF⟩
 ·
  have hd22 := of_decide_eq_true hb22
  have hk22 : k < n := by omega
  have hat := qq1 (cpu := cpu) (s := u) (l := l) (k := k) It.zero (by omega)
  refine qe HF rfl (wp_skip (wp_seq (wp_block (wp_seq (wp_seq (qa ?_))))))
  refine fp HF 2 0 [(26, vI k), (25, .slice A n c)] fun a HF => ?_
  obtain ⟨gA, oA, rfl, _⟩ := hr.qy (Nat.lt_of_le_of_lt (Nat.zero_le _) (show k < n from by omega)) (by decide)
  refine fy HF HM 2 rfl rfl rfl (v := vP gA (oA + k * 12)) (Yl.ix gA oA k 12 rfl rfl rfl) fun a HF => ?_
  refine fp HF 1 3 [(28, vP gA (oA + k * 12 + 11))] fun a HF => ?_
  refine fy HF HM 4 rfl rfl rfl (v := vI ((l.getD k It.zero).before)) (Yl.qh rfl rfl (by kernel_rfl) (fun _ h => (h.old hr).partAt qaq (k := k) (j := 11) (x := (l.getD k It.zero)) ((getD_at It.zero (k := k) (by first | omega | (simp; omega)))) rfl)) fun a HF => ?_
  refine fp HF 2 5 [(31, .bool (decide (((l.getD k It.zero).before : Int) < (0 : Int))))] fun a HF => ?_
  rcases HF.tf 31 rfl with ⟨hb31, HF⟩ | ⟨hb31, HF⟩
  ·
   have hd31 := of_decide_eq_true hb31
   refine fp HF 19 7 [(50, .bool true)] fun a HF => ?_
   refine qb rfl (qe HF rfl (wp_seq (qa ?_)))
   refine fp HF 1 0 [(6, .bool false)] fun a HF => ?_
   refine qb rfl (wp_ret ?_)
   exact ret1 rfl HF (.tmp HF rfl) (⟨by rw [qia (by rw [hup, hat, decide_eq_false (by omega), Bool.false_and])], HM.below⟩)
  have hd31 := of_decide_eq_false hb31
  refine fp HF 2 7 [(33, vI k), (32, .slice (some ⟨gA, oA, none⟩) n c)] fun a HF => ?_
  refine fy HF HM 9 rfl rfl rfl (v := vP gA (oA + k * 12)) (Yl.ix gA oA k 12 rfl rfl rfl) fun a HF => ?_
  refine fp HF 1 10 [(35, vP gA (oA + k * 12 + 11))] fun a HF => ?_
  refine fy HF HM 11 rfl rfl rfl (v := vI ((l.getD k It.zero).before)) (Yl.qh rfl rfl (by kernel_rfl) (fun _ h => (h.old hr).partAt qaq (k := k) (j := 11) (x := (l.getD k It.zero)) ((getD_at It.zero (k := k) (by first | omega | (simp; omega)))) rfl)) fun a HF => ?_
  refine fp HF 2 12 [(38, vI (IntKind.i64.wrap (281474976710656 - u)))] fun a HF => ?_
  replace HF := HF.sp 38 (vI (281474976710656 - u)) rfl (qgt ⟨by omega, by omega⟩)
  refine fp HF 3 14 [(41, .bool (decide (((l.getD k It.zero).before : Int) > (281474976710656 - u : Int))))] fun a HF => ?_
  rcases HF.tf 41 rfl with ⟨hb41, HF⟩ | ⟨hb41, HF⟩
  ·
   have hd41 := of_decide_eq_true hb41
   refine fp HF 9 17 [(50, .bool true)] fun a HF => ?_
   refine qb rfl (qe HF rfl (wp_seq (qa ?_)))
   refine fp HF 1 0 [(6, .bool false)] fun a HF => ?_
   refine qb rfl (wp_ret ?_)
   exact ret1 rfl HF (.tmp HF rfl) (⟨by rw [qia (by rw [hup, hat, decide_eq_false (by omega), Bool.false_and])], HM.below⟩)
  have hd41 := of_decide_eq_false hb41
  refine fp HF 2 17 [(43, vI k), (42, .slice (some ⟨gA, oA, none⟩) n c)] fun a HF => ?_
  refine fy HF HM 19 rfl rfl rfl (v := vP gA (oA + k * 12)) (Yl.ix gA oA k 12 rfl rfl rfl) fun a HF => ?_
  refine fp HF 2 20 [(46, vP gA (oA + k * 12 + 2))] fun a HF => ?_
  refine fy HF HM 22 rfl rfl rfl (v := vB ((l.getD k It.zero).e.cpu)) (Yl.qh rfl rfl (by kernel_rfl) (fun _ h => (h.old hr).partAt qaq (k := k) (j := 2) (x := (l.getD k It.zero)) ((getD_at It.zero (k := k) (by first | omega | (simp; omega)))) rfl)) fun a HF => ?_
  refine fp HF 3 23 [(50, .bool (((l.getD k It.zero).e.cpu : Int) != (cpu : Int)))] fun a HF => ?_
  refine qb rfl ?_
  rcases HF.tf 50 rfl with ⟨hb50, HF⟩ | ⟨hb50, HF⟩
  ·
   have hd50 := bne_iff_ne.1 hb50
   refine qe HF rfl (wp_seq (qa ?_))
   refine fp HF 1 0 [(6, .bool false)] fun a HF => ?_
   refine qb rfl (wp_ret ?_)
   exact ret1 rfl HF (.tmp HF rfl) (⟨by rw [qia (by rw [hup, hat, decide_eq_false (by omega), Bool.false_and])], HM.below⟩)
  have hd50 := bne_eq_false_iff_eq.1 hb50
  have hup2 : qbn cpu opn l = qbn cpu (u + (l.getD k It.zero).before) (l.drop (k + 1)) := by rw [hup, hat, decide_eq_true ⟨by omega, by omega, by omega⟩, Bool.true_and]
  refine qd HF rfl (wp_skip (wp_seq (qa ?_)))
  refine fp HF 3 0 [(53, vI k), (52, .slice (some ⟨gA, oA, none⟩) n c), (51, vI u)] fun a HF => ?_
  refine fy HF HM 3 rfl rfl rfl (v := vP gA (oA + k * 12)) (Yl.ix gA oA k 12 rfl rfl rfl) fun a HF => ?_
  refine fp HF 1 4 [(55, vP gA (oA + k * 12 + 11))] fun a HF => ?_
  refine fy HF HM 5 rfl rfl rfl (v := vI ((l.getD k It.zero).before)) (Yl.qh rfl rfl (by kernel_rfl) (fun _ h => (h.old hr).partAt qaq (k := k) (j := 11) (x := (l.getD k It.zero)) ((getD_at It.zero (k := k) (by first | omega | (simp; omega)))) rfl)) fun a HF => ?_
  refine fp HF 1 6 [(57, vI (IntKind.i64.wrap (u + ((l.getD k It.zero).before))))] fun a HF => ?_
  replace HF := HF.sp 57 (vI (u + ((l.getD k It.zero).before))) rfl (qgt ⟨by omega, by omega⟩)
  refine fp HF 1 7 [(8, vI (u + ((l.getD k It.zero).before)))] fun a HF => ?_
  refine qb rfl (qa ?_)
  refine fp HF 3 0 [(60, vI k), (59, .slice (some ⟨gA, oA, none⟩) n c), (58, .slice Ak k ck)] fun a HF => ?_
  refine fy HF HM 3 rfl rfl rfl (v := vP gA (oA + k * 12)) (Yl.ix gA oA k 12 rfl rfl rfl) fun a HF => ?_
  refine fp HF 1 4 [(62, vP gA (oA + k * 12))] fun a HF => ?_
  refine fy HF HM 5 rfl rfl rfl (v := .agg ((l.getD k It.zero).e.cells)) (Yl.zc rfl rfl ⟨(by kernel_rfl), (by kernel_rfl)⟩ rfl (fun _ h => (h.old hr).q0f qaq (k := k) (j := 0) (m := 11) (x := (l.getD k It.zero)) ((getD_at It.zero (k := k) (by first | omega | (simp; omega)))) rfl)) fun a HF => ?_
  refine fo HF 6 rfl rfl ?_
  refine ze HF HM (vs := [(0, .agg ((l.getD k It.zero).e.cells))]) (cs := (l.getD k It.zero).e.cells) rfl qj0 (by decide) rfl (by kernel_rfl) rfl (by decide) ?_
  clear HF HM; intro a w64 g64 HF HM
  refine fo HF 7 rfl rfl ?_
  refine qu HF HM (i := 1) rfl qj0 rfl rfl rfl (news := (evL (l.getD k It.zero).e)) (HM.rdBlk (i := 0) (n := 1) (size := 11) rfl rfl) (qan _) (by omega) (by omega) rfl (by decide) ?_
  clear HF HM; intro a w65 A65 c65 HF HM hc65
  rw [show ((evsI (l.take k)).flatMap evL) ++ (evL (l.getD k It.zero).e) = (evsI (l.take (k + 1))).flatMap evL from by rw [qgj (by omega)]] at HM
  refine fp HF 1 8 [(7, .slice A65 (k + 1) c65)] fun a HF => ?_
  refine qb rfl ?_
  replace HF := HF.to [(7, .slice A65 (k + 1) c65), (8, vI (u + ((l.getD k It.zero).before))), (50, .bool false), (22, .bool true), (9, vI k), (17, .bool false), (6, .bool false), (0, vB cpu), (1, .slice (some ⟨gA, oA, none⟩) n c), (2, vI opn)]
  refine qa ?_
  refine fp HF 2 0 [(24, vI (IntKind.i64.wrap ((k : Int) + 1)))] fun a HF => ?_
  replace HF := HF.sp 24 (vI (k + 1 : Nat)) rfl (qi (by omega) (by omega))
  refine fp HF 1 2 [(9, vI (k + 1 : Nat))] fun a HF => ?_
  refine qb rfl ?_
  exact ⟨_, (by omega), k + 1, (u + (l.getD k It.zero).before), A65, c65, by omega, hc65, by omega, by omega, hup2, rfl, HF.sub (by kernel_rfl), HM.picks [1] (by decide) rfl⟩
 have hd22 := of_decide_eq_false hb22
 have hkn : k = n := by omega
 have hut : qbn cpu opn l = true := by rw [hup, List.drop_of_length_le (by omega)]; rfl
 replace HM := HM.reRow (i := 0) (n' := n) (ys := (evsI l).flatMap evL) rfl (by omega) (by rw [hkn, List.take_of_length_le (by omega)])
 replace HF := HF.as (t := 7) (u := .slice Ak n ck) rfl (by rw [hkn])
 refine qd HF rfl (wp_exit (wp_seq (qa ?_)))
 refine fp HF 1 0 [(67, .slice Ak n ck)] fun a HF => ?_
 refine fo HF 1 rfl rfl ?_
 refine e_cl HF [.slice Ak n ck] rfl rfl ((qfr Ak n ck (evsI l) (qt0 hok) _ (HM.rd (i := 0) rfl) (by omega) (by rw [qek]; exact hln))) ?_
 rintro _ w68 ⟨rfl, hbw⟩
 refine ⟨_, rfl, ?_⟩
 replace HM := HM.call hbw
 clear HF; intro a HF
 refine fp HF 5 2 [(11, vI ((rowR (evsI l)).2))] fun a HF => ?_
 refine qb rfl (wp_seq (qa ?_))
 refine fp HF 3 0 [(6, .bool (((rowR (evsI l)).2 : Int) == (0 : Int)))] fun a HF => ?_
 refine qb rfl (wp_ret ?_)
 exact ret1 rfl HF (.tmp HF rfl) (⟨by rw [qty (by omega) hut]; congr 2; rw [Bool.eq_iff_iff, beq_iff_eq, decide_eq_true_eq]; omega, HM.below⟩)
theorem qm2 (A : Option Addr) (n c : Nat) (l : List It) (w : World) (hr : Rd w w.heap.size 12 A n (l.flatMap itL)) (hln : l.length = n) (hn : n ≤ 1000000) :
    Calls Tryz.prog 31 #[.slice A n c] w fun r w' => (∃ A c, r = .returned (.slice A n c) ∧ w'.ownsRow w.heap.size 116 12 (.slice A n c) n (l.flatMap itL) ∧ n ≤ c) ∧ Below w.heap.size w w' := by
 refine qg (vs := [.slice A n c]) Tryz.func31 rfl rfl (by kernel_rfl) (σ0 := [(0, .slice A n c)]) rfl ?_
 intro a HF
 have HM := Mem.start w
 refine wp_seq (qa ?_)
 refine fp HF 1 0 [(2, .slice none 0 0)] fun a HF => ?_
 refine qb rfl (wp_seq (qa ?_))
 refine fp HF 1 0 [(3, .slice none 0 0)] fun a HF => ?_
 refine qb rfl ?_
 replace HM := HM.nil 116 12
 refine wp_seq (wp_seq (qa ?_))
 refine fp HF 1 0 [(6, .slice A n c)] fun a HF => ?_
 refine fy HF HM 1 rfl rfl rfl (Yl.len rfl rfl (by kernel_rfl)) fun a HF => ?_
 refine fp HF 1 2 [(8, vI 0)] fun a HF => ?_
 refine qb rfl (wp_block ?_)
 refine qs (fun mS aS wS => ∃ (k : Nat) (Ak : Option Addr) (ck : Nat), (k ≤ n) ∧ (k ≤ ck) ∧ mS = n - k ∧ Fr aS 22 [] [(8, vI k), (7, vI n), (6, .slice A n c), (3, .slice Ak k ck), (2, .slice none 0 0)] ∧ Mem w wS [.row (.slice Ak k ck) k ((l.take k).flatMap itL) 116 12]) (m := n - 0) ⟨0, none, 0, Nat.zero_le _, Nat.le_refl _, rfl, HF.sub (by kernel_rfl), HM.picks [0] (by decide) rfl⟩ ?_
 clear HF HM; rintro mS a w_ ⟨k, Ak, ck, hk, hck, rfl, HF, HM⟩
 refine wp_seq (qa ?_)
 refine fp HF 1 0 [(9, .bool (decide ((k : Int) < (n : Int))))] fun a HF => ?_
 refine qb rfl (wp_seq ?_)
 rcases HF.tf 9 rfl with ⟨hb9, HF⟩ | ⟨hb9, HF⟩
 ·
  have hd9 := of_decide_eq_true hb9
  have hk9 : k < n := by omega
  refine qe HF rfl (wp_skip (wp_seq (wp_block (wp_seq (qa ?_)))))
  obtain ⟨gA, oA, rfl, _⟩ := hr.qy (Nat.lt_of_le_of_lt (Nat.zero_le _) (show k < n from by omega)) (by decide)
  refine fy HF HM 0 rfl rfl rfl (v := vP gA (oA + k * 12)) (Yl.ix gA oA k 12 rfl rfl rfl) fun a HF => ?_
  refine fy HF HM 1 rfl rfl rfl (v := .agg ((l.getD k It.zero).cells)) (Yl.zc rfl rfl si_it rfl (fun _ h => (h.old hr).zt qaq ((getD_at It.zero (k := k) (by first | omega | (simp; omega)))))) fun a HF => ?_
  refine fo HF 2 rfl rfl ?_
  refine qt HF HM (cs := #[vI 0, vI 0, vB 0, vB 0, vI 0, vI 0, vI 0, vI 0, vI 0, vQ 0, vI 0, vI 0]) rfl (by kernel_rfl) rfl (by decide) ?_
  clear HF HM; intro a w5 g5 HF HM
  refine fo HF 3 rfl rfl ?_
  refine e_sa HF HM 0 rfl rfl rfl rfl rfl si_it rfl rfl (qpk (l.getD k It.zero)) ?_
  clear HM; intro w4_3 HM
  refine qb rfl (qa ?_)
  refine fp HF 2 0 [(13, vP g5 0), (12, .slice Ak k ck)] fun a HF => ?_
  refine fy HF HM 2 rfl rfl rfl (v := .agg #[vI ((l.getD k It.zero).e.seq), vI ((l.getD k It.zero).e.time), vB ((l.getD k It.zero).e.cpu), vB ((l.getD k It.zero).e.kind), vI ((l.getD k It.zero).e.task), vI ((l.getD k It.zero).e.group), vI ((l.getD k It.zero).e.to), vI ((l.getD k It.zero).e.weight), vI ((l.getD k It.zero).e.ticks), vQ ((l.getD k It.zero).e.mask), vI ((l.getD k It.zero).e.got)]) (Yl.zc rfl rfl ⟨(by kernel_rfl), (by kernel_rfl)⟩ rfl (fun _ h => h.sub (i := 0) rfl 0 rfl)) fun a HF => ?_
  refine fp HF 1 3 [(15, vP g5 11)] fun a HF => ?_
  refine fy HF HM 4 rfl rfl rfl (v := vI ((l.getD k It.zero).before)) (Yl.qh rfl rfl (by kernel_rfl) (fun _ h => h.cell (i := 0) rfl (rfl))) fun a HF => ?_
  refine fy HF HM 5 rfl rfl rfl (v := .agg #[vI ((l.getD k It.zero).e.seq), vI ((l.getD k It.zero).e.time), vB ((l.getD k It.zero).e.cpu), vB ((l.getD k It.zero).e.kind), vI ((l.getD k It.zero).e.task), vI ((l.getD k It.zero).e.group), vI ((l.getD k It.zero).e.to), vI ((l.getD k It.zero).e.weight), vI ((l.getD k It.zero).e.ticks), vQ ((l.getD k It.zero).e.mask), vI ((l.getD k It.zero).e.got), vI ((l.getD k It.zero).before)]) (Yl.build (vs := [(0, .agg #[vI ((l.getD k It.zero).e.seq), vI ((l.getD k It.zero).e.time), vB ((l.getD k It.zero).e.cpu), vB ((l.getD k It.zero).e.kind), vI ((l.getD k It.zero).e.task), vI ((l.getD k It.zero).e.group), vI ((l.getD k It.zero).e.to), vI ((l.getD k It.zero).e.weight), vI ((l.getD k It.zero).e.ticks), vQ ((l.getD k It.zero).e.mask), vI ((l.getD k It.zero).e.got)]), (1, vI ((l.getD k It.zero).before))]) rfl (by kernel_rfl) (by kernel_rfl)) fun a HF => ?_
  refine fo HF 6 rfl rfl ?_
  refine ze HF HM (vs := [(0, .agg #[vI ((l.getD k It.zero).e.seq), vI ((l.getD k It.zero).e.time), vB ((l.getD k It.zero).e.cpu), vB ((l.getD k It.zero).e.kind), vI ((l.getD k It.zero).e.task), vI ((l.getD k It.zero).e.group), vI ((l.getD k It.zero).e.to), vI ((l.getD k It.zero).e.weight), vI ((l.getD k It.zero).e.ticks), vQ ((l.getD k It.zero).e.mask), vI ((l.getD k It.zero).e.got), vI ((l.getD k It.zero).before)])]) (cs := #[vI ((l.getD k It.zero).e.seq), vI ((l.getD k It.zero).e.time), vB ((l.getD k It.zero).e.cpu), vB ((l.getD k It.zero).e.kind), vI ((l.getD k It.zero).e.task), vI ((l.getD k It.zero).e.group), vI ((l.getD k It.zero).e.to), vI ((l.getD k It.zero).e.weight), vI ((l.getD k It.zero).e.ticks), vQ ((l.getD k It.zero).e.mask), vI ((l.getD k It.zero).e.got), vI ((l.getD k It.zero).before)]) rfl qtz (by decide) rfl (by kernel_rfl) rfl (by decide) ?_
  clear HF HM; intro a w18 g18 HF HM
  refine fo HF 7 rfl rfl ?_
  refine qu HF HM (i := 2) rfl qtz rfl rfl rfl (news := (itL (l.getD k It.zero))) (HM.rdBlk (i := 0) (n := 1) (size := 12) rfl rfl) (qpk _) (by omega) (by omega) rfl (by decide) ?_
  clear HF HM; intro a w19 A19 c19 HF HM hc19
  rw [show ((l.take k).flatMap itL) ++ (itL (l.getD k It.zero)) = (l.take (k + 1)).flatMap itL from by rw [qdq It.zero (by omega : k < l.length), List.flatMap_append, List.flatMap_singleton]] at HM
  refine fp HF 1 8 [(3, .slice A19 (k + 1) c19)] fun a HF => ?_
  refine qb rfl (qa ?_)
  refine fp HF 1 0 [(20, vI (IntKind.i64.wrap ((k : Int) + 1)))] fun a HF => ?_
  replace HF := HF.sp 20 (vI (k + 1 : Nat)) rfl (qi (by omega) (by omega))
  refine fp HF 1 1 [(8, vI (k + 1 : Nat))] fun a HF => ?_
  refine qb rfl ?_
  exact ⟨_, (by omega), k + 1, A19, c19, by omega, hc19, rfl, HF.sub (by kernel_rfl), HM.picks [2] (by decide) rfl⟩
 have hd9 := of_decide_eq_false hb9
 have hkn : k = n := by omega
 refine qd HF rfl (wp_exit (wp_seq (qa ?_)))
 refine fp HF 2 0 [(2, .slice Ak k ck)] fun a HF => ?_
 refine qb rfl (wp_ret ?_)
 exact ret1 rfl HF (.tmp HF rfl) (⟨⟨Ak, ck, by rw [hkn], by have h := HM.own (i := 0) rfl; rw [hkn, List.take_of_length_le (by omega)] at h; exact h, by omega⟩, HM.below⟩)
theorem qy1 : SI Tryz.prog 109 6 := ⟨by kernel_rfl, by kernel_rfl⟩
theorem qrk (W w : World) (gb lp B : Nat) (A : Option Addr) (c : Nat) (l : List Nat) (Inv : List Nat → List Fact → Prop) (Stop : List Fact → Prop) (F0 : List Fact) (hL : LaidX B W) (hB : B ≤ W.heap.size) (hr : Rd W W.heap.size 1 A l.length (l.map B8)) (hc : l.length ≤ c) (hl : ∀ b ∈ l, b < 256) (hn : l.length ≤ 100000000)
    (hy : qjt W lp Inv Stop) (hI0 : Inv l F0) (HM : Mem W w (.blk gb #[.slice A l.length c] 34 :: F0)) :
    Calls Tryz.prog 72 (.func (.yield lp) #[] #[] :: [.pointer (some ⟨gb, 0, none⟩)]).toArray w (qub W Inv Stop) := by
 refine qg (vs := [.func (.yield lp) #[] #[], vP gb 0]) Tryz.func72 rfl rfl (by kernel_rfl) (σ0 := [(0, .func (.yield lp) #[] #[]), (1, vP gb 0)]) rfl ?_
 intro a HF
 refine wp_block ?_
 refine qs (fun mS aS wS => ∃ (rest : List Nat) (X : Option Addr) (cc : Nat) (F : List Fact), (Inv rest F) ∧ (Rd W W.heap.size 1 X rest.length (rest.map B8)) ∧ (rest.length ≤ cc) ∧ (∀ b ∈ rest, b < 256) ∧ (rest.length ≤ l.length) ∧ mS = rest.length ∧ Fr aS 29 [] [(0, .func (.yield lp) #[] #[]), (1, vP gb 0)] ∧ Mem W wS (.blk gb #[.slice X rest.length cc] 34 :: F)) (m := l.length) ⟨l, A, c, F0, hI0, hr, hc, hl, Nat.le_refl _, rfl, HF.sub (by kernel_rfl), HM.picksT 1 [0] (by decide) (by decide) rfl⟩ ?_
 clear HF HM; rintro mS a w_ ⟨rest, X, cc, F, hI, hX, hcc, hrl, hrn, rfl, HF, HM⟩
 refine wp_seq (wp_seq (qa ?_))
 refine fy HF HM 0 rfl rfl rfl (Yl.qh rfl rfl (by kernel_rfl) (fun _ h => h.cell (i := 0) rfl rfl)) fun a HF => ?_
 refine fy HF HM 1 rfl rfl rfl (Yl.len rfl rfl (by kernel_rfl)) fun a HF => ?_
 refine fp HF 1 2 [(8, .bool (decide ((rest.length : Int) > (0 : Int))))] fun a HF => ?_
 refine qb rfl ?_
 rcases HF.tf 8 rfl with ⟨hb8, HF⟩ | ⟨hb8, HF⟩
 ·
  have hd8 := of_decide_eq_true hb8
  have hne : 0 < rest.length := by omega
  obtain ⟨b, m, er, hq⟩ : ∃ b m er, readB rest = (b, m, er) := ⟨_, _, _, rfl⟩
  refine qe HF rfl (wp_skip (wp_block (wp_seq (qa ?_))))
  refine fy HF HM 0 rfl rfl rfl (Yl.qh rfl rfl (by kernel_rfl) (fun _ h => h.cell (i := 0) rfl rfl)) fun a HF => ?_
  refine fo HF 1 rfl rfl ?_
  refine e_cl HF [.slice X rest.length cc] rfl rfl (qky X rest.length cc rest B _ (hL.mem HM hB) (HM.le hB) (HM.old hX) hcc rfl (by omega) hrl hq) ?_
  rintro _ w11 ⟨⟨A11, c11, rfl, ho, hc11⟩, hbw⟩
  refine ⟨_, rfl, ?_⟩
  replace HM := HM.callRow hbw ho
  clear HF; intro a HF
  refine fp HF 4 2 [(14, vI er), (13, vI m), (12, .agg (b.cells A11 c11))] fun a HF => ?_
  refine fo HF 6 rfl rfl ?_
  refine qt HF HM (cs := #[vB 0, vB 0, vI 0, vI 0, .slice none 0 0]) rfl (by kernel_rfl) rfl (by decide) ?_
  clear HF HM; intro a w3 g3 HF HM
  refine fo HF 7 rfl rfl ?_
  refine e_sa HF HM 0 rfl rfl rfl rfl rfl si_bk rfl rfl (qbk _ _ _) ?_
  clear HM; intro w1_7 HM
  refine fp HF 2 8 [(5, vI er), (4, vI m)] fun a HF => ?_
  refine qb rfl (wp_seq (wp_seq ?_))
  refine qmp (i := 5) ?_
  refine fp HF 1 0 [(15, .func (.yield lp) #[] #[])] fun a HF => ?_
  refine fy HF HM 1 rfl rfl rfl (v := .agg (b.cells A11 c11)) (Yl.zc rfl rfl si_bk rfl (fun _ h => qf (h.blk (i := 0) rfl))) fun a HF => ?_
  refine fp HF 1 2 [(17, vI m)] fun a HF => ?_
  refine fy HF HM 3 rfl rfl rfl (v := .agg #[vB b.kind, vB b.cpu, vI b.lost, vI b.next, .slice A11 b.evs.length c11, vI m]) (Yl.build (vs := [(0, .agg (b.cells A11 c11)), (1, vI m)]) rfl (by kernel_rfl) (by kernel_rfl)) fun a HF => ?_
  refine fp HF 1 4 [(19, vI er)] fun a HF => ?_
  refine qb rfl ?_
  refine qwt HF (i := 5) (vs := [.agg #[vB b.kind, vB b.cpu, vI b.lost, vI b.next, .slice A11 b.evs.length c11, vI m], vI er]) rfl rfl rfl rfl rfl rfl (by decide) (hy rest F _ _ A11 c11 b m er hI hq hne hrl hc11 (Mem.qy7 (es := [.blk g3 (b.cells A11 c11) 27, .blk gb #[.slice X rest.length cc] 34]) (HM.picksT (fs' := (.row (.slice A11 b.evs.length c11) b.evs.length (b.evs.flatMap evL) 41 11 :: .blk g3 (b.cells A11 c11) 27 :: .blk gb #[.slice X rest.length cc] 34 :: F)) 3 [1, 0, 2] (by decide) (by decide) rfl))) qi1 ?_
  clear HF HM; rintro v w20 a ⟨F2, HM, (⟨he, hv, hI2⟩ | ⟨he, hv, hS2⟩)⟩ HF <;> injection hv with hv <;> subst hv
  ·
   replace HM : Mem W w20 (.blk g3 (b.cells A11 c11) 27 :: .blk gb #[.slice X rest.length cc] 34 :: F2) := Mem.qvb (es := [.blk g3 (b.cells A11 c11) 27, .blk gb #[.slice X rest.length cc] 34]) HM
   have hq0 := hq; rw [he] at hq0; have hof := qkx hrl hq0; have hm13 := hof.least; have hml := hof.len; have hst : (rest.drop m).length < rest.length := by rw [List.length_drop]; omega
   refine fp HF 4 6 [(24, .bool ((er : Int) != (0 : Int))), (22, .bool false)] fun a HF => ?_
   replace HF := HF.sp 24 (.bool false) rfl (by rw [he]; simp)
   refine fp HF 1 10 [(25, .bool false)] fun a HF => ?_
   refine qb rfl (qd HF rfl (wp_skip (qa ?_)))
   refine fy HF HM 0 rfl rfl rfl (Yl.qh rfl rfl (by kernel_rfl) (fun _ h => h.cell (i := 1) rfl rfl)) fun a HF => ?_
   refine fp HF 1 1 [(27, vI m)] fun a HF => ?_
   refine fy HF HM 2 rfl rfl rfl (v := .slice (if cc = m then X else X.map (·.add (m * 1))) (rest.length - m) (cc - m)) (Yl.sliceFrom ei_u8 (j := m) rfl rfl rfl (by omega)) fun a HF => ?_
   replace HF := HF.sp 28 (.slice (if cc = m then X else X.map (·.add (m * 1))) ((rest.drop m).length) (cc - m)) rfl (by rw [List.length_drop])
   refine fo HF 3 rfl rfl ?_
   refine zd HF HM (i := 1) rfl rfl rfl rfl (by kernel_rfl) rfl rfl (by simp) ?_
   clear HM; intro w3_3 HM
   refine qb rfl ?_
   exact ⟨_, hst, (rest.drop m), if cc = m then X else X.map (·.add (m * 1)), cc - m, F2, hI2, Rd.q0k hX hml hcc, by rw [List.length_drop]; omega, qbm hrl m, by omega, rfl, HF.sub (by kernel_rfl), HM.picksT 2 [1] (by decide) (by decide) rfl⟩
  ·
   replace HM : Mem W w20 (.blk g3 (b.cells A11 c11) 27 :: .blk gb #[.slice X rest.length cc] 34 :: F2) := Mem.qvb (es := [.blk g3 (b.cells A11 c11) 27, .blk gb #[.slice X rest.length cc] 34]) HM
   refine fp HF 5 6 [(25, .bool true)] fun a HF => ?_
   refine qb rfl (qe HF rfl (wp_ret ?_))
   exact ret0 rfl HF (⟨_, rfl, F2, Mem.qqe [.blk g3 (b.cells A11 c11) 27, .blk gb #[.slice X rest.length cc] 34] HM, .inr hS2⟩)
 have hd8 := of_decide_eq_false hb8
 have hr0 : rest = [] := List.length_eq_zero_iff.1 (by omega)
 refine qd HF rfl (wp_exit ?_)
 subst hr0
 exact norm0 rfl HF (⟨_, rfl, F, Mem.qqe [.blk gb #[.slice X ([] : List Nat).length cc] 34] HM, .inl hI⟩)
theorem qu2 (A : Option Addr) (n c : Nat) (w : World) :
    Calls Tryz.prog 51 #[.slice A n c] w fun r w' => ∃ g, r = .returned (.func (.func 72) #[] #[.pointer (some ⟨g, 0, none⟩)]) ∧ Mem w w' [.blk g #[.slice A n c] 34] := by
 refine qg (vs := [.slice A n c]) Tryz.func51 rfl rfl (by kernel_rfl) (σ0 := [(0, .slice A n c)]) rfl ?_
 intro a HF
 have HM := Mem.start w
 refine wp_seq (qa ?_)
 refine fo HF 0 rfl rfl ?_
 refine e_box HF HM (cs := #[.slice A n c]) rfl rfl rfl rfl (by decide) ?_
 clear HF HM; intro a w1 g1 HF HM
 refine fp HF 1 1 [(2, .nilFunc)] fun a HF => ?_
 refine qb rfl (wp_seq (qa ?_))
 refine fy HF HM 0 rfl rfl rfl (v := .func (.func 72) #[] #[vP g1 0]) (Yl.makeFunc (fst := []) (caps := [vP g1 0]) rfl rfl rfl) fun a HF => ?_
 refine fp HF 1 1 [(2, .func (.func 72) #[] #[vP g1 0])] fun a HF => ?_
 refine qb rfl (wp_ret ?_)
 exact ret1 rfl HF (.tmp HF rfl) (⟨_, rfl, HM⟩)
theorem qy2 (A : Option Addr) (c : Nat) (l : List Nat) (BB : Nat) (w : World) (hL : LaidX BB w) (hB : BB ≤ w.heap.size) (hr : Rd w w.heap.size 1 A l.length (l.map B8)) (hc : l.length ≤ c) (hl : ∀ b ∈ l, b < 256) (hn : l.length ≤ 100000000) :
    Calls Tryz.prog 19 #[.slice A l.length c] w (Is w (.tuple #[.int .i64 ((qgx l).1.length : Int), .int .i64 ((qgx l).2.1 : Int), .int .i64 ((qgx l).2.2 : Int)])) := by
 refine qk3 (vs := [.slice A l.length c]) Tryz.func19 rfl rfl (by kernel_rfl) (σ0 := [(0, .slice A l.length c)]) rfl ?_
 intro a HF
 have HM := Mem.start w
 refine wp_seq (qa ?_)
 refine fo HF 0 rfl rfl ?_
 refine qt HF HM (cs := #[vI 0]) rfl (by kernel_rfl) rfl (by decide) ?_
 clear HF HM; intro a w2 g2 HF HM
 refine fo HF 1 rfl rfl ?_
 refine qt HF HM (cs := #[vI 0]) rfl (by kernel_rfl) rfl (by decide) ?_
 clear HF HM; intro a w3 g3 HF HM
 refine fo HF 2 rfl rfl ?_
 refine qt HF HM (cs := #[vI 0]) rfl (by kernel_rfl) rfl (by decide) ?_
 clear HF HM; intro a w4 g4 HF HM
 refine qb rfl (wp_seq (wp_seq (qa ?_)))
 refine fp HF 1 0 [(9, .slice A l.length c)] fun a HF => ?_
 refine fy HF HM 1 rfl rfl rfl (Yl.len rfl rfl (by kernel_rfl)) fun a HF => ?_
 refine fp HF 1 2 [(11, .bool (decide ((l.length : Int) > (524288 : Int))))] fun a HF => ?_
 refine qb rfl ?_
 rcases HF.tf 11 rfl with ⟨hb11, HF⟩ | ⟨hb11, HF⟩
 ·
  have hd11 := of_decide_eq_true hb11
  refine qe HF rfl (wp_seq (qa ?_))
  refine fo HF 0 rfl rfl ?_
  refine zd HF HM (i := 2) rfl rfl rfl rfl (by kernel_rfl) rfl rfl (by simp) ?_
  clear HM; intro w2_0 HM
  refine fo HF 1 rfl rfl ?_
  refine zd HF HM (i := 1) rfl rfl rfl rfl (by kernel_rfl) rfl rfl (by simp) ?_
  clear HM; intro w2_1 HM
  refine fo HF 2 rfl rfl ?_
  refine zd HF HM (i := 0) rfl rfl rfl rfl (by kernel_rfl) rfl rfl (by simp) ?_
  clear HM; intro w2_2 HM
  refine qb rfl (wp_ret ?_)
  refine qzz ?_
  exact ret3 rfl HF (.cell1 (i := 2) HF HM rfl rfl (by kernel_rfl) rfl) (.cell1 (i := 1) HF HM rfl rfl (by kernel_rfl) rfl) (.cell1 (i := 0) HF HM rfl rfl (by kernel_rfl) rfl) (⟨by rw [show qgx l = ([], 0, 3) from if_pos (by omega)]; rfl, HM.below⟩)
 have hd11 := of_decide_eq_false hb11
 refine qd HF rfl (wp_skip (wp_seq (qa ?_)))
 refine fo HF 0 rfl rfl ?_
 refine qt HF HM (cs := #[vI 0]) rfl (by kernel_rfl) rfl (by decide) ?_
 clear HF HM; intro a w5 g5 HF HM
 refine fo HF 1 rfl rfl ?_
 refine qt HF HM (cs := #[vI 0]) rfl (by kernel_rfl) rfl (by decide) ?_
 clear HF HM; intro a w6 g6 HF HM
 refine fo HF 2 rfl rfl ?_
 refine zd HF HM (i := 1) rfl rfl rfl rfl (by kernel_rfl) rfl rfl (by simp) ?_
 clear HM; intro w3_2 HM
 refine fo HF 3 rfl rfl ?_
 refine zd HF HM (i := 0) rfl rfl rfl rfl (by kernel_rfl) rfl rfl (by simp) ?_
 clear HM; intro w3_3 HM
 refine qb rfl (wp_seq (wp_seq (qa ?_)))
 refine fp HF 1 0 [(12, .slice A l.length c)] fun a HF => ?_
 refine fo HF 1 rfl rfl ?_
 refine e_cl HF [.slice A l.length c] rfl rfl (qu2 A l.length c _) ?_
 rintro _ w13 ⟨gp, rfl, hm⟩
 refine ⟨_, rfl, ?_⟩
 replace HM := HM.join hm
 clear HF; intro a HF
 refine qb rfl (wp_block ?_)
 refine qzy HF HM (fun F => ∃ (k : Nat) (p : Nat) (f : Nat), (([] : List Nat).length ≤ f) ∧ ((zj l.length l).1.length = k + (zj f ([] : List Nat)).1.length) ∧ ((zj l.length l).2.1 = p + (zj f ([] : List Nat)).2.1) ∧ ((zj l.length l).2.2 = (zj f ([] : List Nat)).2.2) ∧ (k + ([] : List Nat).length ≤ l.length) ∧ (p + ([] : List Nat).length ≤ l.length) ∧ F = [.blk g6 #[vI p] 3, .blk g5 #[vI k] 3, .blk g4 #[vI 0] 49, .blk g3 #[vI 0] 3, .blk g2 #[vI 0] 3]) (fun c F => c = .ret ∧ ∃ (k : Nat) (p : Nat) (e : Nat), ((zj l.length l).1.length = k) ∧ ((zj l.length l).2.1 = p) ∧ ((zj l.length l).2.2 = e) ∧ F = [.blk g6 #[vI p] 3, .blk g5 #[vI k] 3, .blk g4 #[vI e] 49, .blk g3 #[vI p] 3, .blk g2 #[vI k] 3]) rfl (by kernel_rfl) ?_ ?_ ?_
 ·
  clear HF HM; intro lp B rec w1 hrec HM
  have hy : qjt w lp (fun rest F => ∃ (k : Nat) (p : Nat) (f : Nat), (rest.length ≤ f) ∧ ((zj l.length l).1.length = k + (zj f rest).1.length) ∧ ((zj l.length l).2.1 = p + (zj f rest).2.1) ∧ ((zj l.length l).2.2 = (zj f rest).2.2) ∧ (k + rest.length ≤ l.length) ∧ (p + rest.length ≤ l.length) ∧ F = (.obj lp (.loop (rec .ready none)) :: .obj B (.deferred (some [])) :: [.blk g6 #[vI p] 3, .blk g5 #[vI k] 3, .blk g4 #[vI 0] 49, .blk g3 #[vI 0] 3, .blk g2 #[vI 0] 3])) (fun F => ∃ (k : Nat) (p : Nat) (e : Nat), ((zj l.length l).1.length = k) ∧ ((zj l.length l).2.1 = p) ∧ ((zj l.length l).2.2 = e) ∧ F = (.obj lp (.loop (rec .done (some .ret))) :: .obj B (.deferred (some [])) :: [.blk g6 #[vI p] 3, .blk g5 #[vI k] 3, .blk g4 #[vI e] 49, .blk g3 #[vI p] 3, .blk g2 #[vI k] 3])) := by
   rintro rest F fr w3 A9 c9 b m er ⟨k, p, f, hf, hk, hp, he, hkn, hpn, rfl⟩ hq hne hrl hcb HM
   replace HM := HM.picksT (fs' := (.obj lp (.loop (rec .ready none)) :: .row (.slice A9 b.evs.length c9) b.evs.length (b.evs.flatMap evL) 41 11 :: .obj B (.deferred (some [])) :: .blk g6 #[vI p] 3 :: .blk g5 #[vI k] 3 :: .blk g4 #[vI 0] 49 :: .blk g3 #[vI 0] 3 :: .blk g2 #[vI 0] 3 :: fr)) 8 [1, 0, 2, 3, 4, 5, 6, 7] (by decide) (by decide) rfl
   refine qmn (v1 := .agg #[.int .u8 (b.kind : Int), .int .u8 (b.cpu : Int), .int .i64 b.lost, .int .i64 b.next, .slice A9 b.evs.length c9, .int .i64 (m : Int)]) (v2 := vI er) hrec HM (by decide) (by decide) fun a HF => ?_
   refine wpIn_seq ?_
   refine qb7 ?_
   refine fo HF 0 rfl rfl ?_
   refine qt HF HM (cs := #[vB 0, vB 0, vI 0, vI 0, .slice none 0 0, vI 0]) rfl (by kernel_rfl) rfl (by decide) ?_
   clear HF HM; intro a w7 g7 HF HM
   refine fo HF 1 rfl rfl ?_
   refine e_sa HF HM 0 rfl rfl rfl rfl rfl qy1 rfl rfl (by simp [Value.oneCell']) ?_
   clear HM; intro w5_1 HM
   refine qb rfl ?_
   refine qb7 ?_
   refine fp HF 1 0 [(8, vI er)] fun a HF => ?_
   refine qb rfl ?_
   refine ⟨(.blk g7 #[.int .u8 (b.kind : Int), .int .u8 (b.cpu : Int), .int .i64 b.lost, .int .i64 b.next, .slice A9 b.evs.length c9, .int .i64 (m : Int)] 109 :: .row (.slice A9 b.evs.length c9) b.evs.length (b.evs.flatMap evL) 41 11 :: .obj B (.deferred (some [])) :: .blk g6 #[vI p] 3 :: .blk g5 #[vI k] 3 :: .blk g4 #[vI 0] 49 :: .blk g3 #[vI 0] 3 :: .blk g2 #[vI 0] 3 :: fr), HM.picksT (fs' := (.obj lp (.loop (rec .ready none)) :: .blk g7 #[.int .u8 (b.kind : Int), .int .u8 (b.cpu : Int), .int .i64 b.lost, .int .i64 b.next, .slice A9 b.evs.length c9, .int .i64 (m : Int)] 109 :: .row (.slice A9 b.evs.length c9) b.evs.length (b.evs.flatMap evL) 41 11 :: .obj B (.deferred (some [])) :: .blk g6 #[vI p] 3 :: .blk g5 #[vI k] 3 :: .blk g4 #[vI 0] 49 :: .blk g3 #[vI 0] 3 :: .blk g2 #[vI 0] 3 :: fr)) 9 [1, 0, 2, 3, 4, 5, 6, 7, 8] (by decide) (by decide) rfl, fun w4 HM => ?_⟩
   refine wpIn_block ?_
   refine wpIn_seq ?_
   refine wpIn_seq ?_
   refine qb7 ?_
   refine fp HF 2 0 [(17, .bool ((er : Int) != (0 : Int)))] fun a HF => ?_
   refine qb rfl ?_
   rcases HF.tf 17 rfl with ⟨hb17, HF⟩ | ⟨hb17, HF⟩
   ·
    have hd17 := bne_iff_ne.1 hb17
    have hg := qoe (f := f) (by omega) hne hq (by omega)
    rw [hg] at hk hp he
    simp only [List.length_nil, Nat.add_zero] at hk hp
    refine qob HF rfl ?_
    refine wpIn_seq ?_
    refine qt9 HM (.obj lp (.loop (rec .busy none)) :: .blk g7 #[.int .u8 (b.kind : Int), .int .u8 (b.cpu : Int), .int .i64 b.lost, .int .i64 b.next, .slice A9 b.evs.length c9, .int .i64 (m : Int)] 109 :: .row (.slice A9 b.evs.length c9) b.evs.length (b.evs.flatMap evL) 41 11 :: .obj B (.deferred (some [])) :: .blk g6 #[vI p] 3 :: .blk g5 #[vI k] 3 :: .blk g4 #[vI 0] 49 :: .blk g3 #[vI 0] 3 :: fr) 9 [0, 1, 2, 3, 4, 5, 6, 7] [4, 5] fun HM HS => ?_
    refine ap HF (fun _ => HS) [2] #[false, false, true, false, false, false] [(20, vI er)] fun a HF => ?_
    refine ay HF HS 0 rfl rfl rfl (Yl.qh rfl rfl (by kernel_rfl) (fun _ h => h.cell (i := 5) rfl rfl)) fun a HF => ?_
    refine ay HF HS 1 rfl rfl rfl (Yl.qh rfl rfl (by kernel_rfl) (fun _ h => h.cell (i := 4) rfl rfl)) fun a HF => ?_
    refine qj [3] (by kernel_rfl) rfl ?_
    refine all_cons ?_ all_nil
    refine qo HF (i := 3) rfl rfl ?_
    refine zd HF HM (i := 8) rfl rfl rfl rfl (by kernel_rfl) rfl rfl (by simp) ?_
    clear HM; intro w8_3 HM
    refine keepS (HM.picksT 9 [0, 1, 2, 3, 4, 5, 6, 7] (by decide) (by decide) rfl) (fun HS => ?_)
    refine qj [4] (by kernel_rfl) rfl ?_
    refine all_cons ?_ all_nil
    refine qo HF (i := 4) rfl rfl ?_
    refine zd HF HM (i := 7) rfl rfl rfl rfl (by kernel_rfl) rfl rfl (by simp) ?_
    clear HM; intro w8_4 HM
    refine noS (by kernel_rfl) ?_
    refine qj [5] (by kernel_rfl) rfl ?_
    refine all_cons ?_ all_nil
    refine qo HF (i := 5) rfl rfl ?_
    refine zd HF HM (i := 6) rfl rfl rfl rfl (by kernel_rfl) rfl rfl (by simp) ?_
    clear HM; intro w8_5 HM
    refine noS (by kernel_rfl) ?_
    refine qn (by kernel_rfl) ?_
    refine wpIn_ret ?_
    refine ⟨(.obj B (.deferred (some [])) :: .blk g6 #[vI p] 3 :: .blk g5 #[vI k] 3 :: .blk g4 #[vI er] 49 :: .blk g3 #[vI p] 3 :: .blk g2 #[vI k] 3 :: fr), HM.picksT (fs' := (.obj lp (.loop (rec .busy none)) :: .obj B (.deferred (some [])) :: .blk g6 #[vI p] 3 :: .blk g5 #[vI k] 3 :: .blk g4 #[vI er] 49 :: .blk g3 #[vI p] 3 :: .blk g2 #[vI k] 3 :: fr)) 9 [0, 3, 4, 5, 6, 7, 8] (by decide) (by decide) rfl, fun w5 HM => ?_⟩
    exact ⟨(.obj lp (.loop (rec .done (some .ret))) :: .obj B (.deferred (some [])) :: .blk g6 #[vI p] 3 :: .blk g5 #[vI k] 3 :: .blk g4 #[vI er] 49 :: .blk g3 #[vI p] 3 :: .blk g2 #[vI k] 3 :: []), HM, .inr ⟨(by omega), rfl, k, p, er, hk, hp, he, rfl⟩⟩
   have hd17 := bne_eq_false_iff_eq.1 hb17
   have he0 : er = 0 := by omega
   have hq0 := hq
   rw [he0] at hq0
   have hg := qmq (f := f) (by omega) hne hq0
   have hof := qkx hrl hq0
   have hm13 := hof.least
   have hml := hof.len
   rw [hg] at hk hp he
   dsimp only at hk hp he
   rw [List.length_cons] at hk
   refine qmm HF rfl ?_
   refine wpIn_skip ?_
   refine wpIn_seq ?_
   refine qb7 ?_
   refine fy HF HM 0 rfl rfl rfl (Yl.qh rfl rfl (by kernel_rfl) (fun _ h => h.cell (i := 5) rfl rfl)) fun a HF => ?_
   refine fp HF 1 1 [(22, vI (IntKind.i64.wrap ((k : Int) + 1)))] fun a HF => ?_
   replace HF := HF.sp 22 (vI (k + 1 : Nat)) rfl (qi (by omega) (by omega))
   refine fo HF 2 rfl rfl ?_
   refine zd HF HM (i := 5) rfl rfl rfl rfl (by kernel_rfl) rfl rfl (by simp) ?_
   clear HM; intro w9_2 HM
   refine qb rfl ?_
   refine qb7 ?_
   refine fy HF HM 0 rfl rfl rfl (Yl.qh rfl rfl (by kernel_rfl) (fun _ h => h.cell (i := 4) rfl rfl)) fun a HF => ?_
   refine fp HF 1 1 [(24, vP g7 5)] fun a HF => ?_
   refine fy HF HM 2 rfl rfl rfl (v := vI m) (Yl.qh rfl rfl (by kernel_rfl) (fun _ h => h.cell (i := 1) rfl (rfl))) fun a HF => ?_
   refine fp HF 1 3 [(26, vI (IntKind.i64.wrap ((p : Int) + (m : Int))))] fun a HF => ?_
   replace HF := HF.sp 26 (vI (p + m : Nat)) rfl (qi (by omega) (by omega))
   refine fo HF 4 rfl rfl ?_
   refine zd HF HM (i := 4) rfl rfl rfl rfl (by kernel_rfl) rfl rfl (by simp) ?_
   clear HM; intro w10_4 HM
   refine qb rfl ?_
   refine ⟨(.obj B (.deferred (some [])) :: .blk g6 #[vI (p + m : Nat)] 3 :: .blk g5 #[vI (k + 1 : Nat)] 3 :: .blk g4 #[vI 0] 49 :: .blk g3 #[vI 0] 3 :: .blk g2 #[vI 0] 3 :: fr), HM.picksT (fs' := (.obj lp (.loop (rec .busy none)) :: .obj B (.deferred (some [])) :: .blk g6 #[vI (p + m : Nat)] 3 :: .blk g5 #[vI (k + 1 : Nat)] 3 :: .blk g4 #[vI 0] 49 :: .blk g3 #[vI 0] 3 :: .blk g2 #[vI 0] 3 :: fr)) 9 [0, 3, 4, 5, 6, 7, 8] (by decide) (by decide) rfl, fun w5 HM => ?_⟩
   exact ⟨(.obj lp (.loop (rec .ready none)) :: .obj B (.deferred (some [])) :: .blk g6 #[vI (p + m : Nat)] 3 :: .blk g5 #[vI (k + 1 : Nat)] 3 :: .blk g4 #[vI 0] 49 :: .blk g3 #[vI 0] 3 :: .blk g2 #[vI 0] 3 :: []), HM, .inl ⟨(by omega), rfl, k + 1, p + m, (f - 1), by rw [List.length_drop]; omega, by omega, by omega, he, by rw [List.length_drop]; omega, by rw [List.length_drop]; omega, rfl⟩⟩
  refine (qrk w w1 gp lp BB A c l _ _ _ hL hB hr hc hl (by omega) hy ⟨0, 0, l.length, Nat.le_refl _, (Nat.zero_add _).symm, (Nat.zero_add _).symm, rfl, by omega, by omega, rfl⟩ (HM.picks [2, 0, 1, 3, 4, 5, 6, 7] (by decide) rfl)).mono ?_
  rintro r w2 ⟨v, rfl, F2, HM2, (⟨k, p, f, hf, hk, hp, he, hkn, hpn, rfl⟩ | ⟨k, p, e, hk, hp, he, rfl⟩)⟩
  ·exact ⟨v, rfl, .inl ⟨_, ⟨k, p, f, hf, hk, hp, he, hkn, hpn, rfl⟩, HM2⟩⟩
  ·exact ⟨v, rfl, .inr ⟨.ret, _, ⟨rfl, k, p, e, hk, hp, he, rfl⟩, HM2⟩⟩
 ·
  clear HF HM; rintro B a w6 _ ⟨k, p, f, hf, hk, hp, he, hkn, hpn, rfl⟩ HF HM
  have hz := qod (f := f) (l := []) rfl
  rw [hz] at hk hp he
  simp only [List.length_nil, Nat.add_zero] at hk hp
  refine wp_seq ?_
  refine qag HM [.obj B (.deferred (some [])), .blk g6 #[vI p] 3, .blk g5 #[vI k] 3, .blk g4 #[vI 0] 49, .blk g3 #[vI 0] 3] [0, 1, 2, 3, 4] [3, 4] fun HM HS => ?_
  refine ay HF HS 0 rfl rfl rfl (Yl.qh rfl rfl (by kernel_rfl) (fun _ h => h.cell (i := 2) rfl rfl)) fun a HF => ?_
  refine ay HF HS 1 rfl rfl rfl (Yl.qh rfl rfl (by kernel_rfl) (fun _ h => h.cell (i := 1) rfl rfl)) fun a HF => ?_
  refine qj [2] (by kernel_rfl) rfl ?_
  refine all_cons ?_ all_nil
  refine qo HF (i := 2) rfl rfl ?_
  refine zd HF HM (i := 5) rfl rfl rfl rfl (by kernel_rfl) rfl rfl (by simp) ?_
  clear HM; intro w11_2 HM
  refine keepS (HM.picks [0, 1, 2, 3, 4] (by decide) rfl) (fun HS => ?_)
  refine qj [3] (by kernel_rfl) rfl ?_
  refine all_cons ?_ all_nil
  refine qo HF (i := 3) rfl rfl ?_
  refine zd HF HM (i := 4) rfl rfl rfl rfl (by kernel_rfl) rfl rfl (by simp) ?_
  clear HM; intro w11_3 HM
  refine noS (by kernel_rfl) ?_
  refine qj [4] (by kernel_rfl) rfl ?_
  refine all_cons ?_ all_nil
  refine qo HF (i := 4) rfl rfl ?_
  refine zd HF HM (i := 3) rfl rfl rfl rfl (by kernel_rfl) rfl rfl (by simp) ?_
  clear HM; intro w11_4 HM
  refine noS (by kernel_rfl) ?_
  refine qn (by kernel_rfl) ?_
  refine wp_ret ?_
  refine qua HF HM (i := 0) rfl fun a w7 HF HM => ?_
  exact ret3 rfl HF (.cell1 (i := 5) HF HM rfl rfl (by kernel_rfl) rfl) (.cell1 (i := 4) HF HM rfl rfl (by kernel_rfl) rfl) (.cell1 (i := 3) HF HM rfl rfl (by kernel_rfl) rfl) (⟨by rw [show qgx l = zj l.length l from if_neg (by omega), hk, hp, he]; rfl, HM.below⟩)
 ·
  clear HF HM; rintro _ B a w6 _ ⟨rfl, k, p, e, hk, hp, he, rfl⟩ HF HM
  refine wp_ret ?_
  refine qua HF HM (i := 0) rfl fun a w7 HF HM => ?_
  exact ret3 rfl HF (.cell1 (i := 5) HF HM rfl rfl (by kernel_rfl) rfl) (.cell1 (i := 4) HF HM rfl rfl (by kernel_rfl) rfl) (.cell1 (i := 3) HF HM rfl rfl (by kernel_rfl) rfl) (⟨by rw [show qgx l = zj l.length l from if_neg (by omega), hk, hp, he]; rfl, HM.below⟩)
def outsL (bs : List Bk) : List Nat := bs.flatMap Bk.out
def errL : List Bk → Nat
 | [] => 0
 | b :: t => if b.err = 0 then errL t else b.err
def zy (bs : List Bk) : List Nat × Nat := if errL bs ≠ 0 then ([], errL bs) else if 524288 < (outsL bs).length then ([], 3) else (outsL bs, 0)
theorem qju {bs : List Bk} (h : errL bs ≠ 0) : zy bs = ([], errL bs) := by unfold zy; rw [if_pos h]
theorem qie {bs : List Bk} (h : errL bs = 0) (h2 : 524288 < (outsL bs).length) : zy bs = ([], 3) := by unfold zy; rw [if_neg (by omega), if_pos h2]
theorem qmr {bs : List Bk} (h : errL bs = 0) (h2 : ¬ 524288 < (outsL bs).length) : zy bs = (outsL bs, 0) := by unfold zy; rw [if_neg (by omega), if_neg h2]
theorem qjv (bs : List Bk) : (zy bs).1.length ≤ 524288 := by
 unfold zy
 split
 ·exact Nat.zero_le _
 ·split
  ·exact Nat.zero_le _
  ·dsimp only; omega
theorem que {q : List Hb} {k : Nat} (h : k < q.length) : errL ((q.drop k).map Hb.b) = if (q.getD k Hb.zero).b.err = 0 then errL ((q.drop (k + 1)).map Hb.b) else (q.getD k Hb.zero).b.err := by
 rw [qeu Hb.zero h, List.map_cons, errL]
theorem quf {q : List Hb} {k : Nat} (h : k < q.length) : outsL ((q.take (k + 1)).map Hb.b) = outsL ((q.take k).map Hb.b) ++ (q.getD k Hb.zero).b.out := by
 unfold outsL
 rw [qdq Hb.zero h, List.map_append, List.flatMap_append]
 simp
theorem qwv (bs : List Bk) : (outsL bs).length ≤ 4096 * bs.length := by
 unfold outsL
 induction bs with
 | nil => exact Nat.zero_le _
 | cons b t ih =>
  rw [List.flatMap_cons, List.length_append, List.length_cons]
  have := qn6 b
  omega
theorem qug {q : List Hb} (k : Nat) : (outsL ((q.take k).map Hb.b)).length ≤ 4096 * q.length := by
 have h := qwv ((q.take k).map Hb.b)
 rw [List.length_map, List.length_take] at h
 have : min k q.length ≤ q.length := Nat.min_le_right _ _
 omega
def zk (out : List Nat) (bs : List Bk) : List Nat × Nat := if (zy bs).2 ≠ 0 then (out, (zy bs).2) else if 524288 < out.length + (zy bs).1.length then (out, 3) else (out ++ (zy bs).1, 0)
theorem qq6 {out : List Nat} {bs : List Bk} (h : (zy bs).2 ≠ 0) : zk out bs = (out, (zy bs).2) := by unfold zk; rw [if_pos h]
theorem qof {out : List Nat} {bs : List Bk} (h : (zy bs).2 = 0) (h2 : 524288 < out.length + (zy bs).1.length) : zk out bs = (out, 3) := by unfold zk; rw [if_neg (by omega), if_pos h2]
theorem quh {out : List Nat} {bs : List Bk} (h : (zy bs).2 = 0) (h2 : ¬ 524288 < out.length + (zy bs).1.length) : zk out bs = (out ++ (zy bs).1, 0) := by unfold zk; rw [if_neg (by omega), if_neg h2]
theorem qjw {out : List Nat} {bs : List Bk} (h : out.length ≤ 524288) : (zk out bs).1.length ≤ 524288 := by
 unfold zk
 split
 ·exact h
 ·split
  ·exact h
  ·dsimp only; rw [List.length_append]; omega
def endB (next : Int) : Bk := ⟨2, 0, 0, next, []⟩
theorem qui {next : Int} (h : I64 next) : (endB next).Ok := ⟨by show 2 < 256; decide, by show 0 < 256; decide, by show I64 0; unfold I64; decide, h, by intro e he; cases he⟩
def putW (out : List Nat) (lim : Int) (cpu : Nat) (l : List It) (opn : Int) : List Nat × Nat × Nat :=
 if (cutS cpu l opn lim).2 ≠ 0 then (out, 0, (cutS cpu l opn lim).2)
 else if (zk out (cutS cpu l opn lim).1).2 ≠ 0 then (out, 0, (zk out (cutS cpu l opn lim).1).2)
 else ((zk out (cutS cpu l opn lim).1).1, (cutS cpu l opn lim).1.length, 0)
theorem qww {out : List Nat} {lim : Int} {cpu : Nat} {l : List It} {opn : Int} (h : (cutS cpu l opn lim).2 ≠ 0) : putW out lim cpu l opn = (out, 0, (cutS cpu l opn lim).2) := by unfold putW; rw [if_pos h]
theorem qwx {out : List Nat} {lim : Int} {cpu : Nat} {l : List It} {opn : Int} (h : (cutS cpu l opn lim).2 = 0) (h2 : (zk out (cutS cpu l opn lim).1).2 ≠ 0) : putW out lim cpu l opn = (out, 0, (zk out (cutS cpu l opn lim).1).2) := by unfold putW; rw [if_neg (by omega), if_pos h2]
theorem qyo {out : List Nat} {lim : Int} {cpu : Nat} {l : List It} {opn : Int} (h : (cutS cpu l opn lim).2 = 0) (h2 : (zk out (cutS cpu l opn lim).1).2 = 0) : putW out lim cpu l opn = ((zk out (cutS cpu l opn lim).1).1, (cutS cpu l opn lim).1.length, 0) := by unfold putW; rw [if_neg (by omega), if_neg (by omega)]
theorem qms {out : List Nat} {bs : List Bk} (h : (zk out bs).2 ≠ 0) : (zk out bs).1 = out := by
 unfold zk at h ⊢
 split
 ·rfl
 ·split
  ·rfl
  ·rename_i h1 h2
   rw [if_neg h1, if_neg h2] at h
   exact absurd rfl h
def nextR (l : List Nat) (p : Nat) : Bk × Nat × Nat := if p = l.length then (Bk.zero, 0, 6) else readB (l.drop p)
section
variable {W w : World} {fs : List Fact} {t bt : TypeId}
theorem Mem.reBlk (h : Mem W w fs) {i g : Nat} {cs ds : Array Value} {t : TypeId} (hi : fs[i]? = some (.blk g cs t)) (he : cs = ds) : Mem W w (fs.set i (.blk g ds t)) := by
 subst he
 obtain ⟨hl, h2⟩ := List.getElem?_eq_some_iff.1 hi
 rw [← h2, List.set_getElem_self]
 exact h
theorem qem {w w' : World} {p : List Nat × Nat} {er : Nat} {n : Int} (hb : Below w.heap.size w w') (he : p = ([], er)) (hn : n = er) : qah w p.2 p.1 (.returned (.tuple #[.slice none 0 0, .int .i64 n])) w' := by
 subst he; subst hn
 exact ⟨⟨none, 0, rfl, World.ownsRow_nil _ _ _ _, Nat.le_refl _⟩, hb⟩
end
section
variable {W w w' : World} {fs gs : List Fact} {f g1 g2 : Fact}
theorem Mem.q0g (h : Mem W w (f :: (gs ++ (g1 :: g2 :: fs)))) : Mem W w (f :: g1 :: g2 :: (gs ++ fs)) := by
 refine h.perm (List.Perm.cons f ?_)
 have h1 : (gs ++ (g1 :: g2 :: fs)).Perm (g1 :: (gs ++ (g2 :: fs))) := List.perm_middle
 exact h1.trans (List.Perm.cons g1 List.perm_middle)
end
def WrIs (W : World) (tw : TypeId) (g : Nat) (lim : Int) (out : List Nat) (fs : List Fact) (v : Value) (r : Ending) (w' : World) : Prop :=
 r = .returned v ∧ ∃ A c, out.length ≤ c ∧ Mem W w' (.blk g #[.int .i64 lim, .slice A out.length c] tw :: .row (.slice A out.length c) out.length (out.map B8) 5 1 :: fs)
theorem WrIs.as {W w' : World} {tw : TypeId} {g : Nat} {lim : Int} {out out' : List Nat} {fs : List Fact} {v v' : Value} {r : Ending} (h : WrIs W tw g lim out fs v r w') (h1 : out = out') (h2 : v = v') : WrIs W tw g lim out' fs v' r w' := by subst h1; subst h2; exact h
theorem qif {out R : List Nat} {bs : List Bk} {er : Nat} (h : zy bs = (R, er)) (he : er ≠ 0) : zk out bs = (out, er) := by have h1 := qq6 (out := out) (bs := bs) (by rw [h]; exact he); rw [h] at h1; exact h1
theorem qgy {out R : List Nat} {bs : List Bk} {er : Nat} (h : zy bs = (R, er)) (he : er = 0) (h2 : 524288 < out.length + R.length) : zk out bs = (out, 3) := qof (by rw [h]; exact he) (by rw [h]; exact h2)
theorem qjx {out R : List Nat} {bs : List Bk} {er : Nat} (h : zy bs = (R, er)) (he : er = 0) (h2 : ¬ 524288 < out.length + R.length) : zk out bs = (out ++ R, 0) := by have h1 := quh (out := out) (bs := bs) (by rw [h]; exact he) (by rw [h]; exact h2); rw [h] at h1; exact h1
theorem qk4 {W w' : World} {tw : TypeId} {g c : Nat} {lim n : Int} {A : Option Addr} {out : List Nat} {er : Nat} {fs : List Fact} {p : List Nat × Nat} (h : p = (out, er)) (hn : n = er) (hc : out.length ≤ c) (hm : Mem W w' (.blk g #[.int .i64 lim, .slice A out.length c] tw :: .row (.slice A out.length c) out.length (out.map B8) 5 1 :: fs)) : WrIs W tw g lim p.1 fs (.int .i64 (p.2 : Int)) (.returned (.int .i64 n)) w' := by
 subst h; subst hn
 exact ⟨rfl, A, c, hc, hm⟩
theorem qk5 {W w' : World} {tw : TypeId} {g c k : Nat} {lim n m : Int} {A : Option Addr} {out : List Nat} {er : Nat} {fs : List Fact} {p : List Nat × Nat × Nat} (h : p = (out, k, er)) (hm' : m = k) (hn : n = er) (hc : out.length ≤ c) (hm : Mem W w' (.blk g #[.int .i64 lim, .slice A out.length c] tw :: .row (.slice A out.length c) out.length (out.map B8) 5 1 :: fs)) : WrIs W tw g lim p.1 fs (.tuple #[.int .i64 (p.2.1 : Int), .int .i64 (p.2.2 : Int)]) (.returned (.tuple #[.int .i64 m, .int .i64 n])) w' := by
 subst h; subst hn; subst hm'
 exact ⟨rfl, A, c, hc, hm⟩
section
variable {W w w' : World} {fs gs : List Fact} {f1 f2 : Fact}
theorem Mem.drop2 (h : Mem W w (f1 :: f2 :: (gs ++ fs))) : Mem W w (f1 :: f2 :: fs) := h.subl (List.Sublist.cons_cons _ (List.Sublist.cons_cons _ (List.sublist_append_right gs fs)))
theorem Mem.q0m (h : Mem W w []) (k : Mem w w' gs) : Mem W w' gs := by have h1 := h.join k; rwa [List.append_nil] at h1
end
theorem qmt {out : List Nat} {lim : Int} {cpu : Nat} {l : List It} {opn : Int} {bs : List Bk} {e : Nat} (h : cutS cpu l opn lim = (bs, e)) (he : e ≠ 0) : putW out lim cpu l opn = (out, 0, e) := by have h1 := qww (out := out) (lim := lim) (cpu := cpu) (l := l) (opn := opn) (by rw [h]; exact he); rw [h] at h1; exact h1
theorem qmu {out o2 : List Nat} {lim : Int} {cpu : Nat} {l : List It} {opn : Int} {bs : List Bk} {e we : Nat} (h : cutS cpu l opn lim = (bs, e)) (he : e = 0) (h2 : zk out bs = (o2, we)) (hw : we ≠ 0) : putW out lim cpu l opn = (o2, 0, we) := by
 have h1 := qwx (out := out) (lim := lim) (cpu := cpu) (l := l) (opn := opn) (by rw [h]; exact he) (by rw [h, h2]; exact hw)
 have h3 := qms (out := out) (bs := bs) (by rw [h2]; exact hw)
 rw [h2] at h3
 rw [h, h2] at h1
 rw [h1]
 exact congrArg (·, 0, we) h3.symm
theorem qpp {out o2 : List Nat} {lim : Int} {cpu : Nat} {l : List It} {opn : Int} {bs : List Bk} {e we : Nat} (h : cutS cpu l opn lim = (bs, e)) (he : e = 0) (h2 : zk out bs = (o2, we)) (hw : we = 0) : putW out lim cpu l opn = (o2, bs.length, 0) := by
 have h1 := qyo (out := out) (lim := lim) (cpu := cpu) (l := l) (opn := opn) (by rw [h]; exact he) (by rw [h, h2]; exact hw)
 rw [h, h2] at h1
 exact h1
theorem qq7 {l : List Nat} {b : Bk} {m er : Nat} (hl : ∀ x ∈ l, x < 256) (h : readB l = (b, m, er)) : m ≤ l.length := by
 by_cases he : er = 0
 ·subst he; exact (qkx hl h).len
 ·have := (qtl h he).2; omega
theorem quj {l : List Nat} {p : Nat} {b : Bk} {m er : Nat} (hl : ∀ x ∈ l, x < 256) (hp : p ≤ l.length) (h : nextR l p = (b, m, er)) : p + m ≤ l.length := by
 unfold nextR at h
 split at h
 ·injection h with _ h; injection h with h _; omega
 ·have := qq7 (qbm hl p) h
  rw [List.length_drop] at this
  omega
def qxo (W : World) (tr : TypeId) (g p : Nat) (l : List Nat) (A : Option Addr) (c : Nat) (fs : List Fact) (q : Bk × Nat × Nat) (r : Ending) (w' : World) : Prop :=
 ∃ A' c', r = .returned (.tuple #[.agg (q.1.cells A' c'), .int .i64 (q.2.2 : Int)]) ∧ q.1.evs.length ≤ c' ∧ Mem W w' (.row (.slice A' q.1.evs.length c') q.1.evs.length (q.1.evs.flatMap evL) 41 11 :: .blk g #[.bool true, .int .i64 ((p + q.2.1 : Nat) : Int), .slice A l.length c] tr :: .row (.slice A l.length c) l.length (l.map B8) 5 1 :: fs)
theorem qmv {W w' : World} {tr : TypeId} {g p c c' m er : Nat} {l : List Nat} {A A' : Option Addr} {fs : List Fact} {q : Bk × Nat × Nat} {b : Bk} (h : q = (b, m, er)) {n : Int} (hn : n = er) (hc : b.evs.length ≤ c') (hm : Mem W w' (.row (.slice A' b.evs.length c') b.evs.length (b.evs.flatMap evL) 41 11 :: .blk g #[.bool true, .int .i64 ((p + m : Nat) : Int), .slice A l.length c] tr :: .row (.slice A l.length c) l.length (l.map B8) 5 1 :: fs)) :
  qxo W tr g p l A c fs q (.returned (.tuple #[.agg (b.cells A' c'), .int .i64 n])) w' := by
 subst h; subst hn
 exact ⟨A', c', rfl, hc, hm⟩
theorem Rd.qy8 {w : World} {B : Nat} {l : List Nat} (h : Rd w B 1 none l.length (l.map B8)) : l = [] := by
 rcases Nat.eq_zero_or_pos l.length with h0 | h0
 ·exact List.length_eq_zero_iff.1 h0
 ·obtain ⟨a, ha, _⟩ := h.row h0
  cases ha
theorem LaidX.mem2 {B : Nat} {W w w' : World} {fs gs : List Fact} (h : LaidX B w) (HW : Mem W w fs) (HM : Mem W w' gs) (hB : B ≤ W.heap.size) : LaidX B w' := h.qay fun p hp => by
 rw [HM.below.cell (by omega), HW.below.cell (by omega)]
theorem Mem.qw8 {W w : World} {a b : List Fact} {t : TypeId} {q : List Hb} (h : Mem W w (a ++ (hbF t q ++ b))) : HbRd w q := h.hbRd fun _ hf => List.mem_append_right _ (List.mem_append_left _ hf)
theorem qjy {cpu lim : Nat} {opn : Int} (hl : 0 < lim) : ∀ (f : Nat) (l : List It), GoodI cpu l opn → (∀ b ∈ cutGo cpu opn lim f l, b.Ok ∧ b.evs.length ≤ l.length) ∧ (cutGo cpu opn lim f l).length ≤ l.length
 | 0, l, _ => ⟨fun b hb => (by cases hb), Nat.zero_le _⟩
 | f + 1, l, h => by
  rcases Nat.eq_zero_or_pos l.length with h0 | h0
  ·rw [qh7 h0]; exact ⟨fun b hb => (by cases hb), Nat.zero_le _⟩
  ·rw [qgi h0 (by omega)]
   obtain ⟨h1, h2, _⟩ := qk1 h hl h0
   obtain ⟨i1, i2⟩ := qjy hl f _ (h.drop (cutN cpu l opn lim))
   rw [List.length_drop] at i2
   refine ⟨fun b hb => ?_, ?_⟩
   ·rcases List.mem_cons.1 hb with rfl | hb
    ·exact ⟨qtv h _, by rw [qbw h2]; exact h2⟩
    ·have h3 := i1 b hb
     rw [List.length_drop] at h3
     exact ⟨h3.1, by omega⟩
   ·rw [List.length_cons, Nat.add_sub_cancel]; omega
theorem qmw {cpu : Nat} {l : List It} {opn lim : Int} {bs : List Bk} {ce : Nat} (hcpu : cpu < 256) (hok : ∀ x ∈ l, x.Ok) (ho : I64 opn) (h : cutS cpu l opn lim = (bs, ce)) : (∀ b ∈ bs, b.Ok) ∧ (∀ b ∈ bs, b.evs.length ≤ l.length) ∧ bs.length ≤ l.length + 1 := by
 have nil : (∀ b ∈ ([] : List Bk), b.Ok) ∧ (∀ b ∈ ([] : List Bk), b.evs.length ≤ l.length) ∧ ([] : List Bk).length ≤ l.length + 1 := ⟨fun b hb => (by cases hb), fun b hb => (by cases hb), Nat.zero_le _⟩
 unfold cutS at h
 split at h
 ·injection h with h _; subst h; exact nil
 ·rename_i h1
  split at h
  ·injection h with h _; subst h; exact nil
  ·rename_i h2
   split at h
   ·injection h with h _
    subst h
    split
    ·exact nil
    ·refine ⟨fun b hb => ?_, fun b hb => ?_, by simp⟩
     ·rw [List.mem_singleton] at hb; subst hb
      exact ⟨by show 1 < 256; decide, hcpu, ho, by show I64 0; unfold I64; decide, fun e he => by cases he⟩
     ·rw [List.mem_singleton] at hb; subst hb; exact Nat.zero_le _
   ·injection h with h _
    subst h
    have hG := GoodI.of (by omega) hok (show zx cpu l opn = true by simpa using h2)
    obtain ⟨i1, i2⟩ := qjy (cpu := cpu) (lim := lim.toNat) (opn := opn) (by omega) l.length l hG
    exact ⟨fun b hb => (i1 b hb).1, fun b hb => (i1 b hb).2, by omega⟩
def pick9 : Ev := { Ev.zero with seq := 9, time := 340, cpu := 2, kind := 6 }
def exI : List It := [⟨tickE, 3⟩, ⟨pick9, 0⟩]
theorem qy3 : pick9.Ok := ⟨⟨by decide, by decide⟩, ⟨by decide, by decide⟩, by decide, by decide, ⟨by decide, by decide⟩, ⟨by decide, by decide⟩, ⟨by decide, by decide⟩, ⟨by decide, by decide⟩, ⟨by decide, by decide⟩, by decide, ⟨by decide, by decide⟩⟩
theorem qxv : ∀ x ∈ exI, x.Ok := by
 intro x hx
 simp only [exI, List.mem_cons, List.not_mem_nil, or_false] at hx
 rcases hx with rfl | rfl
 ·exact ⟨qzw, by show I64 3; unfold I64; decide⟩
 ·exact ⟨qy3, by show I64 0; unfold I64; decide⟩
theorem sa1 : cutS 2 exI 2 1 = ([⟨1, 2, 3, 0, [tickE]⟩, ⟨1, 2, 2, 0, [pick9]⟩], 0) := by decide +kernel
theorem sa2 : cutS 2 exI 2 2 = ([⟨1, 2, 5, 0, [tickE, pick9]⟩], 0) := by decide +kernel
theorem sa3 : cutS 2 [] 0 1 = ([], 0) := by decide +kernel
theorem sa4 : cutS 2 [] 2 1 = ([⟨1, 2, 2, 0, []⟩], 0) := by decide +kernel
theorem sa5 : zk [] [endB 0] = ([], 107) := by decide +kernel
theorem sa6 : zk [] [endB 7] = (awX, 0) := by decide +kernel
theorem sa7 : qgx (awX ++ [1]) = ([⟨2, 0, 0, 7, []⟩], 13, 100) := by decide +kernel
theorem sa8 : nextR awX 0 = (⟨2, 0, 0, 7, []⟩, 13, 0) := by decide +kernel
theorem sa9 : nextR awX 13 = (Bk.zero, 0, 6) := by decide +kernel
theorem qy4 : ∀ b ∈ awX ++ [1], b < 256 := by decide
theorem map1 {q : List Hb} {b : Bk} (h : q.map Hb.b = [b]) : ∃ x, q = [x] ∧ x.b = b := by
 cases q with
 | nil => cases h
 | cons x r =>
  cases r with
  | nil => injection h with h _; exact ⟨x, rfl, h⟩
  | cons y r => injection h with _ h; cases h
theorem map2 {q : List Hb} {b d : Bk} (h : q.map Hb.b = [b, d]) : ∃ x y, q = [x, y] ∧ x.b = b ∧ y.b = d := by
 cases q with
 | nil => cases h
 | cons x r =>
  injection h with h1 h2
  obtain ⟨y, rfl, h3⟩ := map1 h2
  exact ⟨x, y, rfl, h1, h3⟩
section
variable {W w : World} {a b c : List Fact} {t : TypeId} {q : List Hb}
end
instance itDec : DecidableEq It := fun ⟨a, b⟩ ⟨c, d⟩ => decidable_of_iff (a = c ∧ b = d) (by rw [It.mk.injEq])
structure Acx where
 fin : Bool
 cpu : Nat
 A : Option Addr
 c : Nat
 l : List It
 opn : Int
 next : Int
def Acx.zero : Acx := ⟨false, 0, none, 0, [], 0, 0⟩
def Acx.cells (x : Acx) : Array Value := #[.bool x.fin, .int .u8 (x.cpu : Int), .slice x.A x.l.length x.c, .int .i64 x.opn, .int .i64 x.next]
def acL (x : Acx) : List Value := x.cells.toList
theorem qog (x : Acx) : (acL x).length = 5 := rfl
theorem qxp (x : Acx) : ∀ v ∈ x.cells.toList, v.oneCell' = true := by simp [Acx.cells, Value.oneCell']
structure AcIn (W : World) (x : Acx) : Prop where
 cpu : x.cpu < 256
 ok : ∀ y ∈ x.l, y.Ok
 opn : I64 x.opn
 next : I64 x.next
 hc : x.l.length ≤ x.c
 hm : x.c ≤ maxLen
 rd : Rd W W.heap.size 12 x.A x.l.length (x.l.flatMap itL)
def WrR1 (W : World) (lim : Int) (o2 : List Nat) (fs : List Fact) (we : Nat) (r : Ending) (w' : World) : Prop :=
 ∃ A c, r = .returned (.tuple #[.agg #[.int .i64 lim, .slice A o2.length c], .int .i64 (we : Int)]) ∧ o2.length ≤ c ∧ Mem W w' (.row (.slice A o2.length c) o2.length (o2.map B8) 5 1 :: fs)
def WrR2 (W : World) (lim : Int) (o2 : List Nat) (fs : List Fact) (k we : Nat) (r : Ending) (w' : World) : Prop :=
 ∃ A c, r = .returned (.tuple #[.agg #[.int .i64 lim, .slice A o2.length c], .int .i64 (k : Int), .int .i64 (we : Int)]) ∧ o2.length ≤ c ∧ Mem W w' (.row (.slice A o2.length c) o2.length (o2.map B8) 5 1 :: fs)
section
variable {W w w' : World} {c k er : Nat} {lim n m : Int} {A : Option Addr} {out : List Nat} {fs : List Fact} {f g : Fact}
theorem qk6 {p : List Nat × Nat} (h : p = (out, er)) (hn : n = er) (hc : out.length ≤ c) (hm : Mem W w' (.row (.slice A out.length c) out.length (out.map B8) 5 1 :: fs)) : WrR1 W lim p.1 fs p.2 (.returned (.tuple #[.agg #[.int .i64 lim, .slice A out.length c], .int .i64 n])) w' := by
 subst h; subst hn
 exact ⟨A, c, rfl, hc, hm⟩
theorem qoh {p : List Nat × Nat × Nat} (h : p = (out, k, er)) (hk : m = k) (hn : n = er) (hc : out.length ≤ c) (hm : Mem W w' (.row (.slice A out.length c) out.length (out.map B8) 5 1 :: fs)) : WrR2 W lim p.1 fs p.2.1 p.2.2 (.returned (.tuple #[.agg #[.int .i64 lim, .slice A out.length c], .int .i64 m, .int .i64 n])) w' := by
 subst h; subst hn; subst hk
 exact ⟨A, c, rfl, hc, hm⟩
theorem Mem.swapRow (HW : Mem W w (f :: fs)) (HM : Mem w w' [g]) : Mem W w' (g :: fs) :=
 (HW.join HM).subl (List.Sublist.cons_cons _ (List.sublist_cons_self _ _))
theorem hbx {a b : Nat} (h : a = b) : ((a : Int) == (b : Int)) = true := by subst h; simp
end
theorem qwy {out : List Nat} {lim : Int} {cpu : Nat} {l : List It} {opn : Int} (h : out.length ≤ 524288) : (putW out lim cpu l opn).1.length ≤ 524288 := by
 unfold putW
 split
 ·exact h
 ·split
  ·exact h
  ·exact qjw h
theorem qyp {q : List Hb} {k : Nat} (h : k < q.length) (h0 : errL (q.map Hb.b) = errL ((q.drop k).map Hb.b)) (hz : (q.getD k Hb.zero).b.err ≠ 0) : errL (q.map Hb.b) = (q.getD k Hb.zero).b.err := by rw [h0, que h, if_neg hz]
theorem qyq {q : List Hb} {k : Nat} (h : k < q.length) (h0 : errL (q.map Hb.b) = errL ((q.drop k).map Hb.b)) (hz : (q.getD k Hb.zero).b.err = 0) : errL (q.map Hb.b) = errL ((q.drop (k + 1)).map Hb.b) := by rw [h0, que h, if_pos hz]
end Go.Proofs.YtfeheccoijnbaaaGreatDoor
namespace Go.Proofs.YtfeheccoijnbaaaGreatDoor
open Go.RowKit Go.ChangeShapes Go.WideShapes Go.ChangeAt
section
variable {H : Type} {enc : TypeId × Value → H} {W : World} {b0 : Nat} {v : Value} {d : DataW H} {p : List MemPlace}
theorem qwz : Tryz.prog.underlying 4 = some .bool := by kernel_rfl
theorem qq8 : Tryz.prog.cellsOf 4 = 1 := by kernel_rfl
theorem quk : Tryz.prog.cellsOf 28 = 1 := by kernel_rfl
theorem qjz : Tryz.prog.underlying 22 = some (.slice 27) := by kernel_rfl
theorem qpq : Tryz.prog.underlying 23 = some (.slice 30) := by kernel_rfl
theorem ac_f0 : fieldAt Tryz.prog 30 0 0 4 = true := by kernel_rfl
theorem ac_f1 : fieldAt Tryz.prog 30 1 1 5 = true := by kernel_rfl
theorem ac_f2 : fieldAt Tryz.prog 30 2 2 28 = true := by kernel_rfl
theorem ac_f3 : fieldAt Tryz.prog 30 3 3 3 = true := by kernel_rfl
theorem ac_f4 : fieldAt Tryz.prog 30 4 4 3 = true := by kernel_rfl
theorem qpr : Tryz.prog.cellsOf 30 = 5 := by kernel_rfl
structure HbIn (W : World) (x : Hb) : Prop where
 ok : x.b.Ok
 hc : x.b.evs.length ≤ x.c
 rd : Rd W W.heap.size 11 x.A x.b.evs.length (x.b.evs.flatMap evL)
set_option maxRecDepth 100000 in
theorem qyr {fuel : Nat} {cs : List Value} {y : DataW H × List MemPlace} (hf : DataW.trod enc Tryz.prog W 0 (fun _ => true) true fuel 27 cs = some y) : ∃ x : Hb, hbL x = cs ∧ HbIn W x := by
 obtain ⟨hl, _, y0, g0⟩ := zq bk_f0 hf
 obtain ⟨_, _, y1, g1⟩ := zq bk_f1 hf
 obtain ⟨_, _, y2, g2⟩ := zq bk_f2 hf
 obtain ⟨_, _, y3, g3⟩ := zq bk_f3 hf
 obtain ⟨_, _, y4, g4⟩ := zq bk_f4 hf
 rw [qpn] at hl
 obtain ⟨kd, e0, _, w0⟩ := DataW.trod_int qo5 g0
 obtain ⟨cpu, e1, _, w1⟩ := DataW.trod_int qo5 g1
 obtain ⟨lo, e2, _, w2⟩ := DataW.trod_int qf6 g2
 obtain ⟨nx, e3, _, w3⟩ := DataW.trod_int qf6 g3
 obtain ⟨A, n, c, l, e4, k1, k2, k3, k4⟩ := qnx g4
 rw [qo6] at e0 e1
 rw [qhk] at e2 e3
 rw [qsk] at e4
 have a0 := qab e0
 have a1 := qab e1
 have a2 := qab e2
 have a3 := qab e3
 have a4 := qab e4
 have u0 := u8_wf w0
 have u1 := u8_wf w1
 have hn := qws k4
 subst hn
 refine ⟨⟨⟨kd.toNat, cpu.toNat, lo, nx, l⟩, A, c⟩, ?_, ⟨⟨by show kd.toNat < 256; omega, by show cpu.toNat < 256; omega, qcx w2, qcx w3, k3⟩, k1, k4⟩⟩
 refine ((qml hl a0 a1 a2 a3 a4).trans ?_).symm
 show _ = [Value.int .u8 ((kd.toNat : Nat) : Int), .int .u8 ((cpu.toNat : Nat) : Int), .int .i64 lo, .int .i64 nx, .slice A l.length c]
 rw [Int.toNat_of_nonneg u0.1, Int.toNat_of_nonneg u1.1]
set_option maxRecDepth 100000 in
theorem qys {fuel : Nat} {cs : List Value} {y : DataW H × List MemPlace} (hf : DataW.trod enc Tryz.prog W 0 (fun _ => true) true fuel 30 cs = some y) : ∃ x : Acx, acL x = cs ∧ AcIn W x := by
 obtain ⟨hl, _, y0, g0⟩ := zq ac_f0 hf
 obtain ⟨_, _, y1, g1⟩ := zq ac_f1 hf
 obtain ⟨_, _, y2, g2⟩ := zq ac_f2 hf
 obtain ⟨_, _, y3, g3⟩ := zq ac_f3 hf
 obtain ⟨_, _, y4, g4⟩ := zq ac_f4 hf
 rw [qpr] at hl
 obtain ⟨e, e0, _⟩ := DataW.trod_bool qwz g0
 obtain ⟨cpu, e1, _, w1⟩ := DataW.trod_int qo5 g1
 obtain ⟨A, c, l, e2, k1, k2, k3, k4⟩ := qq5 g2
 obtain ⟨lo, e3, _, w3⟩ := DataW.trod_int qf6 g3
 obtain ⟨nx, e4, _, w4⟩ := DataW.trod_int qf6 g4
 rw [qq8] at e0
 rw [qo6] at e1
 rw [quk] at e2
 rw [qhk] at e3 e4
 have a0 := qab e0
 have a1 := qab e1
 have a2 := qab e2
 have a3 := qab e3
 have a4 := qab e4
 have u1 := u8_wf w1
 refine ⟨⟨e, cpu.toNat, A, c, l, lo, nx⟩, ?_, ⟨by show cpu.toNat < 256; omega, k3, qcx w3, qcx w4, k1, k2, k4⟩⟩
 refine ((qml hl a0 a1 a2 a3 a4).trans ?_).symm
 show _ = [Value.bool e, .int .u8 ((cpu.toNat : Nat) : Int), .slice A l.length c, .int .i64 lo, .int .i64 nx]
 rw [Int.toNat_of_nonneg u1.1]
set_option maxRecDepth 100000 in
theorem qyt (hval : Value.okWide Tryz.prog W .any b0 22 v) (h : DataW.Trod enc Tryz.prog W 0 (fun _ => true) true 22 v d p) :
  ∃ (A : Option Addr) (c : Nat) (l : List Hb), v = .slice A l.length c ∧ l.length ≤ c ∧ c ≤ maxLen ∧ (∀ x ∈ l, HbIn W x) ∧ Rd W W.heap.size 5 A l.length (l.flatMap hbL) := by
 obtain ⟨a0, len, cap, rfl⟩ := okWide_slice qjz hval
 obtain ⟨fuel, hf⟩ := h
 obtain ⟨A, c, l, hcs, h1⟩ := qgk hbL (HbIn W) qjz qpn (by decide) qcb (fun _ _ _ h => qyr h) hf
 simp only [Value.cells, List.cons.injEq, and_true, Value.slice.injEq] at hcs
 obtain ⟨rfl, rfl, rfl⟩ := hcs
 exact ⟨_, _, l, rfl, h1⟩
set_option maxRecDepth 100000 in
theorem qyu (hval : Value.okWide Tryz.prog W .any b0 23 v) (h : DataW.Trod enc Tryz.prog W 0 (fun _ => true) true 23 v d p) :
  ∃ (A : Option Addr) (c : Nat) (l : List Acx), v = .slice A l.length c ∧ l.length ≤ c ∧ c ≤ maxLen ∧ (∀ x ∈ l, AcIn W x) ∧ Rd W W.heap.size 5 A l.length (l.flatMap acL) := by
 obtain ⟨a0, len, cap, rfl⟩ := okWide_slice qpq hval
 obtain ⟨fuel, hf⟩ := h
 obtain ⟨A, c, l, hcs, h1⟩ := qgk acL (AcIn W) qpq qpr (by decide) qog (fun _ _ _ h => qys h) hf
 simp only [Value.cells, List.cons.injEq, and_true, Value.slice.injEq] at hcs
 obtain ⟨rfl, rfl, rfl⟩ := hcs
 exact ⟨_, _, l, rfl, h1⟩
end
end Go.Proofs.YtfeheccoijnbaaaGreatDoor
namespace Go.Proofs.YtfeheccoijnbaaaGreatDoor
open Go.RowKit
theorem qot (A : Option Addr) (c : Nat) (q : List Hb) (B : Nat) (w : World) (hL : LaidX B w) (hB : B ≤ w.heap.size) (hr : Rd w w.heap.size 5 A q.length (q.flatMap hbL)) (hQ : HbRd w q) (hok : ∀ h ∈ q, h.b.Ok) (hev : ∀ h ∈ q, h.b.evs.length ≤ 1000000) (hn : q.length ≤ 1000000) :
    Calls Tryz.prog 25 #[.slice A q.length c] w (qah w (zy (q.map Hb.b)).2 (zy (q.map Hb.b)).1) := by
 refine qg (vs := [.slice A q.length c]) Tryz.func25 rfl rfl (by kernel_rfl) (σ0 := [(0, .slice A q.length c)]) rfl ?_
 intro a HF
 have HM := Mem.start w
 refine wp_seq (qa ?_)
 refine fp HF 2 0 [(3, vI 0), (2, .slice none 0 0)] fun a HF => ?_
 refine qb rfl (wp_seq (qa ?_))
 refine fp HF 1 0 [(4, .slice none 0 0)] fun a HF => ?_
 refine qb rfl (wp_seq (qa ?_))
 refine fp HF 1 0 [(5, .bool false)] fun a HF => ?_
 refine qb rfl ?_
 replace HM := HM.nil 5 1
 refine wp_seq (wp_seq (qa ?_))
 refine fp HF 1 0 [(10, .slice A q.length c)] fun a HF => ?_
 refine fy HF HM 1 rfl rfl rfl (Yl.len rfl rfl (by kernel_rfl)) fun a HF => ?_
 refine fp HF 1 2 [(12, vI 0)] fun a HF => ?_
 refine qb rfl (wp_block ?_)
 refine qs (fun mS aS wS => ∃ (k : Nat) (lg : Bool) (R : List Nat) (Ao : Option Addr) (co : Nat), (k ≤ q.length) ∧ (errL (q.map Hb.b) = errL ((q.drop k).map Hb.b)) ∧ (lg = decide (524288 < (outsL ((q.take k).map Hb.b)).length)) ∧ (lg = false → R = outsL ((q.take k).map Hb.b)) ∧ (R.length ≤ 524288) ∧ (R.length ≤ co) ∧ mS = q.length - k ∧ Fr aS 41 [] [(12, vI k), (11, vI q.length), (10, .slice A q.length c), (5, .bool lg), (4, .slice Ao R.length co), (3, vI 0), (2, .slice none 0 0)] ∧ Mem w wS [.row (.slice Ao R.length co) R.length (R.map B8) 5 1]) (m := q.length - 0) ⟨0, false, [], none, 0, Nat.zero_le _, by rw [List.drop_zero], rfl, by intro _; rfl, by simp, Nat.le_refl _, rfl, HF.sub (by kernel_rfl), HM.picks [0] (by decide) rfl⟩ ?_
 clear HF HM; rintro mS a w_ ⟨k, lg, R, Ao, co, hk, her, hlg, hR, hRl, hco, rfl, HF, HM⟩
 refine wp_seq (qa ?_)
 refine fp HF 1 0 [(13, .bool (decide ((k : Int) < (q.length : Int))))] fun a HF => ?_
 refine qb rfl (wp_seq ?_)
 rcases HF.tf 13 rfl with ⟨hb13, HF⟩ | ⟨hb13, HF⟩
 ·
  have hd13 := of_decide_eq_true hb13
  have hk13 : k < q.length := by omega
  have hat := que hk13
  have hoq := congrArg List.length (quf hk13)
  rw [List.length_append] at hoq
  have hol := qn6 (q.getD k Hb.zero).b
  have htk := qug (q := q) k
  refine qe HF rfl (wp_skip (wp_seq (wp_block (wp_seq (qa ?_)))))
  obtain ⟨gA, oA, rfl, _⟩ := hr.qy (Nat.lt_of_le_of_lt (Nat.zero_le _) (show k < q.length from by omega)) (by decide)
  refine fy HF HM 0 rfl rfl rfl (v := vP gA (oA + k * 5)) (Yl.ix gA oA k 5 rfl rfl rfl) fun a HF => ?_
  refine fy HF HM 1 rfl rfl rfl (v := .agg ((q.getD k Hb.zero).b.cells (q.getD k Hb.zero).A (q.getD k Hb.zero).c)) (Yl.zc rfl rfl si_bk rfl (fun _ h => (h.old hr).zt qcb ((getD_at Hb.zero (k := k) (by first | omega | (simp; omega)))))) fun a HF => ?_
  refine fo HF 2 rfl rfl ?_
  refine qt HF HM (cs := #[vB 0, vB 0, vI 0, vI 0, .slice none 0 0]) rfl (by kernel_rfl) rfl (by decide) ?_
  clear HF HM; intro a w7 g7 HF HM
  refine fo HF 3 rfl rfl ?_
  refine e_sa HF HM 0 rfl rfl rfl rfl rfl si_bk rfl rfl (qbk _ _ _) ?_
  clear HM; intro w5_3 HM
  refine qb rfl (wp_seq (qa ?_))
  refine fy HF HM 0 rfl rfl rfl (v := .agg ((q.getD k Hb.zero).b.cells (q.getD k Hb.zero).A (q.getD k Hb.zero).c)) (Yl.zc rfl rfl si_bk rfl (fun _ h => qf (h.blk (i := 0) rfl))) fun a HF => ?_
  refine fo HF 1 rfl rfl ?_
  refine e_cl HF [.agg ((q.getD k Hb.zero).b.cells (q.getD k Hb.zero).A (q.getD k Hb.zero).c)] rfl rfl (qtn (q.getD k Hb.zero).b (hok _ (qal Hb.zero hk13)) ((q.getD k Hb.zero).A) (q.getD k Hb.zero).c B _ (hL.mem HM hB) (HM.le hB) (HM.old (hQ.at hk13)) (hev _ (qal Hb.zero hk13)) rfl rfl) ?_
  rintro _ w18 ⟨⟨A18, c18, rfl, ho, hc18⟩, hbw⟩
  refine ⟨_, rfl, ?_⟩
  replace HM := HM.callRow hbw ho
  clear HF; intro a HF
  refine fp HF 5 2 [(9, vI ((q.getD k Hb.zero).b.err)), (8, .slice A18 ((q.getD k Hb.zero).b.out.length) c18)] fun a HF => ?_
  refine qb rfl (wp_seq (wp_seq (qa ?_)))
  refine fp HF 2 0 [(22, .bool (((q.getD k Hb.zero).b.err : Int) != (0 : Int)))] fun a HF => ?_
  refine qb rfl ?_
  rcases HF.tf 22 rfl with ⟨hb22, HF⟩ | ⟨hb22, HF⟩
  ·
   have hd22 := bne_iff_ne.1 hb22
   have hE : errL (q.map Hb.b) = (q.getD k Hb.zero).b.err := by rw [her, hat, if_neg (by omega)]
   refine qe HF rfl (wp_seq (qa ?_))
   refine fp HF 3 0 [(3, vI ((q.getD k Hb.zero).b.err)), (2, .slice none 0 0)] fun a HF => ?_
   refine qb rfl (wp_ret ?_)
   exact ret2 rfl HF (.tmp HF rfl) (.tmp HF rfl) (qem HM.below (qju (by rw [hE]; omega)) (by rw [hE]))
  have hd22 := bne_eq_false_iff_eq.1 hb22
  have hE : errL (q.map Hb.b) = errL ((q.drop (k + 1)).map Hb.b) := by rw [her, hat, if_pos (by omega)]
  refine qd HF rfl (wp_skip (wp_seq (qa ?_)))
  refine fp HF 2 0 [(25, .bool lg)] fun a HF => ?_
  rcases HF.tf 25 rfl with ⟨hb25, HF⟩ | ⟨hb25, HF⟩
  ·
   have hlong : 524288 < (outsL ((q.take k).map Hb.b)).length := of_decide_eq_true (hlg.symm.trans hb25)
   refine fp HF 8 2 [(5, .bool true)] fun a HF => ?_
   refine qb rfl (wp_seq (qa ?_))
   refine fp HF 2 0 [(34, .bool false)] fun a HF => ?_
   refine qb rfl (qd HF rfl (wp_skip (qa ?_)))
   refine fp HF 1 0 [(38, vI (IntKind.i64.wrap ((k : Int) + 1)))] fun a HF => ?_
   replace HF := HF.sp 38 (vI (k + 1 : Nat)) rfl (qi (by omega) (by omega))
   refine fp HF 1 1 [(12, vI (k + 1 : Nat))] fun a HF => ?_
   refine qb rfl ?_
   exact ⟨_, (by omega), k + 1, true, R, Ao, co, by omega, hE, (decide_eq_true (by omega)).symm, (by intro h; cases h), hRl, hco, rfl, HF.sub (by kernel_rfl), HM.picks [2] (by decide) rfl⟩
  have hlong : ¬ 524288 < (outsL ((q.take k).map Hb.b)).length := of_decide_eq_false (hlg.symm.trans hb25)
  have hRe := hR hb25
  have hRl2 : R.length = (outsL ((q.take k).map Hb.b)).length := by rw [hRe]
  refine fp HF 1 2 [(26, .slice Ao R.length co)] fun a HF => ?_
  refine fy HF HM 3 rfl rfl rfl (Yl.len rfl rfl (by kernel_rfl)) fun a HF => ?_
  refine fp HF 1 4 [(28, .slice A18 ((q.getD k Hb.zero).b.out.length) c18)] fun a HF => ?_
  refine fy HF HM 5 rfl rfl rfl (Yl.len rfl rfl (by kernel_rfl)) fun a HF => ?_
  refine fp HF 1 6 [(30, vI (IntKind.i64.wrap ((R.length : Int) + (((q.getD k Hb.zero).b.out.length : Nat) : Int))))] fun a HF => ?_
  replace HF := HF.sp 30 (vI (R.length + ((q.getD k Hb.zero).b.out.length) : Nat)) rfl (qi (by omega) (by omega))
  refine fp HF 3 7 [(5, .bool (decide (((R.length + ((q.getD k Hb.zero).b.out.length) : Nat) : Int) > (524288 : Int))))] fun a HF => ?_
  refine qb rfl (wp_seq (qa ?_))
  refine fp HF 2 0 [(34, .bool (!(decide (((R.length + ((q.getD k Hb.zero).b.out.length) : Nat) : Int) > (524288 : Int)))))] fun a HF => ?_
  refine qb rfl ?_
  rcases HF.tf 34 rfl with ⟨hb34, HF⟩ | ⟨hb34, HF⟩
  ·
   have hd34 := of_decide_eq_false ((Bool.not_eq_true' _).mp hb34)
   replace HF := HF.on 5 ((Bool.not_eq_true' _).mp hb34)
   refine qe HF rfl (qa ?_)
   refine fp HF 2 0 [(36, .slice A18 ((q.getD k Hb.zero).b.out.length) c18), (35, .slice Ao R.length co)] fun a HF => ?_
   refine fo HF 2 rfl rfl ?_
   refine qu HF HM (i := 2) rfl ei_u8 rfl rfl rfl (news := ((q.getD k Hb.zero).b.out.map B8)) (HM.rd (i := 0) rfl) (qa2 _) (by omega) (by omega) rfl (by decide) ?_
   clear HF HM; intro a w37 A37 c37 HF HM hc37
   rw [show (R.map B8) ++ ((q.getD k Hb.zero).b.out.map B8) = (R ++ (q.getD k Hb.zero).b.out).map B8 from by rw [List.map_append]] at HM
   refine fp HF 1 3 [(4, .slice A37 (R.length + ((q.getD k Hb.zero).b.out.length)) c37)] fun a HF => ?_
   refine qb rfl ?_
   have hnA37 : R.length + ((q.getD k Hb.zero).b.out.length) = (R ++ (q.getD k Hb.zero).b.out).length := by rw [List.length_append]
   replace HM := HM.reRow (i := 2) (ys := (R ++ (q.getD k Hb.zero).b.out).map B8) rfl hnA37 (rfl)
   rw [hnA37] at hc37
   replace HF := HF.as (t := 4) (u := .slice A37 ((R ++ (q.getD k Hb.zero).b.out).length) c37) rfl (by rw [hnA37])
   replace HF := HF.as (t := 37) (u := .slice A37 ((R ++ (q.getD k Hb.zero).b.out).length) c37) rfl (by rw [hnA37])
   refine qa ?_
   refine fp HF 1 0 [(38, vI (IntKind.i64.wrap ((k : Int) + 1)))] fun a HF => ?_
   replace HF := HF.sp 38 (vI (k + 1 : Nat)) rfl (qi (by omega) (by omega))
   refine fp HF 1 1 [(12, vI (k + 1 : Nat))] fun a HF => ?_
   refine qb rfl ?_
   exact ⟨_, (by omega), k + 1, false, (R ++ (q.getD k Hb.zero).b.out), A37, c37, by omega, hE, (decide_eq_false (by omega)).symm, (by intro _; rw [hRe, quf hk13]), (by rw [List.length_append]; omega), hc37, rfl, HF.sub (by kernel_rfl), HM.picks [2] (by decide) rfl⟩
  have hd34 := of_decide_eq_true ((Bool.not_eq_false' _).mp hb34)
  replace HF := HF.on 5 ((Bool.not_eq_false' _).mp hb34)
  refine qd HF rfl (wp_skip (qa ?_))
  refine fp HF 1 0 [(38, vI (IntKind.i64.wrap ((k : Int) + 1)))] fun a HF => ?_
  replace HF := HF.sp 38 (vI (k + 1 : Nat)) rfl (qi (by omega) (by omega))
  refine fp HF 1 1 [(12, vI (k + 1 : Nat))] fun a HF => ?_
  refine qb rfl ?_
  exact ⟨_, (by omega), k + 1, true, R, Ao, co, by omega, hE, (decide_eq_true (by omega)).symm, (by intro h; cases h), hRl, hco, rfl, HF.sub (by kernel_rfl), HM.picks [2] (by decide) rfl⟩
 have hd13 := of_decide_eq_false hb13
 have hkn : k = q.length := by omega
 have hdn : errL (q.map Hb.b) = 0 := by rw [her, List.drop_of_length_le (by omega)]; rfl
 have htn : q.take k = q := List.take_of_length_le (by omega)
 rw [htn] at hlg hR
 refine qd HF rfl (wp_exit (wp_seq (wp_seq (qa ?_))))
 refine fp HF 1 0 [(39, .bool lg)] fun a HF => ?_
 refine qb rfl ?_
 rcases HF.tf 39 rfl with ⟨hb39, HF⟩ | ⟨hb39, HF⟩
 ·
  have hlong : 524288 < (outsL (q.map Hb.b)).length := of_decide_eq_true (hlg.symm.trans hb39)
  refine qe HF rfl (wp_seq (qa ?_))
  refine fp HF 2 0 [(3, vI 3), (2, .slice none 0 0)] fun a HF => ?_
  refine qb rfl (wp_ret ?_)
  exact ret2 rfl HF (.tmp HF rfl) (.tmp HF rfl) (qem HM.below (qie hdn hlong) rfl)
 have hlong : ¬ 524288 < (outsL (q.map Hb.b)).length := of_decide_eq_false (hlg.symm.trans hb39)
 have hRe := hR hb39
 refine qd HF rfl (wp_skip (wp_seq (qa ?_)))
 refine fp HF 3 0 [(3, vI 0), (2, .slice Ao R.length co)] fun a HF => ?_
 refine qb rfl (wp_ret ?_)
 exact ret2 rfl HF (.tmp HF rfl) (.tmp HF rfl) (by rw [qmr hdn hlong, ← hRe]; exact ⟨⟨Ao, co, rfl, HM.own (i := 0) rfl, hco⟩, HM.below⟩)
theorem qrl (g : Nat) (lim : Int) (A : Option Addr) (n c : Nat) (w : World) (hg : w.heap[g]? = some (.cells #[.int .i64 lim, .slice A n c] 93 (0, 0))) :
    Calls Tryz.prog 49 #[.pointer (some ⟨g, 0, none⟩)] w (Is w (.bool (lim == 0))) := by
 refine qg (vs := [vP g 0]) Tryz.func49 rfl rfl (by kernel_rfl) (σ0 := [(0, vP g 0)]) rfl ?_
 intro a HF
 have HM := Mem.start w
 refine wp_seq (qa ?_)
 refine fp HF 1 0 [(2, .bool false)] fun a HF => ?_
 refine qb rfl (wp_seq (qa ?_))
 refine fp HF 1 0 [(3, vP g 0)] fun a HF => ?_
 refine fy HF HM 1 rfl rfl rfl (v := .bool false) (Yl.qit rfl rfl rfl) fun a HF => ?_
 refine fp HF 2 2 [(6, vP g 0), (5, .bool false)] fun a HF => ?_
 refine fy HF HM 4 rfl rfl rfl (v := vP g 0) (Yl.nilCheck rfl rfl) fun a HF => ?_
 refine fp HF 1 5 [(8, vP g 0)] fun a HF => ?_
 refine fy HF HM 6 rfl rfl rfl (v := vI lim) (Yl.qh rfl rfl (by kernel_rfl) (fun _ h => h.zn hg rfl)) fun a HF => ?_
 refine fp HF 3 7 [(2, .bool ((lim : Int) == (0 : Int)))] fun a HF => ?_
 refine qb rfl (wp_ret ?_)
 exact ret1 rfl HF (.tmp HF rfl) (⟨rfl, HM.below⟩)
theorem qfw (g : Nat) (lim : Int) (A : Option Addr) (n c : Nat) (w : World) (hg : w.heap[g]? = some (.cells #[.int .i64 lim, .slice A n c] 93 (0, 0))) (hlim : lim ≠ 0) :
  Calls Tryz.prog 49 #[.pointer (some ⟨g, 0, none⟩)] w (Is w (.bool false)) := by
 have h := qrl g lim A n c w hg
 rwa [beq_false_of_ne hlim] at h
theorem qne (A : Option Addr) (c : Nat) (l : List Nat) (w : World) (hr : Rd w w.heap.size 1 A l.length (l.map B8)) (hn : l.length ≤ 100000000) :
    Calls Tryz.prog 52 #[.slice A l.length c] w (qad w l) := by
 refine qg (vs := [.slice A l.length c]) Tryz.func52 rfl rfl (by kernel_rfl) (σ0 := [(0, .slice A l.length c)]) rfl ?_
 intro a HF
 have HM := Mem.start w
 refine wp_seq (qa ?_)
 refine fp HF 1 0 [(2, .slice none 0 0)] fun a HF => ?_
 refine qb rfl (wp_seq (wp_seq (qa ?_)))
 refine fp HF 1 0 [(3, .slice A l.length c)] fun a HF => ?_
 refine fy HF HM 1 rfl rfl rfl (v := .bool A.isNone) (Yl.q0l rfl rfl rfl) fun a HF => ?_
 refine qb rfl ?_
 rcases HF.tf 4 rfl with ⟨hb4, HF⟩ | ⟨hb4, HF⟩
 ·
  obtain rfl : A = none := by cases A with | none => rfl | some a => cases hb4
  obtain rfl : l = [] := hr.qy8
  refine qe HF rfl (wp_seq (qa ?_))
  refine fp HF 1 0 [(2, .slice none 0 0)] fun a HF => ?_
  refine qb rfl (wp_ret ?_)
  exact ret1 rfl HF (.tmp HF rfl) (⟨⟨none, 0, rfl, World.ownsRow_nil _ _ _ _, Nat.le_refl _⟩, HM.below⟩)
 refine qd HF rfl (wp_skip (wp_seq (qa ?_)))
 refine fo HF 0 rfl rfl ?_
 refine qkp HF HM rfl ei_u8 rfl (by decide) ?_
 clear HF HM; intro a w5 g5 HF HM
 refine fp HF 1 1 [(6, .slice A l.length c)] fun a HF => ?_
 refine fo HF 2 rfl rfl ?_
 refine qu HF HM (i := 0) rfl ei_u8 rfl rfl rfl (news := (l.map B8)) (HM.old hr) (qa2 _) (by omega) (by omega) rfl (by decide) ?_
 clear HF HM; intro a w7 A7 c7 HF HM hc7
 refine fp HF 1 3 [(2, .slice A7 (0 + l.length) c7)] fun a HF => ?_
 refine qb rfl (wp_ret ?_)
 exact ret1 rfl HF (.tmp HF rfl) (⟨⟨A7, c7, by rw [Nat.zero_add], by have h := HM.own (i := 0) rfl; rwa [Nat.zero_add, List.nil_append] at h, by omega⟩, HM.below⟩)
def NewIs (w : World) (lim : Int) (r : Ending) (w' : World) : Prop := ((lim < 1 ∨ 4096 < lim) ∧ Is w (.tuple #[.pointer none, .int .i64 2]) r w') ∨ (¬ (lim < 1 ∨ 4096 < lim) ∧ ∃ g, r = .returned (.tuple #[.pointer (some ⟨g, 0, none⟩), .int .i64 0]) ∧ Mem w w' [.blk g #[.int .i64 lim, .slice none 0 0] 93])
theorem qp9 {w w' : World} {lim : Int} (h : lim < 1 ∨ 4096 < lim) (hb : Below w.heap.size w w') : NewIs w lim (.returned (.tuple #[.pointer none, .int .i64 2])) w' := .inl ⟨h, rfl, hb⟩
theorem qw5 {w w' : World} {lim : Int} {g : Nat} (h : ¬ (lim < 1 ∨ 4096 < lim)) (hm : Mem w w' [.blk g #[.int .i64 lim, .slice none 0 0] 93]) : NewIs w lim (.returned (.tuple #[.pointer (some ⟨g, 0, none⟩), .int .i64 0])) w' := .inr ⟨h, g, rfl, hm⟩
theorem qnf (lim : Int) (hl : I64 lim) (w : World) :
    Calls Tryz.prog 16 #[.int .i64 lim] w (NewIs w lim) := by
 refine qg (vs := [vI lim]) Tryz.func16 rfl rfl (by kernel_rfl) (σ0 := [(0, vI lim)]) rfl ?_
 intro a HF
 have HM := Mem.start w
 refine wp_seq (qa ?_)
 refine fp HF 2 0 [(3, vI 0), (2, .pointer none)] fun a HF => ?_
 refine qb rfl (wp_seq (wp_seq (qa ?_)))
 refine fp HF 3 0 [(6, .bool (decide ((lim : Int) < (1 : Int))))] fun a HF => ?_
 rcases HF.tf 6 rfl with ⟨hb6, HF⟩ | ⟨hb6, HF⟩
 ·
  have hd6 := of_decide_eq_true hb6
  refine fp HF 3 3 [(9, .bool true)] fun a HF => ?_
  refine qb rfl (qe HF rfl (wp_seq (qa ?_)))
  refine fp HF 2 0 [(3, vI 2), (2, .pointer none)] fun a HF => ?_
  refine qb rfl (wp_ret ?_)
  exact ret2 rfl HF (.tmp HF rfl) (.tmp HF rfl) (qp9 (by omega) HM.below)
 have hd6 := of_decide_eq_false hb6
 refine fp HF 3 3 [(9, .bool (decide ((lim : Int) > (4096 : Int))))] fun a HF => ?_
 refine qb rfl ?_
 rcases HF.tf 9 rfl with ⟨hb9, HF⟩ | ⟨hb9, HF⟩
 ·
  have hd9 := of_decide_eq_true hb9
  refine qe HF rfl (wp_seq (qa ?_))
  refine fp HF 2 0 [(3, vI 2), (2, .pointer none)] fun a HF => ?_
  refine qb rfl (wp_ret ?_)
  exact ret2 rfl HF (.tmp HF rfl) (.tmp HF rfl) (qp9 (by omega) HM.below)
 have hd9 := of_decide_eq_false hb9
 refine qd HF rfl (wp_skip (wp_seq (qa ?_)))
 refine fp HF 1 0 [(10, vI lim)] fun a HF => ?_
 refine fy HF HM 1 rfl rfl rfl (v := .agg #[vI lim, .slice none 0 0]) (Yl.build (vs := [(0, vI lim)]) rfl (by kernel_rfl) (by kernel_rfl)) fun a HF => ?_
 refine fo HF 2 rfl rfl ?_
 refine e_box HF HM (cs := #[vI lim, .slice none 0 0]) rfl rfl rfl rfl (by decide) ?_
 clear HF HM; intro a w12 g12 HF HM
 refine fp HF 2 3 [(3, vI 0), (2, vP g12 0)] fun a HF => ?_
 refine qb rfl (wp_ret ?_)
 exact ret2 rfl HF (.tmp HF rfl) (.tmp HF rfl) (qw5 (by omega) (HM.picks [0] (by decide) rfl))
theorem qka (A : Option Addr) (c : Nat) (q : List Hb) (B : Nat) (w : World) (hL : LaidX B w) (hB : B ≤ w.heap.size) (hr : Rd w w.heap.size 5 A q.length (q.flatMap hbL)) (hQ : HbRd w q) (hok : ∀ h ∈ q, h.b.Ok) (hev : ∀ h ∈ q, h.b.evs.length ≤ 1000000) (hn : q.length ≤ 1000000) {R : List Nat} {er : Nat} (h : zy (q.map Hb.b) = (R, er)) :
  Calls Tryz.prog 25 #[.slice A q.length c] w (qah w er R) := by
 have h1 := qot A c q B w hL hB hr hQ hok hev hn
 rw [h] at h1
 exact h1
theorem qng (W w : World) (g : Nat) (lim : Int) (A : Option Addr) (c : Nat) (out : List Nat) (fs : List Fact) (HW : Mem W w (.blk g #[.int .i64 lim, .slice A out.length c] 93 :: .row (.slice A out.length c) out.length (out.map B8) 5 1 :: fs)) (hc : out.length ≤ c) (hout : out.length ≤ 524288) (A2 : Option Addr) (c2 : Nat) (q : List Hb) (B : Nat) (hL : LaidX B w) (hBW : B ≤ W.heap.size) (hr : Rd w w.heap.size 5 A2 q.length (q.flatMap hbL)) (hQ : HbRd w q) (hok : ∀ h ∈ q, h.b.Ok) (hev : ∀ h ∈ q, h.b.evs.length ≤ 1000000) (hn : q.length ≤ 1000000) :
    Calls Tryz.prog 50 #[.pointer (some ⟨g, 0, none⟩), .slice A2 q.length c2] w (WrIs W 93 g lim (zk out (q.map Hb.b)).1 fs (.int .i64 ((zk out (q.map Hb.b)).2 : Int))) := by
 have hg := HW.blk (i := 0) rfl
 have hB := Nat.le_trans hBW HW.size
 have hrA := HW.rd (i := 1) rfl
 refine qg (vs := [vP g 0, .slice A2 q.length c2]) Tryz.func50 rfl rfl (by kernel_rfl) (σ0 := [(0, vP g 0), (1, .slice A2 q.length c2)]) rfl ?_
 intro a HF
 have HM := Mem.start w
 refine wp_seq (qa ?_)
 refine fp HF 1 0 [(4, vI 0)] fun a HF => ?_
 refine qb rfl ?_
 obtain ⟨R, er, hws⟩ : ∃ R er, zy (q.map Hb.b) = (R, er) := ⟨_, _, rfl⟩
 have hRl : R.length ≤ 524288 := by have h := qjv (q.map Hb.b); rw [hws] at h; exact h
 refine wp_seq (qa ?_)
 refine fp HF 1 0 [(8, .slice A2 q.length c2)] fun a HF => ?_
 refine fo HF 1 rfl rfl ?_
 refine e_cl HF [.slice A2 q.length c2] rfl rfl (qka A2 c2 q B _ (hL.mem HM hB) (HM.le hB) (HM.old hr) (HbRd.old hQ HM) hok hev hn hws) ?_
 rintro _ w9 ⟨⟨A9, c9, rfl, ho, hc9⟩, hbw⟩
 refine ⟨_, rfl, ?_⟩
 replace HM := HM.callRow hbw ho
 clear HF; intro a HF
 refine fp HF 5 2 [(6, vI er), (5, .slice A9 R.length c9)] fun a HF => ?_
 refine qb rfl (wp_seq (wp_seq (qa ?_)))
 refine fp HF 2 0 [(13, .bool ((er : Int) != (0 : Int)))] fun a HF => ?_
 refine qb rfl ?_
 rcases HF.tf 13 rfl with ⟨hb13, HF⟩ | ⟨hb13, HF⟩
 ·
  have hd13 := bne_iff_ne.1 hb13
  refine qe HF rfl (wp_seq (qa ?_))
  refine fp HF 2 0 [(4, vI er)] fun a HF => ?_
  refine qb rfl (wp_ret ?_)
  exact ret1 rfl HF (.tmp HF rfl) (qk4 (qif hws (by omega)) rfl hc (HW.call HM.below))
 have hd13 := bne_eq_false_iff_eq.1 hb13
 refine qd HF rfl (wp_skip (wp_seq (wp_seq (qa ?_))))
 refine fp HF 1 0 [(15, vP g 0)] fun a HF => ?_
 refine fy HF HM 1 rfl rfl rfl (v := vP g 0) (Yl.nilCheck rfl rfl) fun a HF => ?_
 refine fp HF 1 2 [(17, vP g 1)] fun a HF => ?_
 refine fy HF HM 3 rfl rfl rfl (v := .slice A out.length c) (Yl.qh rfl rfl (by kernel_rfl) (fun _ h => h.zn hg rfl)) fun a HF => ?_
 refine fy HF HM 4 rfl rfl rfl (Yl.len rfl rfl (by kernel_rfl)) fun a HF => ?_
 refine fp HF 1 5 [(20, .slice A9 R.length c9)] fun a HF => ?_
 refine fy HF HM 6 rfl rfl rfl (Yl.len rfl rfl (by kernel_rfl)) fun a HF => ?_
 refine fp HF 1 7 [(22, vI (IntKind.i64.wrap ((out.length : Int) + (R.length : Int))))] fun a HF => ?_
 replace HF := HF.sp 22 (vI (out.length + R.length : Nat)) rfl (qi (by omega) (by omega))
 refine fp HF 1 8 [(23, .bool (decide (((out.length + R.length : Nat) : Int) > (524288 : Int))))] fun a HF => ?_
 refine qb rfl ?_
 rcases HF.tf 23 rfl with ⟨hb23, HF⟩ | ⟨hb23, HF⟩
 ·
  have hd23 := of_decide_eq_true hb23
  refine qe HF rfl (wp_seq (qa ?_))
  refine fp HF 1 0 [(4, vI 3)] fun a HF => ?_
  refine qb rfl (wp_ret ?_)
  exact ret1 rfl HF (.tmp HF rfl) (qk4 (qgy hws (by omega) (by omega)) rfl hc (HW.call HM.below))
 have hd23 := of_decide_eq_false hb23
 replace HM : Mem W _ (.row (.slice A9 R.length c9) R.length (R.map B8) 5 1 :: .blk g #[vI lim, .slice A out.length c] 93 :: .row (.slice A out.length c) out.length (out.map B8) 5 1 :: fs) := HW.join HM
 refine qd HF rfl (wp_skip (wp_seq (qa ?_)))
 refine fp HF 2 0 [(25, vP g 0), (24, vP g 0)] fun a HF => ?_
 refine fy HF HM 2 rfl rfl rfl (v := vP g 0) (Yl.nilCheck rfl rfl) fun a HF => ?_
 refine fp HF 1 3 [(27, vP g 1)] fun a HF => ?_
 refine fy HF HM 4 rfl rfl rfl (Yl.qh rfl rfl (by kernel_rfl) (fun _ h => h.cell (i := 1) rfl rfl)) fun a HF => ?_
 refine fp HF 1 5 [(29, .slice A9 R.length c9)] fun a HF => ?_
 refine fo HF 6 rfl rfl ?_
 refine qu HF HM (i := 2) rfl ei_u8 rfl rfl rfl (news := (R.map B8)) (HM.rd (i := 0) rfl) (qa2 _) (by omega) (by omega) rfl (by decide) ?_
 clear HF HM; intro a w30 A30 c30 HF HM hc30
 rw [show (out.map B8) ++ (R.map B8) = (out ++ R).map B8 from by rw [List.map_append]] at HM
 refine fy HF HM 7 rfl rfl rfl (v := vP g 0) (Yl.nilCheck rfl rfl) fun a HF => ?_
 refine fp HF 1 8 [(32, vP g 1)] fun a HF => ?_
 refine fo HF 9 rfl rfl ?_
 refine zd HF HM (i := 1) rfl rfl rfl rfl (by kernel_rfl) rfl rfl (by simp) ?_
 clear HM; intro w6_9 HM
 refine qb rfl ?_
 have hnA30 : out.length + R.length = (out ++ R).length := by rw [List.length_append]
 replace HM := HM.reRow (i := 2) (ys := (out ++ R).map B8) rfl hnA30 (rfl)
 rw [hnA30] at hc30
 replace HF := HF.as (t := 30) (u := .slice A30 ((out ++ R).length) c30) rfl (by rw [hnA30])
 replace HM := HM.reBlk (i := 1) (ds := #[.int .i64 lim, .slice A30 (out ++ R).length c30]) rfl (by rw [hnA30]; rfl)
 refine wp_seq (qa ?_)
 refine fp HF 1 0 [(4, vI 0)] fun a HF => ?_
 refine qb rfl (wp_ret ?_)
 exact ret1 rfl HF (.tmp HF rfl) (qk4 (qjx hws (by omega) (by omega)) rfl hc30 (HM.picksT 3 [1, 2] (by decide) (by decide) rfl))
theorem qip (W w : World) (g : Nat) (lim : Int) (A : Option Addr) (c : Nat) (out : List Nat) (fs : List Fact) (HW : Mem W w (.blk g #[.int .i64 lim, .slice A out.length c] 93 :: .row (.slice A out.length c) out.length (out.map B8) 5 1 :: fs)) (hc : out.length ≤ c) (hout : out.length ≤ 524288) (A2 : Option Addr) (c2 : Nat) (q : List Hb) (B : Nat) (hL : LaidX B w) (hBW : B ≤ W.heap.size) (hr : Rd w w.heap.size 5 A2 q.length (q.flatMap hbL)) (hQ : HbRd w q) (hok : ∀ h ∈ q, h.b.Ok) (hev : ∀ h ∈ q, h.b.evs.length ≤ 1000000) (hn : q.length ≤ 1000000) {o2 : List Nat} {we : Nat} (h : zk out (q.map Hb.b) = (o2, we)) :
  Calls Tryz.prog 50 #[.pointer (some ⟨g, 0, none⟩), .slice A2 q.length c2] w (WrIs W 93 g lim o2 fs (.int .i64 (we : Int))) := by
 have h1 := qng W w g lim A c out fs HW hc hout A2 c2 q B hL hBW hr hQ hok hev hn
 rw [h] at h1
 exact h1
theorem qfx (cpu : Nat) (hcpu : cpu < 256) (A : Option Addr) (n c : Nat) (l : List It) (opn limit : Int) (hok : ∀ x ∈ l, x.Ok) (ho : I64 opn) (hlm : I64 limit) (B : Nat) (w : World) (hL : LaidX B w) (hB : B ≤ w.heap.size) (hr : Rd w w.heap.size 12 A n (l.flatMap itL)) (hc : n ≤ c) (hln : l.length = n) (hn : n ≤ 1000000) {bs : List Bk} {ce : Nat} (h : cutS cpu l opn limit = (bs, ce)) :
  Calls Tryz.prog 15 #[.int .u8 (cpu : Int), .slice A n c, .int .i64 opn, .int .i64 limit] w (qh0 41 27 w ce bs) := by
 have h1 := qu3 cpu hcpu A n c l opn limit hok ho hlm B w hL hB hr hc hln hn
 rw [h] at h1
 exact h1
theorem qu4 (W w : World) (g : Nat) (lim : Int) (A : Option Addr) (c : Nat) (out : List Nat) (fs : List Fact) (HW : Mem W w (.blk g #[.int .i64 lim, .slice A out.length c] 93 :: .row (.slice A out.length c) out.length (out.map B8) 5 1 :: fs)) (hc : out.length ≤ c) (hout : out.length ≤ 524288) (hlim : lim ≠ 0) (hlm : I64 lim) (cpu : Nat) (hcpu : cpu < 256) (A2 : Option Addr) (c2 : Nat) (l : List It) (opn : Int) (hok : ∀ x ∈ l, x.Ok) (ho : I64 opn) (B : Nat) (hL : LaidX B w) (hBW : B ≤ W.heap.size) (hr : Rd w w.heap.size 12 A2 l.length (l.flatMap itL)) (hc2 : l.length ≤ c2) (hn : l.length ≤ 999999) :
    Calls Tryz.prog 29 #[.pointer (some ⟨g, 0, none⟩), .int .u8 (cpu : Int), .slice A2 l.length c2, .int .i64 opn] w (WrIs W 93 g lim (putW out lim cpu l opn).1 fs (.tuple #[.int .i64 ((putW out lim cpu l opn).2.1 : Int), .int .i64 ((putW out lim cpu l opn).2.2 : Int)])) := by
 have hg := HW.blk (i := 0) rfl
 have hB := Nat.le_trans hBW HW.size
 have hrA := HW.rd (i := 1) rfl
 refine qg (vs := [vP g 0, vB cpu, .slice A2 l.length c2, vI opn]) Tryz.func29 rfl rfl (by kernel_rfl) (σ0 := [(0, vP g 0), (1, vB cpu), (2, .slice A2 l.length c2), (3, vI opn)]) rfl ?_
 intro a HF
 have HM := Mem.start w
 refine wp_seq (qa ?_)
 refine fp HF 2 0 [(9, vI 0), (8, vI 0)] fun a HF => ?_
 refine qb rfl ?_
 obtain ⟨bs, ce, hcs⟩ : ∃ bs ce, cutS cpu l opn lim = (bs, ce) := ⟨_, _, rfl⟩
 obtain ⟨o2, we, hwb⟩ : ∃ o2 we, zk out bs = (o2, we) := ⟨_, _, rfl⟩
 refine wp_seq (wp_seq (qa ?_))
 refine fp HF 1 0 [(12, vP g 0)] fun a HF => ?_
 refine fo HF 1 rfl rfl ?_
 refine e_is HF HM [vP g 0] (.bool false) rfl rfl (qfw g lim A out.length c _ (HM.oldBlk hg) hlim) fun w13 hbw HM a HF => ?_
 refine qb rfl (qd HF rfl (wp_skip (wp_seq (qa ?_))))
 refine fp HF 4 0 [(18, vP g 0), (17, vI opn), (16, .slice A2 l.length c2), (15, vB cpu)] fun a HF => ?_
 refine fy HF HM 4 rfl rfl rfl (v := vP g 0) (Yl.nilCheck rfl rfl) fun a HF => ?_
 refine fp HF 1 5 [(20, vP g 0)] fun a HF => ?_
 refine fy HF HM 6 rfl rfl rfl (v := vI lim) (Yl.qh rfl rfl (by kernel_rfl) (fun _ h => h.zn hg rfl)) fun a HF => ?_
 refine fo HF 7 rfl rfl ?_
 refine e_cl HF [vB cpu, .slice A2 l.length c2, vI opn, vI lim] rfl rfl (qfx cpu hcpu A2 l.length c2 l opn lim hok ho hlm B _ (hL.mem HM hB) (HM.le hB) (HM.old hr) hc2 rfl (by omega) hcs) ?_
 rintro _ w22 ⟨Ac, cc, q, rfl, hqb, hcc, hm⟩
 have hql : bs.length = q.length := by rw [← hqb, List.length_map]
 rw [hql] at hm hcc ⊢
 refine ⟨_, rfl, ?_⟩
 replace HM := Mem.q0m HM hm
 clear HF; intro a HF
 refine fp HF 5 8 [(11, vI ce), (10, .slice Ac q.length cc)] fun a HF => ?_
 refine qb rfl (wp_seq (wp_seq (qa ?_)))
 refine fp HF 2 0 [(26, .bool ((ce : Int) == (0 : Int)))] fun a HF => ?_
 refine qb rfl ?_
 rcases HF.tf 26 rfl with ⟨hb26, HF⟩ | ⟨hb26, HF⟩
 ·
  have hd26 := eq_of_beq hb26
  have hww : zk out (q.map Hb.b) = (o2, we) := by rw [hqb]; exact hwb
  have hcg := qmw hcpu hok ho hcs
  have hqok : ∀ h ∈ q, h.b.Ok := fun h hh => (hcg.1 h.b (by rw [← hqb]; exact List.mem_map_of_mem hh))
  have hqev : ∀ h ∈ q, h.b.evs.length ≤ 1000000 := fun h hh => Nat.le_trans (hcg.2.1 h.b (by rw [← hqb]; exact List.mem_map_of_mem hh)) (by omega)
  have hbl := hcg.2.2
  replace HM : Mem W _ (.row (.slice Ac q.length cc) q.length (q.flatMap hbL) 27 5 :: .blk g #[vI lim, .slice A out.length c] 93 :: .row (.slice A out.length c) out.length (out.map B8) 5 1 :: (hbF 41 q ++ (fs))) := Mem.q0g (HW.join HM)
  refine qe HF rfl (qa ?_)
  refine fp HF 2 0 [(28, .slice Ac q.length cc), (27, vP g 0)] fun a HF => ?_
  refine fo HF 2 rfl rfl ?_
  refine e_cl HF [vP g 0, .slice Ac q.length cc] rfl rfl (qip W _ g lim A c out _ (HM.picksT 3 [1, 2, 0] (by decide) (by decide) rfl) hc hout Ac cc q B (hL.mem2 HW HM hBW) hBW (HM.rd (i := 0) rfl) (Mem.qw8 (a := [.row (.slice Ac q.length cc) q.length (q.flatMap hbL) 27 5, .blk g #[vI lim, .slice A out.length c] 93, .row (.slice A out.length c) out.length (out.map B8) 5 1]) HM) hqok hqev (by omega) hww) ?_
  rintro _ w29 ⟨rfl, A29, c29, hc29, HM2⟩
  refine ⟨_, rfl, ?_⟩
  replace HM := HM2
  clear HF; intro a HF
  refine fp HF 1 3 [(11, vI we)] fun a HF => ?_
  refine qb rfl (wp_seq (wp_seq (qa ?_)))
  refine fp HF 2 0 [(31, .bool ((we : Int) != (0 : Int)))] fun a HF => ?_
  refine qb rfl ?_
  rcases HF.tf 31 rfl with ⟨hb31, HF⟩ | ⟨hb31, HF⟩
  ·
   have hd31 := bne_iff_ne.1 hb31
   refine qe HF rfl (wp_seq (qa ?_))
   refine fp HF 3 0 [(9, vI we), (8, vI 0)] fun a HF => ?_
   refine qb rfl (wp_ret ?_)
   exact ret2 rfl HF (.tmp HF rfl) (.tmp HF rfl) (qk5 (qmu hcs (by omega) hwb (by omega)) rfl rfl hc29 (Mem.drop2 (HM.picksT 3 [0, 1] (by decide) (by decide) rfl)))
  have hd31 := bne_eq_false_iff_eq.1 hb31
  refine qd HF rfl (wp_skip (wp_seq (qa ?_)))
  refine fp HF 1 0 [(33, .slice Ac q.length cc)] fun a HF => ?_
  refine fy HF HM 1 rfl rfl rfl (Yl.len rfl rfl (by kernel_rfl)) fun a HF => ?_
  refine fp HF 2 2 [(9, vI 0), (8, vI q.length)] fun a HF => ?_
  refine qb rfl (wp_ret ?_)
  exact ret2 rfl HF (.tmp HF rfl) (.tmp HF rfl) (qk5 (qpp hcs (by omega) hwb (by omega)) (by rw [hql]) rfl hc29 (Mem.drop2 (HM.picksT 3 [0, 1] (by decide) (by decide) rfl)))
 have hd26 := ne_of_beq_false hb26
 refine qd HF rfl (wp_skip (wp_seq (wp_seq (qa ?_))))
 refine fp HF 2 0 [(31, .bool ((ce : Int) != (0 : Int)))] fun a HF => ?_
 refine qb rfl ?_
 rcases HF.tf 31 rfl with ⟨hb31, HF⟩ | ⟨hb31, HF⟩
 ·
  have hd31 := bne_iff_ne.1 hb31
  refine qe HF rfl (wp_seq (qa ?_))
  refine fp HF 3 0 [(9, vI ce), (8, vI 0)] fun a HF => ?_
  refine qb rfl (wp_ret ?_)
  exact ret2 rfl HF (.tmp HF rfl) (.tmp HF rfl) (qk5 (qmt hcs (by omega)) rfl rfl hc (HW.call HM.below))
 have hd31 := bne_eq_false_iff_eq.1 hb31
 exfalso; omega
theorem qu5 (W w : World) (g : Nat) (lim : Int) (A : Option Addr) (c : Nat) (out : List Nat) (fs : List Fact) (HW : Mem W w (.blk g #[.int .i64 lim, .slice A out.length c] 93 :: .row (.slice A out.length c) out.length (out.map B8) 5 1 :: fs)) (hc : out.length ≤ c) (hout : out.length ≤ 524288) (hlim : lim ≠ 0) (next : Int) (hnx : I64 next) (B : Nat) (hL : LaidX B w) (hBW : B ≤ W.heap.size) :
    Calls Tryz.prog 17 #[.pointer (some ⟨g, 0, none⟩), .int .i64 next] w (WrIs W 93 g lim (zk out [endB next]).1 fs (.int .i64 ((zk out [endB next]).2 : Int))) := by
 have hg := HW.blk (i := 0) rfl
 have hB := Nat.le_trans hBW HW.size
 have hrA := HW.rd (i := 1) rfl
 refine qg (vs := [vP g 0, vI next]) Tryz.func17 rfl rfl (by kernel_rfl) (σ0 := [(0, vP g 0), (1, vI next)]) rfl ?_
 intro a HF
 have HM := Mem.start w
 refine wp_seq (qa ?_)
 refine fp HF 1 0 [(4, vI 0)] fun a HF => ?_
 refine qb rfl (wp_seq (wp_seq (qa ?_)))
 refine fp HF 1 0 [(5, vP g 0)] fun a HF => ?_
 refine fo HF 1 rfl rfl ?_
 refine e_is HF HM [vP g 0] (.bool false) rfl rfl (qfw g lim A out.length c _ (HM.oldBlk hg) hlim) fun w6 hbw HM a HF => ?_
 refine qb rfl ?_
 replace HM : Mem W _ (.blk g #[vI lim, .slice A out.length c] 93 :: .row (.slice A out.length c) out.length (out.map B8) 5 1 :: fs) := HW.join HM
 obtain ⟨o2, we, hww⟩ : ∃ o2 we, zk out [endB next] = (o2, we) := ⟨_, _, rfl⟩
 refine qd HF rfl (wp_skip (wp_seq (qa ?_)))
 refine fp HF 2 0 [(8, vI next), (7, vP g 0)] fun a HF => ?_
 refine fy HF HM 2 rfl rfl rfl (v := .agg #[vB 2, vB 0, vI 0, vI next, .slice none 0 0]) (Yl.build (vs := [(0, vB 2), (3, vI next)]) rfl (by kernel_rfl) (by kernel_rfl)) fun a HF => ?_
 refine fo HF 3 rfl rfl ?_
 refine ze HF HM (vs := [(0, .agg #[vB 2, vB 0, vI 0, vI next, .slice none 0 0])]) (cs := #[vB 2, vB 0, vI 0, vI next, .slice none 0 0]) rfl qpj (by decide) rfl (by kernel_rfl) rfl (by decide) ?_
 clear HF HM; intro a w10 g10 HF HM
 refine fo HF 4 rfl rfl ?_
 refine e_cl HF [vP g 0, vS g10 1 1] rfl rfl (qip W _ g lim A c out _ (HM.picksT 3 [1, 2, 0] (by decide) (by decide) rfl) hc hout _ 1 [⟨endB next, none, 0⟩] B (hL.mem2 HW HM hBW) hBW (HM.rdBlk (i := 0) (n := 1) (size := 5) rfl rfl) (by intro x hx; rw [List.mem_singleton] at hx; subst hx; exact Rd.nil) (by intro x hx; rw [List.mem_singleton] at hx; subst hx; exact qui hnx) (by intro x hx; rw [List.mem_singleton] at hx; subst hx; exact Nat.zero_le _) (by show 1 ≤ 1000000; decide) hww) ?_
 rintro _ w11 ⟨rfl, A11, c11, hc11, HM2⟩
 refine ⟨_, rfl, ?_⟩
 replace HM := HM2
 clear HF; intro a HF
 refine fp HF 1 5 [(4, vI we)] fun a HF => ?_
 refine qb rfl (wp_ret ?_)
 exact ret1 rfl HF (.tmp HF rfl) (qk4 hww rfl hc11 (HM.picksT 3 [0, 1] (by decide) (by decide) rfl))
theorem qe6 (g : Nat) (lim : Int) (A : Option Addr) (c : Nat) (out : List Nat) (w : World) (hg : w.heap[g]? = some (.cells #[.int .i64 lim, .slice A out.length c] 93 (0, 0))) (hrA : Rd w w.heap.size 1 A out.length (out.map B8)) (hout : out.length ≤ 524288) (hlim : lim ≠ 0) :
    Calls Tryz.prog 20 #[.pointer (some ⟨g, 0, none⟩)] w (qad w out) := by
 refine qg (vs := [vP g 0]) Tryz.func20 rfl rfl (by kernel_rfl) (σ0 := [(0, vP g 0)]) rfl ?_
 intro a HF
 have HM := Mem.start w
 refine wp_seq (qa ?_)
 refine fp HF 1 0 [(2, .slice none 0 0)] fun a HF => ?_
 refine qb rfl (wp_seq (wp_seq (qa ?_)))
 refine fp HF 1 0 [(3, vP g 0)] fun a HF => ?_
 refine fo HF 1 rfl rfl ?_
 refine e_is HF HM [vP g 0] (.bool false) rfl rfl (qfw g lim A out.length c _ (HM.oldBlk hg) hlim) fun w4 hbw HM a HF => ?_
 refine qb rfl (qd HF rfl (wp_skip (wp_seq (qa ?_))))
 refine fp HF 1 0 [(5, vP g 0)] fun a HF => ?_
 refine fy HF HM 1 rfl rfl rfl (v := vP g 0) (Yl.nilCheck rfl rfl) fun a HF => ?_
 refine fp HF 1 2 [(7, vP g 1)] fun a HF => ?_
 refine fy HF HM 3 rfl rfl rfl (v := .slice A out.length c) (Yl.qh rfl rfl (by kernel_rfl) (fun _ h => h.zn hg rfl)) fun a HF => ?_
 refine fo HF 4 rfl rfl ?_
 refine e_cl HF [.slice A out.length c] rfl rfl (qne A c out _ (HM.old hrA) (by omega)) ?_
 rintro _ w9 ⟨⟨A9, c9, rfl, ho, hc9⟩, hbw⟩
 refine ⟨_, rfl, ?_⟩
 replace HM := HM.callRow hbw ho
 clear HF; intro a HF
 refine fp HF 1 5 [(2, .slice A9 out.length c9)] fun a HF => ?_
 refine qb rfl (wp_ret ?_)
 exact ret1 rfl HF (.tmp HF rfl) (⟨⟨_, _, rfl, HM.own (i := 0) rfl, hc9⟩, HM.below⟩)
theorem qu6 (g : Nat) (lim : Int) (A : Option Addr) (c : Nat) (out : List Nat) (w : World) (hg : w.heap[g]? = some (.cells #[.int .i64 lim, .slice A out.length c] 93 (0, 0))) (hlim : lim ≠ 0) :
    Calls Tryz.prog 18 #[.pointer (some ⟨g, 0, none⟩)] w (Is w (.int .i64 (out.length : Int))) := by
 refine qg (vs := [vP g 0]) Tryz.func18 rfl rfl (by kernel_rfl) (σ0 := [(0, vP g 0)]) rfl ?_
 intro a HF
 have HM := Mem.start w
 refine wp_seq (qa ?_)
 refine fp HF 1 0 [(2, vI 0)] fun a HF => ?_
 refine qb rfl (wp_seq (wp_seq (qa ?_)))
 refine fp HF 1 0 [(3, vP g 0)] fun a HF => ?_
 refine fo HF 1 rfl rfl ?_
 refine e_is HF HM [vP g 0] (.bool false) rfl rfl (qfw g lim A out.length c _ (HM.oldBlk hg) hlim) fun w4 hbw HM a HF => ?_
 refine qb rfl (qd HF rfl (wp_skip (wp_seq (qa ?_))))
 refine fp HF 1 0 [(5, vP g 0)] fun a HF => ?_
 refine fy HF HM 1 rfl rfl rfl (v := vP g 0) (Yl.nilCheck rfl rfl) fun a HF => ?_
 refine fp HF 1 2 [(7, vP g 1)] fun a HF => ?_
 refine fy HF HM 3 rfl rfl rfl (v := .slice A out.length c) (Yl.qh rfl rfl (by kernel_rfl) (fun _ h => h.zn hg rfl)) fun a HF => ?_
 refine fy HF HM 4 rfl rfl rfl (Yl.len rfl rfl (by kernel_rfl)) fun a HF => ?_
 refine fp HF 1 5 [(2, vI out.length)] fun a HF => ?_
 refine qb rfl (wp_ret ?_)
 exact ret1 rfl HF (.tmp HF rfl) (⟨rfl, HM.below⟩)
def qz6 (w : World) (l : List Nat) (r : Ending) (w' : World) : Prop := ∃ g A c, r = .returned (.pointer (some ⟨g, 0, none⟩)) ∧ l.length ≤ c ∧ Mem w w' [.blk g #[.bool true, .int .i64 0, .slice A l.length c] 96, .row (.slice A l.length c) l.length (l.map B8) 5 1]
theorem Mem.skip {W w : World} {f : Fact} {fs : List Fact} (h : Mem W w (f :: fs)) : Mem W w fs := h.tail
theorem qrm (A : Option Addr) (c : Nat) (l : List Nat) (w : World) (hr : Rd w w.heap.size 1 A l.length (l.map B8)) (hn : l.length ≤ 100000000) :
    Calls Tryz.prog 21 #[.slice A l.length c] w (qz6 w l) := by
 refine qg (vs := [.slice A l.length c]) Tryz.func21 rfl rfl (by kernel_rfl) (σ0 := [(0, .slice A l.length c)]) rfl ?_
 intro a HF
 have HM := Mem.start w
 refine wp_seq (qa ?_)
 refine fp HF 1 0 [(2, .pointer none)] fun a HF => ?_
 refine qb rfl (wp_seq (qa ?_))
 refine fp HF 1 0 [(3, .slice A l.length c)] fun a HF => ?_
 refine fo HF 1 rfl rfl ?_
 refine e_cl HF [.slice A l.length c] rfl rfl (qne A c l _ (HM.old hr) hn) ?_
 rintro _ w4 ⟨⟨A4, c4, rfl, ho, hc4⟩, hbw⟩
 refine ⟨_, rfl, ?_⟩
 replace HM := HM.callRow hbw ho
 clear HF; intro a HF
 refine fy HF HM 2 rfl rfl rfl (v := .agg #[.bool true, vI 0, .slice A4 l.length c4]) (Yl.build (vs := [(0, .bool true), (2, .slice A4 l.length c4)]) rfl (by kernel_rfl) (by kernel_rfl)) fun a HF => ?_
 refine fo HF 3 rfl rfl ?_
 refine e_box HF HM (cs := #[.bool true, vI 0, .slice A4 l.length c4]) rfl rfl rfl rfl (by decide) ?_
 clear HF HM; intro a w6 g6 HF HM
 refine fp HF 1 4 [(2, vP g6 0)] fun a HF => ?_
 refine qb rfl (wp_ret ?_)
 exact ret1 rfl HF (.tmp HF rfl) (⟨g6, A4, c4, rfl, hc4, HM⟩)
theorem qnh (g p : Nat) (A : Option Addr) (c : Nat) (l : List Nat) (w : World) (hg : w.heap[g]? = some (.cells #[.bool true, .int .i64 (p : Int), .slice A l.length c] 96 (0, 0))) :
    Calls Tryz.prog 23 #[.pointer (some ⟨g, 0, none⟩)] w (Is w (.int .i64 (p : Int))) := by
 refine qg (vs := [vP g 0]) Tryz.func23 rfl rfl (by kernel_rfl) (σ0 := [(0, vP g 0)]) rfl ?_
 intro a HF
 have HM := Mem.start w
 refine wp_seq (qa ?_)
 refine fp HF 1 0 [(2, vI 0)] fun a HF => ?_
 refine qb rfl (wp_seq (wp_seq (qa ?_)))
 refine fp HF 1 0 [(3, vP g 0)] fun a HF => ?_
 refine fy HF HM 1 rfl rfl rfl (v := .bool false) (Yl.qit rfl rfl rfl) fun a HF => ?_
 refine qb rfl (qd HF rfl (wp_skip (wp_seq (qa ?_))))
 refine fp HF 1 0 [(5, vP g 0)] fun a HF => ?_
 refine fy HF HM 1 rfl rfl rfl (v := vP g 0) (Yl.nilCheck rfl rfl) fun a HF => ?_
 refine fp HF 1 2 [(7, vP g 1)] fun a HF => ?_
 refine fy HF HM 3 rfl rfl rfl (v := vI p) (Yl.qh rfl rfl (by kernel_rfl) (fun _ h => h.zn hg rfl)) fun a HF => ?_
 refine fp HF 1 4 [(2, vI p)] fun a HF => ?_
 refine qb rfl (wp_ret ?_)
 exact ret1 rfl HF (.tmp HF rfl) (⟨rfl, HM.below⟩)
theorem qrn (W w : World) (g p : Nat) (A : Option Addr) (c : Nat) (l : List Nat) (fs : List Fact) (HW : Mem W w (.blk g #[.bool true, .int .i64 (p : Int), .slice A l.length c] 96 :: .row (.slice A l.length c) l.length (l.map B8) 5 1 :: fs)) (hp : p ≤ l.length) (hc : l.length ≤ c) (hl : ∀ b ∈ l, b < 256) (hn : l.length ≤ 100000000) (B : Nat) (hL : LaidX B w) (hBW : B ≤ W.heap.size) :
    Calls Tryz.prog 22 #[.pointer (some ⟨g, 0, none⟩)] w (qxo W 96 g p l A c fs (nextR l p)) := by
 have hg := HW.blk (i := 0) rfl
 have hrA := HW.rd (i := 1) rfl
 have hB := Nat.le_trans hBW HW.size
 refine qg (vs := [vP g 0]) Tryz.func22 rfl rfl (by kernel_rfl) (σ0 := [(0, vP g 0)]) rfl ?_
 intro a HF
 have HM := Mem.start w
 refine wp_seq (qa ?_)
 refine fo HF 0 rfl rfl ?_
 refine qt HF HM (cs := #[vB 0, vB 0, vI 0, vI 0, .slice none 0 0]) rfl (by kernel_rfl) rfl (by decide) ?_
 clear HF HM; intro a w2 g2 HF HM
 refine fp HF 1 1 [(3, vI 0)] fun a HF => ?_
 refine qb rfl (wp_seq (wp_seq (qa ?_)))
 refine fp HF 1 0 [(7, vP g 0)] fun a HF => ?_
 refine fy HF HM 1 rfl rfl rfl (v := .bool false) (Yl.qit rfl rfl rfl) fun a HF => ?_
 refine fp HF 2 2 [(10, vP g 0), (9, .bool false)] fun a HF => ?_
 refine fy HF HM 4 rfl rfl rfl (v := vP g 0) (Yl.nilCheck rfl rfl) fun a HF => ?_
 refine fp HF 1 5 [(12, vP g 0)] fun a HF => ?_
 refine fy HF HM 6 rfl rfl rfl (v := .bool true) (Yl.qh rfl rfl (by kernel_rfl) (fun _ h => h.zn hg rfl)) fun a HF => ?_
 refine fp HF 2 7 [(15, .bool false)] fun a HF => ?_
 refine qb rfl (qd HF rfl (wp_skip (wp_seq (wp_seq ?_))))
 refine qag HM [.blk g2 #[vB 0, vB 0, vI 0, vI 0, .slice none 0 0] 27] [0] [] fun HM HS => ?_
 refine ap HF (fun _ => HS) [0, 4] #[true, false, false, false, true, false, false, false, false, false] [(21, vP g 0), (17, vP g 0)] fun a HF => ?_
 refine ay HF HS 1 rfl rfl rfl (v := vP g 0) (Yl.nilCheck rfl rfl) fun a HF => ?_
 refine ap HF (fun _ => HS) [2] #[true, true, true, false, true, false, false, false, false, false] [(19, vP g 1)] fun a HF => ?_
 refine ay HF HS 3 rfl rfl rfl (v := vI p) (Yl.qh rfl rfl (by kernel_rfl) (fun _ h => h.zn hg rfl)) fun a HF => ?_
 refine ay HF HS 5 rfl rfl rfl (v := vP g 0) (Yl.nilCheck rfl rfl) fun a HF => ?_
 refine ap HF (fun _ => HS) [6] #[true, true, true, true, true, true, true, false, false, false] [(23, vP g 2)] fun a HF => ?_
 refine ay HF HS 7 rfl rfl rfl (v := .slice A l.length c) (Yl.qh rfl rfl (by kernel_rfl) (fun _ h => h.zn hg rfl)) fun a HF => ?_
 refine ay HF HS 8 rfl rfl rfl (Yl.len rfl rfl (by kernel_rfl)) fun a HF => ?_
 refine ap HF (fun _ => HS) [9] #[true, true, true, true, true, true, true, true, true, true] [(26, .bool ((p : Int) == (l.length : Int)))] fun a HF => ?_
 refine qn (by kernel_rfl) ?_
 rcases HF.tf 26 rfl with ⟨hb26, HF⟩ | ⟨hb26, HF⟩
 ·
  have hd26 := eq_of_beq hb26
  have hpl : p = l.length := by omega
  have hz : nextR l p = (Bk.zero, 0, 6) := if_pos hpl
  refine qe HF rfl (wp_seq (qa ?_))
  refine fy HF HM 0 rfl rfl rfl (v := .agg #[vB 0, vB 0, vI 0, vI 0, .slice none 0 0]) (Yl.build (vs := []) rfl (by kernel_rfl) (by kernel_rfl)) fun a HF => ?_
  refine fo HF 1 rfl rfl ?_
  refine e_sa HF HM 0 rfl rfl rfl rfl rfl si_bk rfl rfl (by simp [Value.oneCell']) ?_
  clear HM; intro w4_1 HM
  refine fp HF 1 2 [(3, vI 6)] fun a HF => ?_
  refine qb rfl (wp_ret ?_)
  exact ret2 rfl HF (.cellS (i := 0) HF HM rfl rfl si_bk rfl) (.tmp HF rfl) (by have HM := HW.join HM; exact qmv (b := Bk.zero) (A' := none) (c' := 0) hz rfl (Nat.le_refl _) (Mem.nil (Mem.skip HM) _ _))
 have hd26 := ne_of_beq_false hb26
 have hpl : p ≠ l.length := by omega
 obtain ⟨b, m, er, hq⟩ : ∃ b m er, readB (l.drop p) = (b, m, er) := ⟨_, _, _, rfl⟩
 have hz : nextR l p = (b, m, er) := (if_neg hpl).trans hq
 have hpm := quj hl hp hz
 refine qd HF rfl (wp_skip ?_)
 refine qax (fun aS wS => ∃ (A38 : Option Addr) (c38 : Nat) (g4 : Nat), Fr aS 52 [] [(6, vI er), (5, vI m), (4, vP g4 0), (26, .bool false), (15, .bool false), (3, vI 0), (2, vP g2 0), (0, vP g 0)] ∧ Mem w wS [.blk g4 (b.cells A38 c38) 27, .row (.slice A38 b.evs.length c38) b.evs.length (b.evs.flatMap evL) 41 11, .blk g2 #[vB 0, vB 0, vI 0, vI 0, .slice none 0 0] 27] ∧ (b.evs.length ≤ c38)) ?_ ?_
 ·
  refine qag HM [.blk g2 #[vB 0, vB 0, vI 0, vI 0, .slice none 0 0] 27] [0] [15] fun HM HS => ?_
  refine ap HF (fun _ => HS) [0, 4] #[true, false, false, false, true, false, false, false, false, false, false, false, false, false, false, false, false, false] [(33, vP g 0), (29, vP g 0)] fun a HF => ?_
  refine ay HF HS 1 rfl rfl rfl (v := vP g 0) (Yl.nilCheck rfl rfl) fun a HF => ?_
  refine ap HF (fun _ => HS) [2] #[true, true, true, false, true, false, false, false, false, false, false, false, false, false, false, false, false, false] [(31, vP g 2)] fun a HF => ?_
  refine ay HF HS 3 rfl rfl rfl (v := .slice A l.length c) (Yl.qh rfl rfl (by kernel_rfl) (fun _ h => h.zn hg rfl)) fun a HF => ?_
  refine ay HF HS 5 rfl rfl rfl (v := vP g 0) (Yl.nilCheck rfl rfl) fun a HF => ?_
  refine ap HF (fun _ => HS) [6] #[true, true, true, true, true, true, true, false, false, false, false, false, false, false, false, false, false, false] [(35, vP g 1)] fun a HF => ?_
  refine ay HF HS 7 rfl rfl rfl (v := vI p) (Yl.qh rfl rfl (by kernel_rfl) (fun _ h => h.zn hg rfl)) fun a HF => ?_
  refine ay HF HS 8 rfl rfl rfl (v := .slice (if c = p then A else A.map (·.add (p * 1))) (l.length - p) (c - p)) (Yl.sliceFrom ei_u8 (j := p) rfl rfl rfl (by omega)) fun a HF => ?_
  refine qj [9, 14] (by kernel_rfl) rfl ?_
  refine all_cons ?_ ?_
  ·refine qo HF (i := 9) rfl rfl ?_
   refine e_cl HF [.slice (if c = p then A else A.map (·.add (p * 1))) (l.length - p) (c - p)] rfl rfl (qky (if c = p then A else A.map (·.add (p * 1))) (l.length - p) (c - p) (l.drop p) B _ (hL.mem HM hB) (HM.le hB) (HM.old (hrA.qqd hp hc)) (by omega) (by rw [List.length_drop]) (by omega) (qbm hl p) hq) ?_
   rintro _ w38 ⟨⟨A38, c38, rfl, ho, hc38⟩, hbw⟩
   refine ⟨_, rfl, ?_⟩
   replace HM := HM.callRow hbw ho
   clear HF; intro a HF
   refine keepS (HM.picks [1] (by decide) rfl) (fun HS => ?_)
   refine ap HF (fun _ => HS) [10, 11, 12, 13] #[true, true, true, true, true, true, true, true, true, true, true, true, true, true, false, false, false, false] [(41, vI er), (40, vI m), (39, .agg (b.cells A38 c38))] fun a HF => ?_
   refine qj [14] (by kernel_rfl) rfl ?_
   refine all_cons ?_ all_nil
   refine qo HF (i := 14) rfl rfl ?_
   refine qt HF HM (cs := #[vB 0, vB 0, vI 0, vI 0, .slice none 0 0]) rfl (by kernel_rfl) rfl (by decide) ?_
   clear HF HM; intro a w4 g4 HF HM
   refine keepS (HM.picks [2] (by decide) rfl) (fun HS => ?_)
   refine qj [15] (by kernel_rfl) rfl ?_
   refine all_cons ?_ all_nil
   refine qo HF (i := 15) rfl rfl ?_
   refine e_sa HF HM 0 rfl rfl rfl rfl rfl si_bk rfl rfl (qbk _ _ _) ?_
   clear HM; intro w5_15 HM
   refine noS (by kernel_rfl) ?_
   refine ap HF (pastS (by kernel_rfl)) [16, 17] #[true, true, true, true, true, true, true, true, true, true, true, true, true, true, true, true, true, true] [(6, vI er), (5, vI m)] fun a HF => ?_
   refine qn (by kernel_rfl) ?_
   exact ⟨A38, c38, g4, HF.sub (by kernel_rfl), HM.picks [0, 1, 2] (by decide) rfl, hc38⟩
  refine all_cons ?_ all_nil
  refine qo HF (i := 14) rfl rfl ?_
  refine qt HF HM (cs := #[vB 0, vB 0, vI 0, vI 0, .slice none 0 0]) rfl (by kernel_rfl) rfl (by decide) ?_
  clear HF HM; intro a w4 g4 HF HM
  refine keepS (HM.picks [1] (by decide) rfl) (fun HS => ?_)
  refine qj [9] (by kernel_rfl) rfl ?_
  refine all_cons ?_ all_nil
  refine qo HF (i := 9) rfl rfl ?_
  refine e_cl HF [.slice (if c = p then A else A.map (·.add (p * 1))) (l.length - p) (c - p)] rfl rfl (qky (if c = p then A else A.map (·.add (p * 1))) (l.length - p) (c - p) (l.drop p) B _ (hL.mem HM hB) (HM.le hB) (HM.old (hrA.qqd hp hc)) (by omega) (by rw [List.length_drop]) (by omega) (qbm hl p) hq) ?_
  rintro _ w38 ⟨⟨A38, c38, rfl, ho, hc38⟩, hbw⟩
  refine ⟨_, rfl, ?_⟩
  replace HM := HM.callRow hbw ho
  clear HF; intro a HF
  refine keepS (HM.picks [2] (by decide) rfl) (fun HS => ?_)
  refine ap HF (fun _ => HS) [10, 11, 12, 13] #[true, true, true, true, true, true, true, true, true, true, true, true, true, true, true, false, false, false] [(41, vI er), (40, vI m), (39, .agg (b.cells A38 c38))] fun a HF => ?_
  refine qj [15] (by kernel_rfl) rfl ?_
  refine all_cons ?_ all_nil
  refine qo HF (i := 15) rfl rfl ?_
  refine e_sa HF HM 1 rfl rfl rfl rfl rfl si_bk rfl rfl (qbk _ _ _) ?_
  clear HM; intro w5_15 HM
  refine noS (by kernel_rfl) ?_
  refine ap HF (pastS (by kernel_rfl)) [16, 17] #[true, true, true, true, true, true, true, true, true, true, true, true, true, true, true, true, true, true] [(6, vI er), (5, vI m)] fun a HF => ?_
  refine qn (by kernel_rfl) ?_
  exact ⟨A38, c38, g4, HF.sub (by kernel_rfl), HM.picks [1, 0, 2] (by decide) rfl, hc38⟩
 clear HF HM; rintro a w5 ⟨A38, c38, g4, HF, HM, hc38⟩
 skip
 ·
  replace HM : Mem W _ (.blk g4 (b.cells A38 c38) 27 :: .row (.slice A38 b.evs.length c38) b.evs.length (b.evs.flatMap evL) 41 11 :: .blk g2 #[vB 0, vB 0, vI 0, vI 0, .slice none 0 0] 27 :: .blk g #[.bool true, vI p, .slice A l.length c] 96 :: .row (.slice A l.length c) l.length (l.map B8) 5 1 :: fs) := HW.join HM
  refine wp_seq (qa ?_)
  refine fp HF 1 0 [(42, vP g 0)] fun a HF => ?_
  refine fy HF HM 1 rfl rfl rfl (v := vP g 0) (Yl.nilCheck rfl rfl) fun a HF => ?_
  refine fp HF 1 2 [(44, vP g 1)] fun a HF => ?_
  refine fy HF HM 3 rfl rfl rfl (Yl.qh rfl rfl (by kernel_rfl) (fun _ h => h.cell (i := 3) rfl rfl)) fun a HF => ?_
  refine fp HF 2 4 [(47, vI (IntKind.i64.wrap ((p : Int) + (m : Int))))] fun a HF => ?_
  replace HF := HF.sp 47 (vI (p + m : Nat)) rfl (qi (by omega) (by omega))
  refine fy HF HM 6 rfl rfl rfl (v := vP g 0) (Yl.nilCheck rfl rfl) fun a HF => ?_
  refine fp HF 1 7 [(49, vP g 1)] fun a HF => ?_
  refine fo HF 8 rfl rfl ?_
  refine zd HF HM (i := 3) rfl rfl rfl rfl (by kernel_rfl) rfl rfl (by simp) ?_
  clear HM; intro w6_8 HM
  refine qb rfl (wp_seq (qa ?_))
  refine fy HF HM 0 rfl rfl rfl (v := .agg (b.cells A38 c38)) (Yl.zc rfl rfl si_bk rfl (fun _ h => qf (h.blk (i := 0) rfl))) fun a HF => ?_
  refine fp HF 1 1 [(51, vI er)] fun a HF => ?_
  refine fo HF 2 rfl rfl ?_
  refine e_sa HF HM 2 rfl rfl rfl rfl rfl si_bk rfl rfl (qbk _ _ _) ?_
  clear HM; intro w7_2 HM
  refine fp HF 1 3 [(3, vI er)] fun a HF => ?_
  refine qb rfl (wp_ret ?_)
  exact ret2 rfl HF (.cellS (i := 2) HF HM rfl rfl si_bk rfl) (.tmp HF rfl) (qmv hz rfl hc38 (HM.picksT 5 [1, 3, 4] (by decide) (by decide) rfl))
theorem qqa (lim : Int) (w : World) (h : 1 ≤ lim ∧ lim ≤ 4096) : Calls Tryz.prog 16 #[.int .i64 lim] w fun r w' => ∃ g, r = .returned (.tuple #[.pointer (some ⟨g, 0, none⟩), .int .i64 0]) ∧ Mem w w' [.blk g #[.int .i64 lim, .slice none 0 0] 93] :=
 (qnf lim (by unfold I64; omega) w).mono fun r w' h1 => by
  rcases h1 with ⟨h2, _⟩ | ⟨_, h2⟩
  ·omega
  ·exact h2
theorem qlb (W w : World) (g : Nat) (lim : Int) (A : Option Addr) (c : Nat) (out : List Nat) (fs : List Fact) (HW : Mem W w (.blk g #[.int .i64 lim, .slice A out.length c] 93 :: .row (.slice A out.length c) out.length (out.map B8) 5 1 :: fs)) (hc : out.length ≤ c) (hout : out.length ≤ 524288) (hlim : lim ≠ 0) (next : Int) (hnx : I64 next) (B : Nat) (hL : LaidX B w) (hBW : B ≤ W.heap.size) {o2 : List Nat} {we : Nat} (h : zk out [endB next] = (o2, we)) :
  Calls Tryz.prog 17 #[.pointer (some ⟨g, 0, none⟩), .int .i64 next] w (WrIs W 93 g lim o2 fs (.int .i64 (we : Int))) := by
 have h1 := qu5 W w g lim A c out fs HW hc hout hlim next hnx B hL hBW
 rw [h] at h1
 exact h1
theorem qw6 (W w : World) (g : Nat) (lim : Int) (A : Option Addr) (c : Nat) (out : List Nat) (fs : List Fact) (HW : Mem W w (.blk g #[.int .i64 lim, .slice A out.length c] 93 :: .row (.slice A out.length c) out.length (out.map B8) 5 1 :: fs)) (hc : out.length ≤ c) (hout : out.length ≤ 524288) (hlim : lim ≠ 0) (hlm : I64 lim) (cpu : Nat) (hcpu : cpu < 256) (A2 : Option Addr) (c2 : Nat) (l : List It) (opn : Int) (hok : ∀ x ∈ l, x.Ok) (ho : I64 opn) (B : Nat) (hL : LaidX B w) (hBW : B ≤ W.heap.size) (hr : Rd w w.heap.size 12 A2 l.length (l.flatMap itL)) (hc2 : l.length ≤ c2) (hn : l.length ≤ 999999) {o2 : List Nat} {k we : Nat} (h : putW out lim cpu l opn = (o2, k, we)) :
  Calls Tryz.prog 29 #[.pointer (some ⟨g, 0, none⟩), .int .u8 (cpu : Int), .slice A2 l.length c2, .int .i64 opn] w (WrIs W 93 g lim o2 fs (.tuple #[.int .i64 (k : Int), .int .i64 (we : Int)])) := by
 have h1 := qu4 W w g lim A c out fs HW hc hout hlim hlm cpu hcpu A2 c2 l opn hok ho B hL hBW hr hc2 hn
 rw [h] at h1
 exact h1
theorem qqb (g : Nat) (lim : Int) (A : Option Addr) (c : Nat) (out : List Nat) (w : World) (hg : w.heap[g]? = some (.cells #[.int .i64 lim, .slice A out.length c] 93 (0, 0))) (hlim : lim ≠ 0) {n : Nat} (h : out.length = n) :
  Calls Tryz.prog 18 #[.pointer (some ⟨g, 0, none⟩)] w (Is w (.int .i64 (n : Int))) := by
 have h1 := qu6 g lim A c out w hg hlim
 rw [h] at h1
 exact h1
theorem qni (W w : World) (g p : Nat) (A : Option Addr) (c : Nat) (l : List Nat) (fs : List Fact) (HW : Mem W w (.blk g #[.bool true, .int .i64 (p : Int), .slice A l.length c] 96 :: .row (.slice A l.length c) l.length (l.map B8) 5 1 :: fs)) (hp : p ≤ l.length) (hc : l.length ≤ c) (hl : ∀ b ∈ l, b < 256) (hn : l.length ≤ 100000000) (B : Nat) (hL : LaidX B w) (hBW : B ≤ W.heap.size) {b : Bk} {m er : Nat} (h : nextR l p = (b, m, er)) {p2 : Nat} (h2 : p + m = p2 := by rfl) :
  Calls Tryz.prog 22 #[.pointer (some ⟨g, 0, none⟩)] w fun r w' => ∃ A' c', r = .returned (.tuple #[.agg (b.cells A' c'), .int .i64 (er : Int)]) ∧ b.evs.length ≤ c' ∧ Mem W w' (.row (.slice A' b.evs.length c') b.evs.length (b.evs.flatMap evL) 41 11 :: .blk g #[.bool true, .int .i64 ((p2 : Nat) : Int), .slice A l.length c] 96 :: .row (.slice A l.length c) l.length (l.map B8) 5 1 :: fs) := by
 have h1 := qrn W w g p A c l fs HW hp hc hl hn B hL hBW
 subst h2
 rw [h] at h1
 exact h1
theorem qz7 (A : Option Addr) (n c : Nat) (l : List Nat) (B : Nat) (w : World) (hL : LaidX B w) (hB : B ≤ w.heap.size) (hr : Rd w w.heap.size 1 A n (l.map B8)) (hc : n ≤ c) (hl : ∀ b ∈ l, b < 256) (hln : l.length = n) (hn : n ≤ 100000000) {bs : List Bk} {p er : Nat} (h : qgx l = (bs, p, er)) :
  Calls Tryz.prog 19 #[.slice A n c] w (Is w (.tuple #[.int .i64 (bs.length : Int), .int .i64 (p : Int), .int .i64 (er : Int)])) := by
 subst hln
 have h1 := qy2 A c l B w hL hB hr hc hl hn
 rw [h] at h1
 exact h1
theorem qfy (w : World) : Calls Tryz.prog 10 #[] w fun r w' => ∃ g, r = .returned (.slice (some ⟨g, 0, none⟩) 2 2) ∧ w'.ownsRow w.heap.size 43 12 (.slice (some ⟨g, 0, none⟩) 2 2) 2 (exI.flatMap itL) ∧ Below w.heap.size w w' := by
 refine qg (vs := []) Tryz.func10 rfl rfl (by kernel_rfl) (σ0 := []) rfl ?_
 intro a HF
 have HM := Mem.start w
 refine wp_seq (qa ?_)
 refine fp HF 1 0 [(0, .slice none 0 0)] fun a HF => ?_
 refine qb rfl (wp_seq (qa ?_))
 refine fy HF HM 0 rfl rfl rfl (v := .agg #[vI 5, vI 340, vB 2, vB 5, vI 0, vI 0, vI 0, vI 0, vI 40, vQ 0, vI 7]) (Yl.build (vs := [(0, vI 5), (1, vI 340), (2, vB 2), (3, vB 5), (8, vI 40), (10, vI 7)]) rfl (by kernel_rfl) (by kernel_rfl)) fun a HF => ?_
 refine fy HF HM 1 rfl rfl rfl (v := .agg #[vI 5, vI 340, vB 2, vB 5, vI 0, vI 0, vI 0, vI 0, vI 40, vQ 0, vI 7, vI 3]) (Yl.build (vs := [(0, .agg #[vI 5, vI 340, vB 2, vB 5, vI 0, vI 0, vI 0, vI 0, vI 40, vQ 0, vI 7]), (1, vI 3)]) rfl (by kernel_rfl) (by kernel_rfl)) fun a HF => ?_
 refine fy HF HM 2 rfl rfl rfl (v := .agg #[vI 9, vI 340, vB 2, vB 6, vI 0, vI 0, vI 0, vI 0, vI 0, vQ 0, vI 0]) (Yl.build (vs := [(0, vI 9), (1, vI 340), (2, vB 2), (3, vB 6)]) rfl (by kernel_rfl) (by kernel_rfl)) fun a HF => ?_
 refine fy HF HM 3 rfl rfl rfl (v := .agg #[vI 9, vI 340, vB 2, vB 6, vI 0, vI 0, vI 0, vI 0, vI 0, vQ 0, vI 0, vI 0]) (Yl.build (vs := [(0, .agg #[vI 9, vI 340, vB 2, vB 6, vI 0, vI 0, vI 0, vI 0, vI 0, vQ 0, vI 0])]) rfl (by kernel_rfl) (by kernel_rfl)) fun a HF => ?_
 refine fo HF 4 rfl rfl ?_
 refine ze HF HM (vs := [(0, .agg #[vI 5, vI 340, vB 2, vB 5, vI 0, vI 0, vI 0, vI 0, vI 40, vQ 0, vI 7, vI 3]), (1, .agg #[vI 9, vI 340, vB 2, vB 6, vI 0, vI 0, vI 0, vI 0, vI 0, vQ 0, vI 0, vI 0])]) (cs := #[vI 5, vI 340, vB 2, vB 5, vI 0, vI 0, vI 0, vI 0, vI 40, vQ 0, vI 7, vI 3, vI 9, vI 340, vB 2, vB 6, vI 0, vI 0, vI 0, vI 0, vI 0, vQ 0, vI 0, vI 0]) rfl ei_it (by decide) rfl (by kernel_rfl) rfl (by decide) ?_
 clear HF HM; intro a w5 g5 HF HM
 refine fp HF 1 5 [(0, vS g5 2 2)] fun a HF => ?_
 refine qb rfl (wp_ret ?_)
 exact ret1 rfl HF (.tmp HF rfl) (⟨g5, rfl, (HM.blkRow (i := 0) (n := 2) (size := 12) rfl rfl (by decide)).own (i := 0) rfl, HM.below⟩)
theorem qdd (B : Nat) (w : World) (hL : LaidX B w) (hB : B ≤ w.heap.size) : Calls Tryz.prog 6 #[] w (Is w (.bool true)) := by
 refine qg (vs := []) Tryz.func6 rfl rfl (by kernel_rfl) (σ0 := []) rfl ?_
 intro a HF
 have HM := Mem.start w
 refine wp_seq (qa ?_)
 refine fp HF 1 0 [(0, .bool false)] fun a HF => ?_
 refine qb rfl (wp_seq (qa ?_))
 refine fo HF 0 rfl rfl ?_
 refine e_cl HF [] rfl rfl (qfy _) ?_
 rintro _ w20 ⟨g20, rfl, ho, hbw⟩
 refine ⟨_, rfl, ?_⟩
 replace HM := HM.callRow hbw ho
 clear HF; intro a HF
 refine fo HF 1 rfl rfl ?_
 refine e_cl HF [vB 2, vS g20 2 2, vI 2, vI 1] rfl rfl (qfx 2 (by decide) (some ⟨g20, 0, none⟩) 2 2 exI 2 1 qxv (by unfold I64; decide) (by unfold I64; decide) B _ (hL.mem HM hB) (HM.le hB) (HM.rd (i := 0) rfl) (by decide) rfl (by decide) sa1) ?_
 rintro _ w21 ⟨A21, c21, q21, rfl, hq21, hc21, hm⟩
 obtain ⟨x1, x2, rfl, hex1, hex2⟩ := map2 hq21
 refine ⟨_, rfl, ?_⟩
 replace HM := HM.callRow hm.below (hm.own (i := 0) rfl)
 clear HF; intro a HF
 refine fp HF 5 2 [(2, vI 0), (1, .slice A21 2 c21)] fun a HF => ?_
 refine qb rfl (wp_seq (qa ?_))
 refine fo HF 0 rfl rfl ?_
 refine e_cl HF [] rfl rfl (qfy _) ?_
 rintro _ w25 ⟨g25, rfl, ho, hbw⟩
 refine ⟨_, rfl, ?_⟩
 replace HM := HM.callRow hbw ho
 clear HF; intro a HF
 refine fo HF 1 rfl rfl ?_
 refine e_cl HF [vB 2, vS g25 2 2, vI 2, vI 2] rfl rfl (qfx 2 (by decide) (some ⟨g25, 0, none⟩) 2 2 exI 2 2 qxv (by unfold I64; decide) (by unfold I64; decide) B _ (hL.mem HM hB) (HM.le hB) (HM.rd (i := 0) rfl) (by decide) rfl (by decide) sa2) ?_
 rintro _ w26 ⟨A26, c26, q26, rfl, hq26, hc26, hm⟩
 obtain ⟨x3, rfl, hex3⟩ := map1 hq26
 refine ⟨_, rfl, ?_⟩
 replace HM := HM.callRow hm.below (hm.own (i := 0) rfl)
 clear HF; intro a HF
 refine fp HF 5 2 [(4, vI 0), (3, .slice A26 1 c26)] fun a HF => ?_
 refine qb rfl (wp_seq (qa ?_))
 refine fo HF 0 rfl rfl ?_
 refine e_cl HF [vB 2, .slice none 0 0, vI 0, vI 1] rfl rfl (qfx 2 (by decide) none 0 0 [] 0 1 (by intro x hx; cases hx) (by unfold I64; decide) (by unfold I64; decide) B _ (hL.mem HM hB) (HM.le hB) (Rd.nil) (by decide) rfl (by decide) sa3) ?_
 rintro _ w30 ⟨A30, c30, q30, rfl, hq30, hc30, hm⟩
 obtain rfl := List.map_eq_nil_iff.1 hq30
 refine ⟨_, rfl, ?_⟩
 replace HM := HM.callRow hm.below (hm.own (i := 0) rfl)
 clear HF; intro a HF
 refine fp HF 5 1 [(6, vI 0), (5, .slice A30 0 c30)] fun a HF => ?_
 refine qb rfl (wp_seq (qa ?_))
 refine fo HF 0 rfl rfl ?_
 refine e_cl HF [vB 2, .slice none 0 0, vI 2, vI 1] rfl rfl (qfx 2 (by decide) none 0 0 [] 2 1 (by intro x hx; cases hx) (by unfold I64; decide) (by unfold I64; decide) B _ (hL.mem HM hB) (HM.le hB) (Rd.nil) (by decide) rfl (by decide) sa4) ?_
 rintro _ w34 ⟨A34, c34, q34, rfl, hq34, hc34, hm⟩
 obtain ⟨x4, rfl, hex4⟩ := map1 hq34
 refine ⟨_, rfl, ?_⟩
 replace HM := HM.callRow hm.below (hm.own (i := 0) rfl)
 clear HF; intro a HF
 refine fp HF 5 1 [(8, vI 0), (7, .slice A34 1 c34)] fun a HF => ?_
 refine qb rfl (wp_seq (wp_seq (qa ?_)))
 refine fp HF 10 0 [(46, .slice A21 2 c21), (45, .bool false)] fun a HF => ?_
 refine fy HF HM 10 rfl rfl rfl (Yl.len rfl rfl (by kernel_rfl)) fun a HF => ?_
 refine fp HF 4 11 [(51, .slice A21 2 c21), (50, .bool false)] fun a HF => ?_
 obtain ⟨gA21, rfl⟩ := qch (HM.own (i := 4) rfl) (Nat.lt_of_le_of_lt (Nat.zero_le _) (show 0 < 2 from by decide))
 refine fy HF HM 15 rfl rfl rfl (v := vP gA21 0) (Yl.indexAddr (ad := ⟨gA21, 0, none⟩) (y := 0) (sz := 5) rfl rfl rfl (by decide) (by kernel_rfl)) fun a HF => ?_
 refine fp HF 1 16 [(53, vP gA21 2)] fun a HF => ?_
 refine fy HF HM 17 rfl rfl rfl (v := vI x1.b.lost) (Yl.qh rfl rfl (by kernel_rfl) (fun _ h => h.qe7 qcb (i := 4) rfl (k := 0) (off := 2) (x := x1) (rfl) rfl)) fun a HF => ?_
 replace HF := HF.sp 54 (vI 3) rfl (by rw [hex1])
 refine fp HF 4 18 [(58, vS gA21 2 c21), (57, .bool false)] fun a HF => ?_
 refine fy HF HM 22 rfl rfl rfl (v := vP gA21 5) (Yl.indexAddr (ad := ⟨gA21, 0, none⟩) (y := 1) (sz := 5) rfl rfl rfl (by decide) (by kernel_rfl)) fun a HF => ?_
 refine fp HF 1 23 [(60, vP gA21 7)] fun a HF => ?_
 refine fy HF HM 24 rfl rfl rfl (v := vI x2.b.lost) (Yl.qh rfl rfl (by kernel_rfl) (fun _ h => h.qe7 qcb (i := 4) rfl (k := 1) (off := 2) (x := x2) (rfl) rfl)) fun a HF => ?_
 replace HF := HF.sp 61 (vI 2) rfl (by rw [hex2])
 refine fp HF 4 25 [(65, .slice A26 1 c26), (64, .bool false)] fun a HF => ?_
 refine fy HF HM 29 rfl rfl rfl (Yl.len rfl rfl (by kernel_rfl)) fun a HF => ?_
 refine fp HF 4 30 [(70, .slice A26 1 c26), (69, .bool false)] fun a HF => ?_
 obtain ⟨gA26, rfl⟩ := qch (HM.own (i := 2) rfl) (Nat.lt_of_le_of_lt (Nat.zero_le _) (show 0 < 1 from by decide))
 refine fy HF HM 34 rfl rfl rfl (v := vP gA26 0) (Yl.indexAddr (ad := ⟨gA26, 0, none⟩) (y := 0) (sz := 5) rfl rfl rfl (by decide) (by kernel_rfl)) fun a HF => ?_
 refine fp HF 1 35 [(72, vP gA26 2)] fun a HF => ?_
 refine fy HF HM 36 rfl rfl rfl (v := vI x3.b.lost) (Yl.qh rfl rfl (by kernel_rfl) (fun _ h => h.qe7 qcb (i := 2) rfl (k := 0) (off := 2) (x := x3) (rfl) rfl)) fun a HF => ?_
 replace HF := HF.sp 73 (vI 5) rfl (by rw [hex3])
 refine fp HF 4 37 [(77, vS gA26 1 c26), (76, .bool false)] fun a HF => ?_
 refine fy HF HM 41 rfl rfl rfl (v := vP gA26 0) (Yl.indexAddr (ad := ⟨gA26, 0, none⟩) (y := 0) (sz := 5) rfl rfl rfl (by decide) (by kernel_rfl)) fun a HF => ?_
 refine fp HF 1 42 [(79, vP gA26 4)] fun a HF => ?_
 refine fy HF HM 43 rfl rfl rfl (v := .slice x3.A x3.b.evs.length x3.c) (Yl.qh rfl rfl (by kernel_rfl) (fun _ h => h.qe7 qcb (i := 2) rfl (k := 0) (off := 4) (x := x3) (rfl) rfl)) fun a HF => ?_
 replace HF := HF.sp 80 (.slice x3.A 2 x3.c) rfl (by rw [hex3]; rfl)
 refine fy HF HM 44 rfl rfl rfl (Yl.len rfl rfl (by kernel_rfl)) fun a HF => ?_
 refine fp HF 4 45 [(85, .slice A30 0 c30), (84, .bool false)] fun a HF => ?_
 refine fy HF HM 49 rfl rfl rfl (Yl.len rfl rfl (by kernel_rfl)) fun a HF => ?_
 refine fp HF 4 50 [(90, .slice A34 1 c34), (89, .bool false)] fun a HF => ?_
 refine fy HF HM 54 rfl rfl rfl (Yl.len rfl rfl (by kernel_rfl)) fun a HF => ?_
 refine fp HF 4 55 [(95, .slice A34 1 c34), (94, .bool false)] fun a HF => ?_
 obtain ⟨gA34, rfl⟩ := qch (HM.own (i := 0) rfl) (Nat.lt_of_le_of_lt (Nat.zero_le _) (show 0 < 1 from by decide))
 refine fy HF HM 59 rfl rfl rfl (v := vP gA34 0) (Yl.indexAddr (ad := ⟨gA34, 0, none⟩) (y := 0) (sz := 5) rfl rfl rfl (by decide) (by kernel_rfl)) fun a HF => ?_
 refine fp HF 1 60 [(97, vP gA34 2)] fun a HF => ?_
 refine fy HF HM 61 rfl rfl rfl (v := vI x4.b.lost) (Yl.qh rfl rfl (by kernel_rfl) (fun _ h => h.qe7 qcb (i := 0) rfl (k := 0) (off := 2) (x := x4) (rfl) rfl)) fun a HF => ?_
 replace HF := HF.sp 98 (vI 2) rfl (by rw [hex4])
 refine fp HF 2 62 [(100, .bool false)] fun a HF => ?_
 refine qb rfl ?_
 replace HF := HF.to [(100, .bool false), (0, .bool false)]
 refine qd HF rfl (wp_skip (wp_seq (qa ?_)))
 refine fo HF 0 rfl rfl ?_
 refine e_cl HF [vI 9] rfl rfl (qqa 9 _ (by decide)) ?_
 rintro _ w102 ⟨gw102, rfl, hm⟩
 refine ⟨_, rfl, ?_⟩
 replace HM := (HM.join hm).nil 5 1
 clear HF; intro a HF
 refine fp HF 5 1 [(10, vI 0), (9, vP gw102 0)] fun a HF => ?_
 refine qb rfl (wp_seq (wp_seq (qa ?_)))
 refine fp HF 4 0 [(108, vP gw102 0), (107, .bool false)] fun a HF => ?_
 refine fy HF HM 4 rfl rfl rfl (v := .bool false) (Yl.qit rfl rfl rfl) fun a HF => ?_
 refine fp HF 3 5 [(112, vP gw102 0), (111, .bool false)] fun a HF => ?_
 refine fo HF 8 rfl rfl ?_
 refine e_cl HF [vP gw102 0, vI 0] rfl rfl (qlb (o2 := []) (we := 107) _ _ gw102 9 none 0 [] _ (HM.picks [1, 0, 2, 3, 4, 5, 6, 7] (by decide) rfl) (by first | exact Nat.le_refl _ | omega | exact Nat.zero_le _) (by first | decide | omega) (by decide) 0 (by unfold I64; decide) B (hL.mem HM hB) hB sa5) ?_
 rintro _ w113 ⟨rfl, A113, c113, hc113, HM2⟩
 refine ⟨_, rfl, ?_⟩
 replace HM := HM2
 clear HF; intro a HF
 refine fp HF 4 9 [(117, vP gw102 0), (116, .bool false)] fun a HF => ?_
 refine fo HF 13 rfl rfl ?_
 refine e_cl HF [vP gw102 0, vI 7] rfl rfl (qlb (o2 := awX) (we := 0) _ _ gw102 9 A113 c113 [] _ (HM.picks [0, 1, 2, 3, 4, 5, 6, 7] (by decide) rfl) (by first | exact Nat.le_refl _ | omega | exact Nat.zero_le _) (by first | decide | omega) (by decide) 7 (by unfold I64; decide) B (hL.mem HM hB) hB sa6) ?_
 rintro _ w118 ⟨rfl, A118, c118, hc118, HM2⟩
 refine ⟨_, rfl, ?_⟩
 replace HM := HM2
 clear HF; intro a HF
 refine fp HF 4 14 [(122, vP gw102 0), (121, .bool false)] fun a HF => ?_
 refine fo HF 18 rfl rfl ?_
 refine e_cl HF [vP gw102 0] rfl rfl (qqb gw102 9 A118 c118 awX _ (HM.blk (i := 0) rfl) (by decide) rfl) ?_
 rintro _ w123 ⟨rfl, hbw⟩
 refine ⟨_, rfl, ?_⟩
 replace HM := HM.call hbw
 clear HF; intro a HF
 refine fp HF 2 19 [(125, .bool false)] fun a HF => ?_
 refine qb rfl (qd HF rfl (wp_skip (wp_seq (qa ?_))))
 refine fp HF 1 0 [(127, vP gw102 0)] fun a HF => ?_
 refine fo HF 1 rfl rfl ?_
 refine e_cl HF [vP gw102 0] rfl rfl (qe6 gw102 9 A118 c118 awX _ (HM.blk (i := 0) rfl) (HM.rd (i := 1) rfl) (by first | decide | omega) (by decide)) ?_
 rintro _ w128 ⟨⟨A128, c128, rfl, ho, hc128⟩, hbw⟩
 refine ⟨_, rfl, ?_⟩
 replace HM := HM.callRow hbw ho
 clear HF; intro a HF
 refine fo HF 2 rfl rfl ?_
 refine ze HF HM (vs := [(0, vB 1)]) (cs := #[vB 1]) rfl ei_u8 (by decide) rfl (by kernel_rfl) rfl (by decide) ?_
 clear HF HM; intro a w129 g129 HF HM
 refine fo HF 3 rfl rfl ?_
 refine qu HF HM (i := 1) rfl ei_u8 rfl rfl rfl (news := ([1].map B8)) (HM.rdBlk (i := 0) (n := 1) (size := 1) rfl rfl) (qa2 _) (by decide) (by decide) rfl (by decide) ?_
 clear HF HM; intro a w130 A130 c130 HF HM hc130
 rw [show (awX.map B8) ++ ([1].map B8) = (awX ++ [1]).map B8 from by rw [List.map_append]] at HM
 refine fo HF 4 rfl rfl ?_
 refine e_is HF HM [.slice A130 14 c130] (.tuple #[vI 1, vI 13, vI 100]) rfl rfl (qz7 A130 14 c130 (awX ++ [1]) B _ (hL.mem HM hB) (HM.le hB) (HM.rd (i := 1) rfl) hc130 qy4 rfl (by decide) sa7) fun w131 hbw HM a HF => ?_
 refine fp HF 7 5 [(13, vI 100), (12, vI 13), (11, vI 1)] fun a HF => ?_
 refine qb rfl (wp_seq (qa ?_))
 refine fp HF 1 0 [(135, vP gw102 0)] fun a HF => ?_
 refine fo HF 1 rfl rfl ?_
 refine e_cl HF [vP gw102 0] rfl rfl (qe6 gw102 9 A118 c118 awX _ (HM.blk (i := 2) rfl) (HM.rd (i := 3) rfl) (by first | decide | omega) (by decide)) ?_
 rintro _ w136 ⟨⟨A136, c136, rfl, ho, hc136⟩, hbw⟩
 refine ⟨_, rfl, ?_⟩
 replace HM := HM.callRow hbw ho
 clear HF; intro a HF
 refine fo HF 2 rfl rfl ?_
 refine e_cl HF [.slice A136 awX.length c136] rfl rfl (qrm A136 c136 awX _ (HM.rd (i := 0) rfl) (by decide)) ?_
 rintro _ w137 ⟨g137, A137, c137, rfl, hc137, hm⟩
 refine ⟨_, rfl, ?_⟩
 replace HM := HM.join hm
 clear HF; intro a HF
 refine fp HF 1 3 [(14, vP g137 0)] fun a HF => ?_
 refine qb rfl (wp_seq (qa ?_))
 refine fp HF 1 0 [(139, vP g137 0)] fun a HF => ?_
 refine fo HF 1 rfl rfl ?_
 refine e_cl HF [vP g137 0] rfl rfl (qni _ _ g137 0 A137 c137 awX _ (HM.picks [0, 1, 2, 3, 4, 5, 6, 7, 8, 9, 10, 11, 12] (by decide) rfl) (by decide) (by first | exact Nat.le_refl _ | omega | exact Nat.zero_le _) qxn (by decide) B (hL.mem HM hB) hB (sa8) (p2 := 13) (rfl)) ?_
 rintro _ w140 ⟨A140, c140, rfl, hc140, HM2⟩
 refine ⟨_, rfl, ?_⟩
 replace HM := HM2
 clear HF; intro a HF
 refine fp HF 3 2 [(142, vI 0), (141, .agg #[vB 2, vB 0, vI 0, vI 7, .slice A140 0 c140])] fun a HF => ?_
 refine fo HF 5 rfl rfl ?_
 refine qt HF HM (cs := #[vB 0, vB 0, vI 0, vI 0, .slice none 0 0]) rfl (by kernel_rfl) rfl (by decide) ?_
 clear HF HM; intro a w15 g15 HF HM
 refine fo HF 6 rfl rfl ?_
 refine e_sa HF HM 0 rfl rfl rfl rfl rfl si_bk rfl rfl (by simp [Value.oneCell']) ?_
 clear HM; intro w12_6 HM
 refine fp HF 1 7 [(16, vI 0)] fun a HF => ?_
 refine qb rfl (wp_seq (qa ?_))
 refine fp HF 1 0 [(144, vP g137 0)] fun a HF => ?_
 refine fo HF 1 rfl rfl ?_
 refine e_cl HF [vP g137 0] rfl rfl (qni _ _ g137 13 A137 c137 awX _ (HM.picks [2, 3, 0, 1, 4, 5, 6, 7, 8, 9, 10, 11, 12, 13, 14] (by decide) rfl) (by decide) (by first | exact Nat.le_refl _ | omega | exact Nat.zero_le _) qxn (by decide) B (hL.mem HM hB) hB (sa9) (p2 := 13) (rfl)) ?_
 rintro _ w145 ⟨A145, c145, rfl, hc145, HM2⟩
 refine ⟨_, rfl, ?_⟩
 replace HM := HM2
 clear HF; intro a HF
 refine fp HF 3 2 [(147, vI 6), (146, .agg #[vB 0, vB 0, vI 0, vI 0, .slice A145 0 c145])] fun a HF => ?_
 refine fo HF 5 rfl rfl ?_
 refine qt HF HM (cs := #[vB 0, vB 0, vI 0, vI 0, .slice none 0 0]) rfl (by kernel_rfl) rfl (by decide) ?_
 clear HF HM; intro a w17 g17 HF HM
 refine fo HF 6 rfl rfl ?_
 refine e_sa HF HM 0 rfl rfl rfl rfl rfl si_bk rfl rfl (by simp [Value.oneCell']) ?_
 clear HM; intro w13_6 HM
 refine fp HF 1 7 [(18, vI 6)] fun a HF => ?_
 refine qb rfl (wp_seq (qa ?_))
 refine fp HF 16 0 [(163, vP g15 3), (162, .bool true)] fun a HF => ?_
 refine fy HF HM 16 rfl rfl rfl (Yl.qh rfl rfl (by kernel_rfl) (fun _ h => h.cell (i := 4) rfl rfl)) fun a HF => ?_
 refine fp HF 8 17 [(172, vP g137 0), (171, .bool true)] fun a HF => ?_
 refine fo HF 25 rfl rfl ?_
 refine e_is HF HM [vP g137 0] (vI 13) rfl rfl (qnh g137 13 A137 c137 awX _ (HM.blk (i := 2) rfl)) fun w173 hbw HM a HF => ?_
 refine fp HF 3 26 [(0, .bool true)] fun a HF => ?_
 refine qb rfl ?_
 replace HF := HF.to [(0, .bool true), (15, vP g15 0), (14, vP g137 0), (125, .bool false), (9, vP gw102 0), (100, .bool false)]
 refine wp_ret ?_
 exact ret1 rfl HF (.tmp HF rfl) (⟨rfl, HM.below⟩)
theorem qop (b : Bs) (A : Option Addr) (n c : Nat) (l : List Ev) (hok : ∀ e ∈ l, e.Ok) (w : World) (hr : Rd w w.heap.size 11 A n (l.flatMap evL)) (hn : n ≤ 1000000000) (hn47 : n ≤ 140737488355328) (hln : l.length = n) :
    Calls Tryz.prog 65 #[.agg b.cells, .slice A n c] w (qah w (qz b l) (zo b l)) := by
 refine qg (vs := [.agg b.cells, .slice A n c]) Tryz.func65 rfl rfl (by kernel_rfl) (σ0 := [(0, .agg b.cells), (1, .slice A n c)]) rfl ?_
 intro a HF
 have HM := Mem.start w
 refine wp_seq (qa ?_)
 refine fo HF 0 rfl rfl ?_
 refine e_box HF HM (cs := b.cells) rfl rfl rfl rfl (by decide) ?_
 clear HF HM; intro a w2 g2 HF HM
 refine fp HF 2 1 [(5, vI 0), (4, .slice none 0 0)] fun a HF => ?_
 refine qb rfl (wp_seq (wp_seq (qa ?_)))
 refine fp HF 1 0 [(13, .slice A n c)] fun a HF => ?_
 refine fo HF 1 rfl rfl ?_
 refine e_cl HF [.slice A n c] rfl rfl (qfr _ _ _ l hok _ (HM.old hr) hn47 hln) ?_
 rintro _ w14 ⟨rfl, hbw⟩
 refine ⟨_, rfl, ?_⟩
 replace HM := HM.call hbw
 clear HF; intro a HF
 refine fp HF 5 2 [(7, vI ((rowR l).2))] fun a HF => ?_
 refine qb rfl (wp_seq (qa ?_))
 refine fp HF 2 0 [(18, .bool (((rowR l).2 : Int) != (0 : Int)))] fun a HF => ?_
 refine qb rfl ?_
 rcases HF.tf 18 rfl with ⟨hb18, HF⟩ | ⟨hb18, HF⟩
 ·
  have hr0 : (rowR l).2 ≠ 0 := by rw [bne_iff_ne] at hb18; omega
  refine qe HF rfl (wp_seq (qa ?_))
  refine fp HF 3 0 [(5, vI ((rowR l).2)), (4, .slice none 0 0)] fun a HF => ?_
  refine qb rfl (wp_ret ?_)
  exact ret2 rfl HF (.tmp HF rfl) (.tmp HF rfl) (qea (qm3 hr0) (hr0) HM.below)
 have hr0 : (rowR l).2 = 0 := by rw [bne_eq_false_iff_eq] at hb18; omega
 refine qd HF rfl (wp_skip (wp_seq (wp_seq (qa ?_))))
 refine fy HF HM 0 rfl rfl rfl (v := .agg b.cells) (Yl.zc rfl rfl ⟨(by kernel_rfl), (by kernel_rfl)⟩ rfl (fun _ h => qf (h.blk (i := 0) rfl))) fun a HF => ?_
 refine fo HF 1 rfl rfl ?_
 refine e_cl HF [.agg b.cells] rfl rfl (qij b _) ?_
 rintro _ w21 ⟨rfl, hbw⟩
 refine ⟨_, rfl, ?_⟩
 replace HM := HM.call hbw
 clear HF; intro a HF
 refine fp HF 1 2 [(22, .bool (!b.right))] fun a HF => ?_
 refine qb rfl ?_
 rcases HF.tf 22 rfl with ⟨hb22, HF⟩ | ⟨hb22, HF⟩
 ·
  have hrf : ¬ b.right = true := by simpa using hb22
  refine qe HF rfl (wp_seq (qa ?_))
  refine fp HF 2 0 [(5, vI 70), (4, .slice none 0 0)] fun a HF => ?_
  refine qb rfl (wp_ret ?_)
  exact ret2 rfl HF (.tmp HF rfl) (.tmp HF rfl) (qea (qk7 hr0 hrf) (by decide) HM.below)
 have hrt : b.right = true := by simpa using hb22
 refine qd HF rfl (wp_skip (wp_seq (qa ?_)))
 refine fp HF 1 0 [(8, .slice none 0 0)] fun a HF => ?_
 refine qb rfl ?_
 replace HM := HM.nil 5 1
 refine wp_seq (wp_seq (qa ?_))
 refine fp HF 1 0 [(9, vI 0)] fun a HF => ?_
 refine qb rfl (wp_block ?_)
 refine qs (fun mS aS wS => ∃ (k : Nat) (bk : Bs) (Ak : Option Addr) (ck : Nat), (k ≤ n) ∧ (WriteAt b l k bk) ∧ ((zm b l k).length ≤ ck) ∧ mS = n - k ∧ Fr aS 56 [] [(9, vI k), (8, .slice Ak ((zm b l k).length) ck), (22, .bool false), (18, .bool false), (7, vI ((rowR l).2)), (5, vI 0), (4, .slice none 0 0), (2, vP g2 0), (1, .slice A n c)] ∧ Mem w wS [.row (.slice Ak ((zm b l k).length) ck) ((zm b l k).length) ((zm b l k).map B8) 5 1, .blk g2 bk.cells 131]) (m := n - 0) ⟨0, b, none, 0, Nat.zero_le _, WriteAt.start b l, Nat.le_refl _, rfl, HF.sub (by kernel_rfl), HM.picks [0, 1] (by decide) rfl⟩ ?_
 clear HF HM; rintro mS a w_ ⟨k, bk, Ak, ck, hk, hat, hck, rfl, HF, HM⟩
 refine wp_seq (wp_seq (qa ?_))
 refine fp HF 2 0 [(24, .slice A n c), (23, vI k)] fun a HF => ?_
 refine fy HF HM 2 rfl rfl rfl (Yl.len rfl rfl (by kernel_rfl)) fun a HF => ?_
 refine fp HF 1 3 [(26, .bool (decide ((k : Int) < (n : Int))))] fun a HF => ?_
 refine qb rfl ?_
 rcases HF.tf 26 rfl with ⟨hb26, HF⟩ | ⟨hb26, HF⟩
 ·
  have hk26 : k < n := by simp at hb26; omega
  obtain ⟨e, hke⟩ : ∃ e, l[k]? = some e := ⟨_, List.getElem?_eq_getElem (by omega)⟩
  have hpl := qum bk e
  have hwl := qoi b l k
  refine qe HF rfl (wp_skip (wp_seq (wp_block (wp_seq ?_))))
  refine qag HM [.row (.slice Ak ((zm b l k).length) ck) ((zm b l k).length) ((zm b l k).map B8) 5 1, .blk g2 bk.cells 131] [0, 1] [] fun HM HS => ?_
  refine ap HF (fun _ => HS) [1, 2] #[false, true, true, false, false, false, false, false, false, false, false] [(32, vI k), (31, .slice A n c)] fun a HF => ?_
  refine ay HF HS 0 rfl rfl rfl (v := .agg bk.cells) (Yl.zc rfl rfl ⟨(by kernel_rfl), (by kernel_rfl)⟩ rfl (fun _ h => qf (h.blk (i := 1) rfl))) fun a HF => ?_
  obtain ⟨gA, oA, rfl, _⟩ := hr.qy (Nat.lt_of_le_of_lt (Nat.zero_le _) (show k < n from hk26)) (by decide)
  refine ay HF HS 3 rfl rfl rfl (v := vP gA (oA + k * 11)) (Yl.ix gA oA k 11 rfl rfl rfl (hk26)) fun a HF => ?_
  refine ay HF HS 4 rfl rfl rfl (v := .agg e.cells) (Yl.zc rfl rfl ⟨(by kernel_rfl), (by kernel_rfl)⟩ rfl (fun _ h => (h.old hr).zt zf (hke))) fun a HF => ?_
  refine qj [5] (by kernel_rfl) rfl ?_
  refine all_cons ?_ all_nil
  refine qo HF (i := 5) rfl rfl ?_
  refine e_cl HF [.agg bk.cells, .agg e.cells] rfl rfl (quz bk e (hok e (List.mem_of_getElem? hke)) _) ?_
  rintro _ w35 ⟨⟨A35, c35, rfl, ho, hc35⟩, hbw⟩
  refine ⟨_, rfl, ?_⟩
  replace HM := HM.callRow hbw ho
  clear HF; intro a HF
  refine keepS (HM.picks [1, 2] (by decide) rfl) (fun HS => ?_)
  refine ap HF (fun _ => HS) [6, 7, 8, 9, 10] #[true, true, true, true, true, true, true, true, true, true, true] [(11, vI (zb bk e)), (10, .slice A35 ((qaf bk e).length) c35)] fun a HF => ?_
  refine qn (by kernel_rfl) ?_
  refine wp_seq (wp_seq (qa ?_))
  refine fp HF 2 0 [(39, .bool ((zb bk e : Int) != (0 : Int)))] fun a HF => ?_
  refine qb rfl ?_
  rcases HF.tf 39 rfl with ⟨hb39, HF⟩ | ⟨hb39, HF⟩
  ·
   have hpe : zb bk e ≠ 0 := by rw [bne_iff_ne] at hb39; omega
   have hk00 : k = 0 := hat.bad hr0 hrt hke hpe
   have hend := hat.fail hr0 hrt hke hk00 hpe
   refine qe HF rfl (wp_seq (qa ?_))
   refine fp HF 3 0 [(5, vI (zb bk e)), (4, .slice none 0 0)] fun a HF => ?_
   refine qb rfl (wp_ret ?_)
   exact ret2 rfl HF (.tmp HF rfl) (.tmp HF rfl) (qea (hend) (hpe) HM.below)
  have hpe : zb bk e = 0 := by rw [bne_eq_false_iff_eq] at hb39; omega
  have hup := hat.up hke hpe
  have hnx := hat.next hke hpe
  refine qd HF rfl (wp_skip (wp_seq (qa ?_)))
  refine fp HF 2 0 [(42, .slice A35 ((qaf bk e).length) c35), (41, .slice Ak ((zm b l k).length) ck)] fun a HF => ?_
  refine fo HF 2 rfl rfl ?_
  refine qu HF HM (i := 1) rfl ei_u8 rfl rfl rfl (news := ((qaf bk e).map B8)) (HM.rd (i := 0) rfl) (qa2 _) (by omega) (by omega) rfl (by decide) ?_
  clear HF HM; intro a w43 A43 c43 HF HM hc43
  refine fp HF 1 3 [(8, .slice A43 (((zm b l k).length) + ((qaf bk e).length)) c43)] fun a HF => ?_
  refine qb rfl ?_
  have hnA43 : ((zm b l k).length) + ((qaf bk e).length) = (zm b l (k + 1)).length := by rw [hup]; simp
  replace HM := HM.reRow (i := 1) (ys := (zm b l (k + 1)).map B8) rfl hnA43 (by rw [hup]; simp)
  rw [hnA43] at hc43
  replace HF := HF.as (t := 8) (u := .slice A43 ((zm b l (k + 1)).length) c43) rfl (by rw [hnA43])
  replace HF := HF.as (t := 43) (u := .slice A43 ((zm b l (k + 1)).length) c43) rfl (by rw [hnA43])
  refine qag HM [.row (.slice A35 ((qaf bk e).length) c35) ((qaf bk e).length) ((qaf bk e).map B8) 5 1, .row (.slice A43 ((zm b l (k + 1)).length) c43) ((zm b l (k + 1)).length) ((zm b l (k + 1)).map B8) 5 1, .blk g2 bk.cells 131] [0, 1, 2] [11] fun HM HS => ?_
  refine ap HF (fun _ => HS) [0, 1, 5, 6] #[true, true, false, false, false, true, true, false, false, false, false, false] [(50, vI k), (49, .slice (some ⟨gA, oA, none⟩) n c), (45, vI k), (44, .slice (some ⟨gA, oA, none⟩) n c)] fun a HF => ?_
  refine ay HF HS 2 rfl rfl rfl (v := vP gA (oA + k * 11)) (Yl.ix gA oA k 11 rfl rfl rfl (hk26)) fun a HF => ?_
  refine ap HF (fun _ => HS) [3] #[true, true, true, true, false, true, true, false, false, false, false, false] [(47, vP gA (oA + k * 11))] fun a HF => ?_
  refine ay HF HS 4 rfl rfl rfl (v := vI e.seq) (Yl.qh rfl rfl (by kernel_rfl) (fun _ h => (by have := (h.old hr).partAt zf (k := k) (j := 0) (x := e) (hke) rfl; simpa using this))) fun a HF => ?_
  refine ay HF HS 7 rfl rfl rfl (v := vP gA (oA + k * 11)) (Yl.ix gA oA k 11 rfl rfl rfl (hk26)) fun a HF => ?_
  refine ap HF (fun _ => HS) [8] #[true, true, true, true, true, true, true, true, true, false, false, false] [(52, vP gA (oA + k * 11 + 1))] fun a HF => ?_
  refine ay HF HS 9 rfl rfl rfl (v := vI e.time) (Yl.qh rfl rfl (by kernel_rfl) (fun _ h => (h.old hr).partAt zf (k := k) (j := 1) (x := e) (hke) rfl)) fun a HF => ?_
  refine ay HF HS 10 rfl rfl rfl (v := .agg e.at.cells) ((Yl.build (vs := [(0, vI e.seq), (1, vI e.time)]) rfl (by kernel_rfl) (by kernel_rfl))) fun a HF => ?_
  refine qj [11] (by kernel_rfl) rfl ?_
  refine all_cons ?_ all_nil
  refine qo HF (i := 11) rfl rfl ?_
  refine e_sa HF HM 2 rfl rfl rfl rfl rfl ⟨(by kernel_rfl), (by kernel_rfl)⟩ rfl rfl (qr6 e.at) ?_
  clear HM; intro w14_11 HM
  refine noS (by kernel_rfl) ?_
  refine qn (by kernel_rfl) ?_
  refine qa ?_
  refine fp HF 2 0 [(28, vI (IntKind.i64.wrap ((k : Int) + 1)))] fun a HF => ?_
  replace HF := HF.sp 28 (vI (k + 1 : Nat)) rfl (by rw [IntWalk.i64_in _ (by omega)]; simp)
  refine fp HF 1 2 [(9, vI (k + 1 : Nat))] fun a HF => ?_
  refine qb rfl ?_
  exact ⟨_, (by omega), k + 1, e.at, A43, c43, by omega, hnx, hc43, rfl, HF.sub (by kernel_rfl), HM.picks [1, 2] (by decide) rfl⟩
 obtain rfl : n = k := by simp at hb26; omega
 refine qd HF rfl (wp_exit (wp_seq (qa ?_)))
 refine fp HF 3 0 [(5, vI 0), (4, .slice Ak ((zm b l n).length) ck)] fun a HF => ?_
 refine qb rfl (wp_ret ?_)
 exact ret2 rfl HF (.tmp HF rfl) (.tmp HF rfl) (hat.done hr0 hrt hln (HM.own (i := 0) rfl) hck HM.below)
end Go.Proofs.YtfeheccoijnbaaaGreatDoor
