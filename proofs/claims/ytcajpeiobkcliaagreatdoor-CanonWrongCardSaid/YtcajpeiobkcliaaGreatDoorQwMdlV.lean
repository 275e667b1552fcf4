/- A part of the proof. -/
import Derived.Test.YtcajpeiobkcliaaGreatDoorQwChv
import Derived.Test.YtcajpeiobkcliaaGreatDoorQwTail
import Derived.Test.YtcajpeiobkcliaaGreatDoorQwSep14
import Derived.Laws.IdiomCopy
import Derived.Lib.Overlaps
set_option linter.all false
namespace Go.Proofs.YtcajpeiobkcliaaGreatDoor
open Go.RowKit
section
variable {P : Program} {Q : Exit → Act → World → Prop} {a : Act} {W w w' : World} {n d : Nat} {D : List Deferred} {σ : List (Nat × Value)} {o : Oper} {v : Value} {K : Act → World → Prop} {fs : List Fact}
theorem run_copy_row (w : World) (dT sT ty elem : TypeId) (i : TypeInfo) (b off dLen dCap : Nat) (ad : Addr) (sLen sCap : Nat) (cs : List Value) (hu : P.underlying dT = some (.slice elem)) (hi : P.info? elem = some i) (hn : cs.length = Nat.min sLen dLen * i.size)
  (hsrc : ∀ j v, cs[j]? = some v → w.cell? (ad.add j) = some v) (hc : w.there b off cs.length) (h1 : ∀ v ∈ cs, v.oneCell' = true) :
  (Builtin.copy_ #[dT, sT] ty #[.slice (some ⟨b, off, none⟩) dLen dCap, .slice (some ad) sLen sCap]).run P w = .ok (goInt (Nat.min sLen dLen)) (w.setCells b off cs) := by
 have hl := run_firstCells_some (P := P) w i.size (Nat.min sLen dLen) ad sLen sCap cs hn hsrc
 have hst := run_storeCells_cells (P := P) b off cs 0 w (by simpa using fun j hj => (hc j hj).1) (by simpa using fun j hj => (hc j hj).2) h1
 simp only [Nat.add_zero] at hst
 simp [Builtin.copy_, run_underlying hu, Builtin.lenOf, sizeOf, typeInfo, hi, hl, hst]
theorem qnj (Z : Fr a n D σ) (I : Mem W w fs) {x y : Operand} {t e : TypeId} {z : Value} {size bytes i g off dn dc sn sc m c : Nat} {ad : Addr} {xs : List Value} (news : List Value) (hop : o.op = .call { callee := .builtin .copy, args := #[x, y], argTypes := #[t, t] }) (ei : EI P t e z size bytes)
  (hx : look σ x = some (.slice (some ⟨g, off, none⟩) dn dc)) (hy : look σ y = some (.slice (some ad) sn sc)) (hi : fs[i]? = some (.row (.slice (some ⟨g, 0, none⟩) m c) m xs e size)) (hk : news.length = Nat.min sn dn * size) (hsrc : ∀ j v, news[j]? = some v → w.cell? (ad.add j) = some v) (h1 : ∀ v ∈ news, v.oneCell' = true) (ho : off + news.length ≤ xs.length)
  (hd : o.dst = some d) (hdn : d < n) (k : ∀ a' w', Fr a' n D ((d, .int .i64 (Nat.min sn dn : Nat)) :: σ) → Mem W w' (fs.set i (.row (.slice (some ⟨g, 0, none⟩) m c) m (putAt xs off news) e size)) → K a' w') : o.wp P a w K Q := by
 obtain ⟨ti, hti, hz, hsz, hby⟩ := info_parts ei.hi
 have hrun := run_copy_row (P := P) w t t o.type e ti g off dn dc ad sn sc news ei.ht hti (by rw [hsz]; exact hk) hsrc (qap I hi off _ ho) h1
 unfold Oper.wp execOp
 simp only [hop, resolve, invoke, builtin, Sem.run_bind, Sem.run_pure, Result.andThen_ok, List.map_toArray, List.map_cons, List.map_nil, Z.eval hx, Z.eval hy, hrun, Oper.upon_value, hd]
 exact k _ _ (Z.put hdn _) (I.rowSet hi ho)
theorem qiq (w : World) (t e ty : TypeId) (z : Value) (ht : P.underlying t = some (.slice e)) (hv : ∀ w, (zeroValue e).run P w = .ok z w) (b off n c : Nat) (hn : 0 < n) (hc : w.there b off (Builtin.zeroCells z.cells n).toList.length) (h1 : ∀ v ∈ (Builtin.zeroCells z.cells n).toList, v.oneCell' = true) :
  (Builtin.clear_ #[t] ty #[.slice (some ⟨b, off, none⟩) n c]).run P w = .ok (.tuple #[]) (w.setCells b off (Builtin.zeroCells z.cells n).toList) := by
 have hst := run_storeCells_cells (P := P) b off (Builtin.zeroCells z.cells n).toList 0 w (fun j hj => by have h := (hc j hj).1; simpa only [Nat.add_zero] using h) (fun j hj => by have h := (hc j hj).2; simpa only [Nat.add_zero] using h) h1
 simp only [Nat.add_zero] at hst
 obtain ⟨m, rfl⟩ : ∃ m, n = m + 1 := ⟨n - 1, by omega⟩
 simp [Builtin.clear_, run_underlying ht, hv, hst]
theorem qyg (Z : Fr a n D σ) (I : Mem W w fs) {x : Operand} {t e : TypeId} {z : Value} {size bytes i g off dn dc m c : Nat} {xs : List Value} (hop : o.op = .call { callee := .builtin .clear, args := #[x], argTypes := #[t] }) (ei : EI P t e z size bytes)
  (hx : look σ x = some (.slice (some ⟨g, off, none⟩) dn dc)) (hi : fs[i]? = some (.row (.slice (some ⟨g, 0, none⟩) m c) m xs e size)) (hdn0 : 0 < dn) (h1 : ∀ v ∈ (Builtin.zeroCells z.cells dn).toList, v.oneCell' = true) (ho : off + dn * size ≤ xs.length)
  (hd : o.dst = none) (k : ∀ w', Mem W w' (fs.set i (.row (.slice (some ⟨g, 0, none⟩) m c) m (putAt xs off (Builtin.zeroCells z.cells dn).toList) e size)) → K a w') : o.wp P a w K Q := by
 obtain ⟨ti, hti, hz, hsz, hby⟩ := info_parts ei.hi
 have hl : (Builtin.zeroCells z.cells dn).toList.length = dn * size := by rw [Array.length_toList, size_zeroCells, ei.hz]
 have hrun := qiq (P := P) w t e o.type z ei.ht (fun w => by simp [zeroValue, typeInfo, hti, hz]) g off dn dc hdn0 (qap I hi off _ (by rw [hl]; exact ho)) h1
 unfold Oper.wp execOp
 simp only [hop, resolve, invoke, builtin, Sem.run_bind, Sem.run_pure, Result.andThen_ok, List.map_toArray, List.map_cons, List.map_nil, Z.eval hx, hrun, Oper.upon_value, hd]
 exact k _ (I.rowSet hi (by rw [hl]; exact ho))
theorem qfo (w : World) (t tn ty e : TypeId) (i : TypeInfo) (z : Value) (k kn : IntKind) (ht : P.underlying t = some (.slice e)) (htn : P.underlying tn = some (.int kn)) (hi : P.info? e = some i) (hz : i.zero = some z)
  (b : Addr) (sLen sCap : Nat) (olds : List Value) (hlo : olds.length = sLen * i.size) (holds : ∀ j v, olds[j]? = some v → w.cell? (b.add j) = some v) (n : Nat) (h0 : 0 < n) (hs : 0 < i.size) (hg : sCap < sLen + n) (h63 : ((sLen + n : Nat) : Int) ≤ 9223372036854775807) (hfit : Builtin.nextslicecap (sLen + n) sCap * i.bytes ≤ 281474976710656) (h48 : n * i.bytes ≤ 281474976710656) :
  (Builtin.append_ #[t, tn] ty #[.slice (some b) sLen sCap, .int k n]).run P w =
   .ok (.slice (some ⟨w.heap.size, 0, none⟩) (sLen + n) (grownCap w (sLen + n) sCap e)) (w.drew.alloc (.cells (olds.toArray ++ Builtin.zeroCells z.cells n ++ Builtin.zeroCells z.cells (grownCap w (sLen + n) sCap e - (sLen + n))) e)) := by
 have hn : n ≠ 0 := by omega
 have hw : IntKind.i64.wrap (n : Int) = n := by rw [IntKind.wrap_i64]; omega
 have hnn : ¬ (sLen + n ≤ sCap) := by omega
 have h63' : ¬ (9223372036854775807 < ((sLen : Int) + (n : Int))) := by omega
 have h48' : ¬ (281474976710656 < Builtin.nextslicecap (sLen + n) sCap * i.bytes) := by omega
 have h48i : ¬ (281474976710656 < (n : Int) * (i.bytes : Int)) := by
  rw [← Int.natCast_mul]
  omega
 have hneg : ¬ ((n : Int) < 0) := by omega
 have hns : ¬ (n * i.size = 0) := Nat.mul_ne_zero hn om
 have hfo := run_firstCells_some (P := P) w.drew i.size sLen b sLen sCap olds hlo (by simpa using holds)
 simp [Builtin.append_, run_underlying ht, run_underlying htn, sizeOf, typeInfo, zeroValue, hi, hz, asInt, asIntOf, hw, hn, hnn, hneg, hns, h63', h48', h48i, Question.forced, hfo, newRow, grownCap]
theorem qhl (Z : Fr a n D σ) (I : Mem W w fs) {s x : Operand} {t tn e : TypeId} {z : Value} {size bytes m0 cap m : Nat} {ad : Addr} {xs : List Value} {kn k : IntKind} (hop : o.op = .call { callee := .builtin .append, args := #[s, x], argTypes := #[t, tn] }) (ei : EI P t e z size bytes) (htn : P.underlying tn = some (.int kn))
  (hs : look σ s = some (.slice (some ad) m0 cap)) (hx : look σ x = some (.int k (m : Int))) (hrs : xs.length = m0 * size ∧ ∀ j v, xs[j]? = some v → w.cell? (ad.add j) = some v) (hm : 0 < m) (hg : cap < m0 + m) (hb : (m0 + m) * bytes ≤ 140737488355328) (h63 : m0 + m ≤ 9223372036854775807)
  (hd : o.dst = some d) (hdn : d < n) (kk : ∀ a' w' g c', Fr a' n D ((d, .slice (some ⟨g, 0, none⟩) (m0 + m) c') :: σ) → Mem W w' (.row (.slice (some ⟨g, 0, none⟩) (m0 + m) c') (m0 + m) (xs ++ (Builtin.zeroCells z.cells m).toList) e size :: fs) → m0 + m ≤ c' → K a' w') : o.wp P a w K Q := by
 obtain ⟨i, hi, hz, hsz, hby⟩ := info_parts ei.hi
 have hr := qfo (P := P) w t tn o.type e i z k kn ei.ht htn hi hz ad m0 cap xs (by rw [hsz]; exact hrs.1) hrs.2 m hm (by rw [hsz]; exact ei.hs) hg om (by rw [hby]; exact growslice_fits hg hb) (by rw [hby]; exact Nat.le_trans (Nat.mul_le_mul_right _ (Nat.le_add_left _ _)) (Nat.le_trans hb de))
 have h1 := grownCap_ge w (m0 + m) cap e
 have h2 := grownCap_le_maxLen w (m0 + m) cap e (by unfold maxLen; omega)
 have hzl : (Builtin.zeroCells z.cells m).size = m * size := by rw [size_zeroCells, ei.hz]
 have hlen : (xs ++ (Builtin.zeroCells z.cells m).toList).length = (m0 + m) * size := by rw [List.length_append, hrs.1, Nat.add_mul]; show m0 * size + (Builtin.zeroCells z.cells m).toList.length = _; rw [Array.length_toList (xs := Builtin.zeroCells z.cells m), hzl]
 have hown : (w.drew.alloc (.cells (xs.toArray ++ Builtin.zeroCells z.cells m ++ Builtin.zeroCells z.cells (grownCap w (m0 + m) cap e - (m0 + m))) e)).ownsRow w.heap.size e size (.slice (some ⟨w.heap.size, 0, none⟩) (m0 + m) (grownCap w (m0 + m) cap e)) (m0 + m) (xs ++ (Builtin.zeroCells z.cells m).toList) := by
  refine ⟨hlen, .inr ⟨w.heap.size, _, _, rfl, Nat.le_refl _, World.alloc_heap_new w.drew _, h1, h2, ?_, ?_⟩⟩
  ·simp only [Array.size_append, List.size_toArray, size_zeroCells, ei.hz, hrs.1, ← Nat.add_mul]
   congr 1
   omega
  ·simp only [Array.toList_append, List.append_assoc]
   rw [← List.append_assoc, ← hlen]
   exact List.take_left
 unfold Oper.wp execOp
 simp only [hop, resolve, invoke, builtin, Sem.run_bind, Sem.run_pure, Result.andThen_ok, List.map_toArray, List.map_cons, List.map_nil, Z.eval hs, Z.eval hx, hr]
 rw [Oper.upon_value, hd]
 exact kk _ _ w.heap.size _ (Z.put hdn _) (I.callRow ((Below.refl _ _).drew.alloc (by simp) _) hown) h1
theorem Mem.growRow (h : Mem W w fs) {i g m m' c size : Nat} {e : TypeId} {xs : List Value} (hi : fs[i]? = some (.row (.slice (some ⟨g, 0, none⟩) m c) m xs e size)) (h1 : m ≤ m') (h2 : m' ≤ c) : ∃ ys : List Value, ys.length = (m' - m) * size ∧ Mem W w (fs.set i (.row (.slice (some ⟨g, 0, none⟩) m' c) m' (xs ++ ys) e size)) := by
 have hb := h.own hi
 obtain ⟨hl, h3⟩ := hb
 rcases h3 with ⟨h4, _⟩ | ⟨g', cap, cur, hv, hbb, hgg, hnc, hcm, hcs, ht⟩
 ·cases h4
 ·injection hv with hv hv2 hv3
  injection hv with hv
  injection hv with hv
  subst hv; subst hv3
  have e1 : m' * size = m * size + (m' - m) * size := by rw [← Nat.add_mul]; congr 1; omega
  have e2 : m' * size ≤ cur.toList.length := by rw [Array.length_toList, hcs]; exact Nat.mul_le_mul_right _ h2
  refine ⟨(cur.toList.drop (m * size)).take ((m' - m) * size), by rw [List.length_take, List.length_drop]; omega, ?_⟩
  have e3 : xs ++ (cur.toList.drop (m * size)).take ((m' - m) * size) = cur.toList.take (m' * size) := by rw [← ht, e1, List.take_add]
  rw [e3]
  refine h.turn hi h.below (fun _ _ _ => rfl) ⟨by rw [List.length_take]; omega, .inr ⟨g, c, cur, rfl, hbb, hgg, h2, hcm, hcs, rfl⟩⟩ (fun g' hg' => .inl hg')
theorem Mem.cutR (h : Mem W w fs) {i g m m' c size : Nat} {e : TypeId} {xs ys : List Value} (hi : fs[i]? = some (.row (.slice (some ⟨g, 0, none⟩) m c) m xs e size)) (h1 : m' ≤ m) (hy : xs.take (m' * size) = ys) : Mem W w (fs.set i (.row (.slice (some ⟨g, 0, none⟩) m' c) m' ys e size)) := by
 subst hy
 have h2 := h.shrink hi h1 (fun e => by cases e)
 exact h2
theorem qlx (Z : Fr a n D σ) (I : Mem W w fs) {s x : Operand} {t e : TypeId} {z : Value} {size bytes i m0 m c c0 g : Nat} {ad : Addr} {xs news : List Value} (hop : o.op = .call { callee := .builtin .append, args := #[s, x], argTypes := #[t, t] }) (ei : EI P t e z size bytes)
  (hs : look σ s = some (.slice (some ⟨g, 0, none⟩) m0 c0)) (hx : look σ x = some (.slice (some ad) m c)) (hi : fs[i]? = some (.row (.slice (some ⟨g, 0, none⟩) m0 c0) m0 xs e size)) (hl : news.length = m * size) (hcells : ∀ j v, news[j]? = some v → w.cell? (ad.add j) = some v) (hfit : m0 + m ≤ c0) (h1 : ∀ u ∈ news, u.oneCell' = true)
  (hd : o.dst = some d) (hdn : d < n) (k : ∀ a' w', Fr a' n D ((d, .slice (some ⟨g, 0, none⟩) (m0 + m) c0) :: σ) → Mem W w' (fs.set i (.row (.slice (some ⟨g, 0, none⟩) (m0 + m) c0) (m0 + m) (xs ++ news) e size)) → K a' w') : o.wp P a w K Q := by
 obtain ⟨ti, hti, hz, hsz, hby⟩ := info_parts ei.hi
 have hown := I.own hi
 obtain ⟨hlen, h2⟩ := hown
 rcases h2 with ⟨h3, _⟩ | ⟨g', cap, cur, hv, hbb, hgg, hnc, hcm, hcs, ht⟩
 ·cases h3
 ·injection hv with hv hv2 hv3
  injection hv with hv
  injection hv with hv
  subst hv; subst hv3
  have hnl : news.length = m * ti.size := by rw [hsz]; exact hl
  obtain ⟨ys, hys, HM2⟩ := I.growRow hi (Nat.le_add_right m0 m) hfit
  have hlx : xs.length = m0 * size := hlen
  have HM3 := HM2.rowSet (off := m0 * size) (vs := news) (List.getElem?_set_self (List.getElem?_eq_some_iff.1 hi).1) (by rw [List.length_append, hys, hlx, hl]; rw [Nat.add_sub_cancel_left]; exact Nat.le_refl _)
  have hth := qap HM2 (List.getElem?_set_self (List.getElem?_eq_some_iff.1 hi).1) (m0 * size) news.length (by rw [List.length_append, hys, hlx, hl]; rw [Nat.add_sub_cancel_left]; exact Nat.le_refl _)
  have hf := run_firstCells_some (P := P) w ti.size m ad m c news hnl hcells
  have hst := run_storeCells_cells (P := P) g (m0 * ti.size) news 0 w (fun j hj => by rw [hsz]; have h := (hth j hj).1; simpa only [Nat.add_zero] using h) (fun j hj => by rw [hsz]; have h := (hth j hj).2; simpa only [Nat.add_zero] using h) h1
  simp only [Nat.add_zero] at hst
  have hrun : (Builtin.append_ #[t, t] o.type #[.slice (some ⟨g, 0, none⟩) m0 c0, .slice (some ad) m c]).run P w = .ok (.slice (some ⟨g, 0, none⟩) (m0 + m) c0) (w.setCells g (m0 * ti.size) news) := by
   simp [Builtin.append_, run_underlying ei.ht, sizeOf, typeInfo, hti, Builtin.lenOf, hfit, hf, Addr.add_mid, hst]
  rw [List.set_set] at HM3
  have e2 : putAt (xs ++ ys) (m0 * size) news = xs ++ news := by
   unfold putAt
   rw [← hlx, List.take_left, List.drop_of_length_le (by rw [List.length_append, hys, hl, Nat.add_sub_cancel_left]; exact Nat.le_refl _), List.append_nil]
  rw [e2] at HM3
  rw [hsz] at hrun
  unfold Oper.wp execOp
  simp only [hop, resolve, invoke, builtin, Sem.run_bind, Sem.run_pure, Result.andThen_ok, List.map_toArray, List.map_cons, List.map_nil, Z.eval hs, Z.eval hx, hrun, Oper.upon_value, hd]
  exact k _ _ (Z.put hdn _) HM3
theorem qu4 (Z : Fr a n D σ) (I : Mem W w fs) {f : FuncId} {xs : Array Operand} {ts : Array TypeId} {vs : List Value} (hop : o.op = .call { callee := .value (.func f), args := xs, argTypes := ts }) (hv : looks σ xs.toList = some vs) (hrun : (callFunc f vs.toArray).run P w = .ok (.value v) w) (hd : o.dst = some d) (hdn : d < n)
  (k : ∀ a', Fr a' n D ((d, v) :: σ) → K a' w) : o.wp P a w K Q := by
 have e1 : xs.map a.eval = vs.toArray := by
  have := qba Z hv
  rw [← this, ← Array.toList_map, Array.toArray_toList]
 unfold Oper.wp execOp
 simp only [hop, resolve, Act.eval, Deferred.ofValue, invoke, Sem.run_bind, Sem.run_pure, Result.andThen_ok]
 have e3 : #[] ++ Array.map a.eval xs ++ #[] = vs.toArray := by simp [e1]
 show Oper.upon P o a K Q (((callFunc f (#[] ++ Array.map a.eval xs ++ #[])).run P w))
 rw [e3, hrun, Oper.upon_value, hd]
 exact k _ (Z.put hdn _)
theorem qj5 (I : Mem W w fs) {i j gv g off lb cb m c : Nat} {cs : Array Value} {xs : List Value} {t e r tv : TypeId} {size : Nat} {z : Value} {bytes : Nat} (ei : EI P t e z size bytes) (hv : fs[i]? = some (.blk gv cs tv)) (hi : fs[j]? = some (.row (.slice (some ⟨g, 0, none⟩) m c) m xs e size)) (hij : i ≠ j) (hm : 0 < c) (ln lc : Nat) :
  (Extern.SlicesOverlaps.overlaps #[t, t] #[r] #[.slice (some ⟨gv, 0, none⟩) ln lc, .slice (some ⟨g, off, none⟩) lb cb]).run P w = .ok (.bool false) w := by
 obtain ⟨ti, hti, hz, hsz, hby⟩ := info_parts ei.hi
 have hb := I.blk hv
 obtain ⟨hl, h3⟩ := I.own hi
 rcases h3 with ⟨h4, _⟩ | ⟨g', cap, cur, hvv, hbb, hgg, hnc, hcm, hcs, ht⟩
 ·cases h4
 ·injection hvv with hv1 hv2 hv3
  injection hv1 with hv1
  injection hv1 with hv1
  subst hv1; subst hv3
  have hne : gv ≠ g := by
   intro e
   subst e
   obtain ⟨hil, hie⟩ := List.getElem?_eq_some_iff.1 hv
   obtain ⟨hjl, hje⟩ := List.getElem?_eq_some_iff.1 hi
   rcases Nat.lt_or_gt_of_ne hij with h5 | h5
   ·have := List.pairwise_iff_getElem.1 I.apart i j hil hjl h5
    rw [hie, hje] at this
    exact this gv rfl rfl
   ·have := List.pairwise_iff_getElem.1 I.apart j i hjl hil h5
    rw [hie, hje] at this
    exact this gv rfl rfl
  have hpos := ei.hs
  exact Lib.run_overlaps_apart w t r e ei.ht size (fun w => by simp [sizeOf, typeInfo, hti, hsz]) ⟨gv, 0, none⟩ ⟨g, off, none⟩ ln lc lb cb hne tv e cs.size cur.size (by simp [World.shape?, hb]) (by simp [World.shape?, hgg]) (by rw [hcs]; exact Nat.mul_ne_zero om om) (by simp [World.frozen?, hb]) (by simp [World.frozen?, hb])
end
theorem qed {a b c : List Value} : putAt (a ++ b) a.length c = a ++ c ++ b.drop c.length := by
 unfold putAt
 rw [List.take_left, ← List.drop_drop, List.drop_left]
theorem qo7 {a b c : List Value} {k : Nat} : putAt (a ++ b) (a.length + k) c = a ++ putAt b k c := by
 unfold putAt
 rw [List.take_append, List.take_of_length_le (Nat.le_add_right _ _), Nat.add_sub_cancel_left, show a.length + k + c.length = a.length + (k + c.length) by omega, List.drop_append, List.drop_of_length_le (Nat.le_add_right _ _), List.nil_append, Nat.add_sub_cancel_left]
 simp only [List.append_assoc]
end Go.Proofs.YtcajpeiobkcliaaGreatDoor
