/- A part of the proof. -/
import Derived.Test.YtekiimhdnigmcaaGreatDoorQtSep6
namespace Go.Proofs.YtekiimhdnigmcaaGreatDoor
open Go.RowKit
section
variable {w:World} {B size n:Nat} {A:Option Addr} {xs:List Value} {g o:Nat}
theorem Rd.qd (h:Rd w B size A n xs) (hn:0<n) (hs:0<size):∃g o,A=some ⟨g,o,none⟩∧g<B:=by
 obtain ⟨ad,rfl,hb,hc⟩:=h.row hn
 have hl:=h.len
 have h1:n*size≥1*1:=Nat.mul_le_mul hn hs
 have hsp:=qoi (hc 0 _ (List.getElem?_eq_getElem om))
 have hs':ad.spot=none:=by simpa [Addr.add] using hsp
 obtain ⟨g,o,sp⟩:=ad
 cases hs'
 exact ⟨g,o,rfl,hb⟩
theorem Rd.range (h:Rd w B size (some ⟨g,o,none⟩) n xs):w.rangeAt g o xs:=fun j u hu=>by
 have hj:=(List.getElem?_eq_some_iff.1 hu).1
 rcases Nat.eq_zero_or_pos n with rfl|hn
 ·have:=h.len;omega
 ·obtain ⟨ad,e,hb,hc⟩:=h.row hn
  injection e with e
  subst e
  have:=hc j u hu
  rwa [Addr.add_mid] at this
theorem Rd.SC (h:Rd w B 1 (some ⟨g,o,none⟩) n xs) {k:Nat} {u:Value} (hu:xs[k]?=some u):w.cell? ⟨g,o+k*1,none⟩=some u:=by rw [Nat.mul_one];exact h.range k u hu
theorem Rd.qm {α:Type} {f:α→List Value} (hf:∀x,(f x).length=size) {l:List α} (h:Rd w B size (some ⟨g,o,none⟩) n (l.flatMap f)) {k:Nat} {x:α} (hk:l[k]?=some x):w.rangeAt g (o+k*size) (f x):=fun j u hu=>by
 obtain ⟨hl,he⟩:=List.getElem?_eq_some_iff.1 hk
 have hj:j<size:=by have:=(List.getElem?_eq_some_iff.1 hu).1;rwa [hf] at this
 have h1:=h.range (k*size+j) u ((GV f size hf l k j hl hj).trans (by rw [he];exact hu))
 rw [←Nat.add_assoc] at h1
 exact h1
theorem Rd.partAt {α:Type} {f:α→List Value} (hf:∀x,(f x).length=size) {l:List α} (h:Rd w B size (some ⟨g,o,none⟩) n (l.flatMap f)) {k j:Nat} {x:α} {u:Value} (hk:l[k]?=some x) (hu:(f x)[j]?=some u):w.cell? ⟨g,o+k*size+j,none⟩=some u:=h.qm hf hk j u hu
end
section
variable {W w:World} {fs:List Fact}
theorem Mem.q9y (h:Mem W w fs) {i g m c:Nat} {e:TypeId} {xs:List Value} (hi:fs[i]?=some (.row (.slice (some ⟨g,0,none⟩) m c) m xs e 1)) {k:Nat} {u:Value} (hu:xs[k]?=some u):w.cell? ⟨g,k*1,none⟩=some u:=by
 have h1:=h.zfc hi k u hu
 rwa [Nat.zero_add,←Nat.mul_one k] at h1
theorem Mem.aI (h:Mem W w fs) {i n n':Nat} {A:Option Addr} {c size:Nat} {e:TypeId} {xs ys:List Value} (hi:fs[i]?=some (.row (.slice A n c) n xs e size)) (hn:n=n') (hx:xs=ys):Mem W w (fs.set i (.row (.slice A n' c) n' ys e size)):=by grind [List.getElem?_eq_some_iff,List.set_getElem_self]
end
theorem E5 {α:Type} {F:α→Value} {l:List α} {k:Nat} {x:α} (h:l[k]?=some x):(l.map F)[k]?=some (F x):=by rw [List.getElem?_map,h];rfl
section
variable {P:Program} {Q:Exit→Act→World→Prop} {a:Act} {W w:World} {n d:Nat} {D:List Deferred} {σ:List (Nat×Value)} {o:Oper} {K:Act→World→Prop} {fs:List Fact}
theorem q98 (Z:Fr a n D σ) (E:Mem W w fs) {t e:Nat} {l c:Operand} {z:Value} {size bytes m:Nat} {kl kc:IntKind} (hop:o.op= .makeSlice t l c) (ei:EI P t e z size bytes) (hl:look σ l=some (.int kl 0)) (hc:look σ c=some (.int kc (m:Int))) (hb:bytes*m≤281474976710656) (h63:m≤9223372036854775807) (hd:o.dst=some d) (hdn:d<n)
  (k:∀a' w' g,Fr a' n D ((d,.slice (some ⟨g,0,none⟩) 0 m)::σ)→Mem W w' (.row (.slice (some ⟨g,0,none⟩) 0 m) 0 [] e size::fs)→K a' w'):o.wp P a w K Q:=by
 obtain ⟨i,hi,hz,hsz,hby⟩:=info_parts ei.hi
 obtain ⟨w',hrun,hown,hgr⟩:=run_make_own (P:=P) w w.heap.size t e i z size ei.ht hi hz hsz kl kc m (by rw [hby];exact hb) h63 (Nat.le_refl _)
 have e1:(execOp a.eval o).run P w= .ok (.value (.slice (some ⟨w.heap.size,0,none⟩) 0 m)) w':=by
  unfold execOp
  simp only [hop,Z.eval hl,Z.eval hc,Sem.run_bind]
  rw [hrun]
  rfl
 unfold Oper.wp
 rw [e1,Oper.upon_value,hd]
 exact k _ _ _ (Z.put hdn _) (E.bq ((Below.refl _ _).grown hgr (Nat.le_refl _) (fun _ h=>by cases h)) hown)
theorem q99 (Z:Fr a n D σ) (E:Mem W w fs) {t e:Nat} {l c:Operand} {z:Value} {size bytes m:Nat} {kl kc:IntKind} (hop:o.op= .makeSlice t l c) (ei:EI P t e z size bytes) (hl:look σ l=some (.int kl (m:Int))) (hc:look σ c=some (.int kc (m:Int))) (hb:bytes*m≤281474976710656) (h63:m≤9223372036854775807) (hd:o.dst=some d) (hdn:d<n)
  (k:∀a' w' g,Fr a' n D ((d,.slice (some ⟨g,0,none⟩) m m)::σ)→Mem W w' (.row (.slice (some ⟨g,0,none⟩) m m) m (madeCells z.cells (m*size)).toList e size::fs)→K a' w'):o.wp P a w K Q:=by
 obtain ⟨i,hi,hz,hsz,hby⟩:=info_parts ei.hi
 obtain ⟨w',hrun,hown,hgr⟩:=run_make_full (P:=P) w w.heap.size t e i z size ei.ht hi hz hsz kl kc m (by rw [hby];exact hb) h63 (Nat.le_refl _)
 have e1:(execOp a.eval o).run P w= .ok (.value (.slice (some ⟨w.heap.size,0,none⟩) m m)) w':=by
  unfold execOp
  simp only [hop,Z.eval hl,Z.eval hc,Sem.run_bind]
  rw [hrun]
  rfl
 unfold Oper.wp
 rw [e1,Oper.upon_value,hd]
 exact k _ _ _ (Z.put hdn _) (E.bq ((Below.refl _ _).grown hgr (Nat.le_refl _) (fun _ h=>by cases h)) hown)
end
theorem Rd.pre {w:World} {B n m:Nat} {A:Option Addr} {l r:List Nat} (h:Rd w B 1 A m ((l++r).map B8)) (hl:l.length=n) (hm:n≤m):Rd w B 1 A n (l.map B8):=by
 have h1:=h.upto hm
 rwa [Nat.mul_one,List.map_append,List.take_append_of_le_length (by simp [hl]),List.take_of_length_le (by simp [hl])] at h1
end Go.Proofs.YtekiimhdnigmcaaGreatDoor
