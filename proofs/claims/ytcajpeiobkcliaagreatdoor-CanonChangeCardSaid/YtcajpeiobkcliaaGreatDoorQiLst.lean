/- A part of the proof. -/
import Derived.Test.YtcajpeiobkcliaaGreatDoorQiSep9
import Derived.Test.YtcajpeiobkcliaaGreatDoorQiSep13
namespace Go.Proofs.YtcajpeiobkcliaaGreatDoor
open Go.RowKit
section
variable {P:Program} {S:World→Prop} {σ:List (Nat×Value)} {o:Oper}
theorem Yl.q3s {t e:TypeId} {z:Value} {size bytes:Nat} (ei:EI P t e z size bytes) {x lo hi mx:Operand} {A:Option Addr} {m c i j q:Nat} {k k' k2:IntKind} (hop:o.op= .slice t x (some lo) (some hi) (some mx)) (hx:look σ x=some (.slice A m c)) (hl:look σ lo=some (.int k (i:Int))) (hh:look σ hi=some (.int k' (j:Int))) (hm:look σ mx=some (.int k2 (q:Int))) (hij:i≤j) (hj:j≤q) (hq:q≤c):
  Yl P S σ o (.slice (if q=i then A else A.map (·.add (i*size))) (j-i) (q-i)):=fun a n D Z w hS=>by
 obtain ⟨inf,hinf,_,hs,_⟩:=info_parts ei.hi
 have e1:(Instr.sliceAt t (.slice A m c) (some (.int k (i:Int))) (some (.int k' (j:Int))) (some (.int k2 (q:Int)))).run P w= .ok (.slice (if q=i then A else A.map (·.add (i*size))) (j-i) (q-i)) w:=by
  subst hs
  simp [Instr.sliceAt,run_underlying ei.ht,Instr.slice,Instr.sliceBounds,Instr.sliceBound,asIntOf,hij,hj,hq,sizeOf,typeInfo,hinf]
 unfold execOp
 simp only [hop,Z.eval hx,Z.eval hl,Z.eval hh,Z.eval hm,Option.map_some,Sem.run_bind,e1,Result.andThen_ok]
 rfl
end
theorem qk1 {α:Type} (f:α→List Value) (sz:Nat) (hf:∀x,(f x).length=sz):∀(l:List α) (k:Nat),(l.flatMap f).take (k*sz)=(l.take k).flatMap f
 |[],_=>by simp
 |_::_,0=>by simp
 |x::l,k+1=>by
  rw [List.flatMap_cons,List.take_succ_cons,List.flatMap_cons,List.take_append,List.take_of_length_le (by rw [hf,Nat.succ_mul];omega),hf,←qk1 f sz hf l k]
  congr 2
  rw [Nat.succ_mul];omega
theorem qk2 {α:Type} (f:α→List Value) (sz:Nat) (hf:∀x,(f x).length=sz):∀(l:List α) (k:Nat),(l.flatMap f).drop (k*sz)=(l.drop k).flatMap f
 |[],_=>by simp
 |_::_,0=>by simp
 |x::l,k+1=>by
  rw [List.flatMap_cons,List.drop_succ_cons,List.drop_append,List.drop_of_length_le (by rw [hf,Nat.succ_mul];omega),hf,←qk2 f sz hf l k,List.nil_append]
  congr 1
  rw [Nat.succ_mul];omega
theorem Rd.q3u {α:Type} {f:α→List Value} {sz:Nat} (hf:∀x,(f x).length=sz) {w:World} {B k c:Nat} {A:Option Addr} {l:List α} (h:Rd w B sz A l.length (l.flatMap f)) (hk:k≤l.length) (hc:l.length≤c):Rd w B sz (if c=k then A else A.map (·.add (k*sz))) (l.drop k).length ((l.drop k).flatMap f):=by
 have h1:=h.from hk hc
 rwa [qk2 f sz hf,←List.length_drop] at h1
theorem qeq {α:Type} {l:List α} {k:Nat} (d:α) (h:k<l.length):l.take (k+1)=l.take k++[l.getD k d]:=by
 rw [List.take_succ_eq_append_getElem h,List.getD_eq_getElem?_getD,List.getElem?_eq_getElem h]
 rfl
end Go.Proofs.YtcajpeiobkcliaaGreatDoor
