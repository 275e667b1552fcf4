/- A part of the proof. -/
import Derived.Test.YtcajpeiobkcliaaGreatDoorQiSep12
import Derived.Test.YtcajpeiobkcliaaGreatDoorQiSepU
namespace Go.Proofs.YtcajpeiobkcliaaGreatDoor
open Go.RowKit
section
variable {P:Program} {S:World→Prop} {σ:List (Nat×Value)} {o:Oper} {v:Value}
theorem Yl.q3p {t:TypeId} {x:Operand} {m:Nat} (hop:o.op= .unOp .xor t x) (hx:look σ x=some (.int .u32 (m:Int))) (hm:m<4294967296):Yl P S σ o (.int .u32 ((m^^^4294967295:Nat):Int)):=fun a n D Z w hS=>by
 have h1:=qi7 (m:=4294967295) (n:=m) de hm
 rw [Nat.xor_comm] at h1
 unfold execOp
 simp only [hop,Z.eval hx,Op.unary]
 rw [←h1]
 rfl
def qsh (P:Program) (t:TypeId):Option (Nat×Nat):=match P.underlying t with
 |some (.array n e)=>(P.info? e).map fun i=>(n,i.size)
 |_=>none
theorem Yl.z8 {t:TypeId} {x ix:Operand} {ad:Addr} {m y sz:Nat} {k:IntKind} (hop:o.op= .indexAddr t x ix) (hx:look σ x=some (.pointer (some ad))) (hi:look σ ix=some (.int k (y:Int))) (he:qsh P t=some (m,sz)) (hy:y<m):Yl P S σ o (.pointer (some (ad.add (y*sz)))):=fun a n D Z w hS=>by
 unfold qsh at he
 split at he
 ·rename_i m' e hu
  obtain ⟨i,hi',he⟩:=Option.map_eq_some_iff.1 he
  injection he with h1 h2
  subst h1;subst h2
  unfold execOp
  simp [hop,Z.eval hx,Z.eval hi,Instr.indexAt,asIntOf,run_underlying hu,hy,sizeOf,typeInfo,hi',Instr.sureAddr]
 ·cases he
theorem Yl.qv3 {t e:TypeId} {z:Value} {size bytes:Nat} (ei:EI P t e z size bytes) {x lo hi:Operand} {A:Option Addr} {m c i j:Nat} {k k':IntKind} (hop:o.op= .slice t x (some lo) (some hi) none) (hx:look σ x=some (.slice A m c)) (hl:look σ lo=some (.int k (i:Int))) (hh:look σ hi=some (.int k' (j:Int))) (hij:i≤j) (hj:j≤c):
  Yl P S σ o (.slice (if c=i then A else A.map (·.add (i*size))) (j-i) (c-i)):=fun a n D Z w hS=>by
 obtain ⟨inf,hinf,_,hs,_⟩:=info_parts ei.hi
 have hi':i≤c:=Nat.le_trans hij hj
 have e1:(Instr.sliceAt t (.slice A m c) (some (.int k (i:Int))) (some (.int k' (j:Int))) none).run P w= .ok (.slice (if c=i then A else A.map (·.add (i*size))) (j-i) (c-i)) w:=by
  subst hs
  simp [Instr.sliceAt,run_underlying ei.ht,Instr.slice,Instr.sliceBounds,Instr.sliceBound,asIntOf,hij,hj,sizeOf,typeInfo,hinf]
 unfold execOp
 simp only [hop,Z.eval hx,Z.eval hl,Z.eval hh,Option.map_some,Option.map_none,Sem.run_bind,e1,Result.andThen_ok]
 rfl
end
theorem Rd.mid {w:World} {B size n c i j:Nat} {A:Option Addr} {xs:List Value} (h:Rd w B size A n xs) (hij:i≤j) (hj:j≤n) (hc:n≤c):
  Rd w B size (if c=i then A else A.map (·.add (i*size))) (j-i) ((xs.take (j*size)).drop (i*size)):=by
 have h1:=h.from (k:=i) (cap:=c) om hc
 have h2:=h1.upto (k:=j-i) om
 rw [List.drop_take,←Nat.sub_mul]
 exact h2
theorem Rd.q3t {w:World} {B n c i j:Nat} {A:Option Addr} {l:List Nat} (h:Rd w B 1 A n (l.map B8)) (hij:i≤j) (hj:j≤n) (hc:n≤c):
  Rd w B 1 (if c=i then A else A.map (·.add (i*1))) (j-i) (((l.take j).drop i).map B8):=by
 have h1:=h.mid hij hj hc
 rw [Nat.mul_one,Nat.mul_one,←List.map_take,←List.map_drop] at h1
 rw [Nat.mul_one]
 exact h1
section
variable {W w:World} {fs:List Fact}
theorem Mem.oldBlk (h:Mem W w fs) {g:Nat} {ob:Obj} (hb:W.heap[g]?=some ob):w.heap[g]?=some ob:=(h.below.block g (qak hb)).trans hb
theorem Mem.qcc (h:Mem W w fs) {g off:Nat} {cs:Array Value} {t:TypeId} {v:Value} (hb:W.heap[g]?=some (.cells cs t (0,0))) (hc:cs[off]?=some v):w.cell? ⟨g,off,none⟩=some v:=by
 simp [World.cell?,h.oldBlk hb,hc]
theorem Mem.q3q (h:Mem W w fs) {g:Nat} {cs:Array Value} {t:TypeId} (hb:W.heap[g]?=some (.cells cs t (0,0))):w.rangeAt g 0 cs.toList:=qa (h.oldBlk hb)
end
end Go.Proofs.YtcajpeiobkcliaaGreatDoor
