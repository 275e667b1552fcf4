/- A part of the proof. -/
import Derived.Test.YtcajpeiobkcliaaGreatDoorQiSep18
import Derived.Laws.Slices
namespace Go.Proofs.YtcajpeiobkcliaaGreatDoor
open Go.RowKit
def qok (P:Program) (t:TypeId) (n sz:Nat):Bool:=match P.underlying t with
 |some (.array m e)=>m==n&& (match P.info? e with|some i=>i.size==sz|none=>false)
 |_=>false
theorem qkz {P:Program} {t:TypeId} {n sz:Nat} (h:qok P t n sz=true):∃e i,P.underlying t=some (.array n e)∧P.info? e=some i∧i.size=sz:=by
 unfold qok at h
 split at h
 ·rename_i m e hu
  rw [Bool.and_eq_true,beq_iff_eq] at h
  obtain ⟨rfl,h2⟩:=h
  split at h2
  ·rename_i i hi
   exact ⟨e,i,hu,hi,beq_iff_eq.1 h2⟩
  ·cases h2
 ·cases h
def qol (P:Program) (t:TypeId) (sz:Nat) (vs:List (Nat×Value)):Option (Array Value):=match zl P t with
 |some zs=>Instr.fill (fun i=>some (i*sz,sz)) zs vs
 |none=>none
section
variable {P:Program} {S:World→Prop} {σ:List (Nat×Value)} {o:Oper} {t:TypeId} {n sz:Nat}
theorem Yl.qpx {x:Operand} {ad:Addr} (hop:o.op= .slice t x none none none) (hx:look σ x=some (.pointer (some ad))) (ht:qok P t n sz=true) (hn:(n==0)=false:=by decide):Yl P S σ o (.slice (some ad) n n):=fun a N D Z w hS=>by
 obtain ⟨e,i,hu,hi,_⟩:=qkz ht
 have hl:P.arrayLen t=n:=by unfold Program.arrayLen;rw [hu]
 have he:P.elem t=e:=by unfold Program.elem;rw [hu]
 have e1:(Instr.sliceAt t (.pointer (some ad)) none none none).run P w= .ok (.slice (some ad) n n) w:=by
  rw [run_sliceAt_array_all w t ad (by rw [hl,he];exact hu),he,hl]
  have h0:n≠0:=by simpa using hn
  simp [sizeOf,typeInfo,hi,slicedAt,h0,Addr.add]
 unfold execOp
 simp only [hop,Z.eval hx,Option.map_none,Sem.run_bind,Sem.run_pure,e1,Result.andThen_ok]
theorem Yl.qme {ps:Array (Nat×Operand)} {vs:List (Nat×Value)} {cs:Array Value} (hop:o.op= .build t ps) (hv:qbb σ ps.toList=some vs) (ha:qok P t n sz=true) (hb:qol P t sz vs=some cs):Yl P S σ o (.agg cs):=fun a N D Z w hS=>by
 have hpm:=qc4 Z hv
 obtain ⟨e,ie,hu,he,hse⟩:=qkz ha
 obtain ⟨zs,hz,hb⟩:∃zs,zl P t=some zs∧Instr.fill (fun i=>some (i*sz,sz)) zs vs=some cs:=by
  unfold qol at hb
  split at hb
  ·rename_i zs hz;exact ⟨zs,hz,hb⟩
  ·cases hb
 unfold zl at hz
 obtain ⟨zv,hz1,rfl⟩:=Option.map_eq_some_iff.1 hz
 obtain ⟨i,hi,hz2⟩:=Option.bind_eq_some_iff.1 hz1
 have e1:(Instr.build t (ps.map fun p=>(p.1,a.eval p.2))).run P w= .ok (.agg cs) w:=by
  rw [hpm]
  unfold Instr.build
  subst hse
  simp only [Sem.run_bind,zeroValue,sizeOf,typeInfo,program,Sem.run,hi,he,hz2,Sem.run_pure,Result.andThen_ok,run_underlying hu]
  rw [hb];rfl
 unfold execOp
 simp only [hop,Sem.run_bind,Sem.run_pure]
 show ((Instr.build t (ps.map fun p=>(p.1,a.eval p.2))).run P w).andThen _=_
 rw [e1]
 rfl
end
theorem Mem.asBlk {W w:World} {fs:List Fact} (h:Mem W w fs) {i g:Nat} {cs ds:Array Value} {t:TypeId} (hi:fs[i]?=some (.blk g cs t)) (he:cs=ds):Mem W w (fs.set i (.blk g ds t)):=by
 subst he
 obtain ⟨hl,h2⟩:=List.getElem?_eq_some_iff.1 hi
 rw [←h2,List.set_getElem_self]
 exact h
end Go.Proofs.YtcajpeiobkcliaaGreatDoor
