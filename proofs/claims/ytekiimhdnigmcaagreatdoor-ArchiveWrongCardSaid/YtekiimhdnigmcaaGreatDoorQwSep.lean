/- A part of the proof. -/
import Derived.Test.YtekiimhdnigmcaaGreatDoorQwRnd
namespace Go.Proofs.YtekiimhdnigmcaaGreatDoor
open Go.RowKit
variable {P:Program}
def look (σ:List (Nat×Value)):Operand→Option Value
 | .tmp t=>σ.lookup t
 | .const v=>some v
 | .global g=>some (.pointer (some ⟨g,0,none⟩))
 | .func f=>some (.func (.func f) #[] #[])
structure Fr (a:Act) (n:Nat) (D:List Deferred) (σ:List (Nat×Value)):Prop where
 size:a.tmps.size=n
 defers:a.defers=D
 slot:∀t v,σ.lookup t=some v→a.tmps.getD t undef=v
section
variable {a:Act} {n:Nat} {D:List Deferred} {σ σ':List (Nat×Value)}
theorem Fr.eval (h:Fr a n D σ) {x:Operand} {v:Value} (b:look σ x=some v):a.eval x=v:=by
 cases x with
 |tmp t=>exact h.slot t v b
 |const u=>injection b
 |global g=>injection b
 |func f=>injection b
theorem Fr.put (h:Fr a n D σ) {d:Nat} (c:d<n) (v:Value):Fr (a.put (some d) v) n D ((d,v)::σ):=by
 refine ⟨by simpa [Act.put] using h.size,h.defers,λt u b=>?_⟩
 have hs:=h.size
 by_cases e:t=d
 ·subst e
  simp only [List.lookup_cons,beq_self_eq_true,Option.some.injEq] at b
  subst b
  simp [Act.put,hs,c]
 ·have f:(t==d)=false:=by simpa using e
  simp only [List.lookup_cons,f] at b
  have h2:=h.slot t u b
  simp only [Act.put,Array.getD_eq_getD_getElem?,Array.getElem?_setIfInBounds_ne (Ne.symm e)]
  simpa using h2
theorem Fr.sub (h:Fr a n D σ) (hs:σ'.map (λp=>σ.lookup p.1)=σ'.map (λp=>some p.2)):Fr a n D σ':=by
 refine ⟨h.size,h.defers,λt v b=>h.slot t v ?_⟩
 induction σ' with
 |nil=>cases b
 | cons p r d =>
  simp only [List.map_cons,List.cons.injEq] at hs
  obtain ⟨k,u⟩:=p
  simp only [List.lookup_cons] at b
  split at b
  ·rename_i c
   rw [beq_iff_eq] at c
   subst c
   rw [hs.1,←b]
  ·exact d hs.2 b
end
def dH (ops:Array Oper) (σ:List (Nat×Value)) (o:Oper):Option Bool:=
 match o.guard with
 |none=>some true
 | some (j, b) => match (ops[j]?).bind (·.dst) with
  |none=>none
  |some t=>match σ.lookup t with
   |some (.bool c)=>some (c==b)
   |some (.tuple _)=>some false
   |_=>none
theorem qsn:undef= .tuple #[]:=rfl
theorem C9 {a:Act} {n:Nat} {D:List Deferred} {σ:List (Nat×Value)} {ops:Array Oper} {o:Oper} {c:Bool} (h:Fr a n D σ) (d:dH ops σ o=some c):Region.wanted o (yielded ops a.tmps)=c:=by
 unfold dH at d
 unfold Region.wanted
 cases hg:o.guard with
 |none=>rw [hg] at d;simpa using d
 | some e =>
  obtain ⟨j,b⟩:=e
  rw [hg] at d
  simp only at d⊢
  cases ht:(ops[j]?).bind (·.dst) with
  |none=>rw [ht] at d;cases d
  | some t =>
   rw [ht] at d
   simp only at d
   unfold yielded
   rw [ht]
   simp only [Option.bind_some]
   cases hl:σ.lookup t with
   |none=>rw [hl] at d;cases d
   | some v =>
    rw [hl] at d
    have hs:=h.slot t v hl
    rw [Array.getD_eq_getD_getElem?] at hs
    cases hx:a.tmps[t]? with
    |none=>
     rw [hx] at hs
     simp only [Option.getD_none] at hs
     subst hs
     rw [qsn] at d
     simp only [Option.some.injEq] at d
     subst d
     rfl
    |some u=>
     rw [hx] at hs
     simp only [Option.getD_some] at hs
     subst hs
     cases u<;>simp only [Option.some.injEq,reduceCtorEq] at d
     ·subst d;rfl
     ·subst d;rfl
def Da (op:BinOp) (k:IntKind) (a b:Int):Option Value:=
 match op with
 | .add=>some (.int k (k.wrap (a+b)))
 | .sub=>some (.int k (k.wrap (a-b)))
 | .mul=>some (.int k (k.wrap (a*b)))
 | .quo=>if b=0 then none else some (.int k (k.wrap (a.tdiv b)))
 | .rem=>if b=0 then none else some (.int k (a.tmod b))
 | .and=>some (.int k (k.wrap (BitVec.ofInt k.bits a&&&BitVec.ofInt k.bits b).toNat))
 | .or=>some (.int k (k.wrap (BitVec.ofInt k.bits a|||BitVec.ofInt k.bits b).toNat))
 | .xor=>some (.int k (k.wrap (BitVec.ofInt k.bits a^^^BitVec.ofInt k.bits b).toNat))
 | .eql=>some (.bool (a==b))
 | .neq=>some (.bool (a !=b))
 | .lss=>some (.bool (a<b))
 | .leq=>some (.bool (a≤b))
 | .gtr=>some (.bool (a>b))
 | .geq=>some (.bool (a≥b))
 |_=>none
def rX (op:BinOp):Value→Value→Option Value
 | .int k a,.int c b=>match op with
  | .shl=>if b<0 then none else some (.int k (k.wrap (a*2^ (min b.toNat k.bits))))
  | .shr=>if b<0 then none else some (.int k (a.fdiv (2^ (min b.toNat k.bits))))
  |_=>if k=c then Da op k a b else none
 | .string a,.string b=>match op with
  | .eql=>some (.bool (a.toList==b.toList))
  | .neq=>some (.bool !(a.toList==b.toList))
  |_=>none
 |_,_=>none
theorem Ew {op : BinOp} {x y v : Value} (h : rX op x y = some v) (t : TypeId) (w : World) : (binOp op t x y).run P w = .ok v w := by
  unfold rX at h
  split at h
  · split at h
    · split at h
      · cases h
      · rename_i b;injection h with h;subst h;simp [binOp,Op.shift,b]
    · split at h
      · cases h
      · rename_i b;injection h with h;subst h;simp [binOp,Op.shift,b]
    · split at h
      · rename_i c
        subst c
        unfold Da at h
        split at h<;>first
          |(injection h with h;subst h;simp [binOp,Op.intArith,Op.intBits,Op.intCmp];done)
          | (split at h
             · cases h
             · rename_i b;injection h with h;subst h;simp [binOp,Op.intDiv,b])
          |cases h
      · cases h
  · split at h
    · injection h with h;subst h;simp [binOp,Op.stringOp]
    · injection h with h;subst h;simp [binOp,Op.stringOp]
    · cases h
  · cases h
def Ey:Value→Bool
 | .agg _=>false
 | .nilIface=>false
 |_=>true
theorem wH (op:BinOp) (t:TypeId) (x y:Operand) {a b:Value} (c:Ey a=true) (w:World):(eqGuard op t x y a b).run P w= .ok () w:=by
 unfold eqGuard
 cases a<;>first|exact absurd c (by decide)|(split<;>simp;done)|exact absurd c (by simp [Ey])
def Db (P:Program) (s f:Nat):Option Nat:=
 match P.underlying s with
 | some (.struct c) => match c[f]? with
  |some b=>match P.info? b.type with
   |some i=>if i.size=0 then none else some b.offset
   |none=>none
  |none=>none
 |_=>none
theorem qp0 {s f off:Nat} (h:Db P s f=some off) (a:Addr) (w:World):(Instr.fieldAt s (.pointer (some a)) f).run P w= .ok (.pointer (some (a.add off))) w:=by
 unfold Db at h
 split at h
 ·rename_i d b
  split at h
  ·rename_i e c
   split at h
   ·rename_i i hi
    split at h
    ·cases h
    ·rename_i hz
     injection h with h;subst h
     simp [Instr.fieldAt,run_underlying b,c,Instr.sureAddr,fieldPlace,sizeOf,typeInfo,hi,hz]
   ·cases h
  ·cases h
 ·cases h
def rY (P:Program) (σ:List (Nat×Value)):Op→Option Value
 | .move x=>look σ x
 | .assign x=>look σ x
 | .pick c a b=>match look σ c with
  |some (.bool true)=>look σ a
  |some (.bool false)=>look σ b
  |_=>none
 | .extract t i=>match look σ t with
  |some (.tuple g)=>g[i]?
  |_=>none
 | .unOp .not _ x=>match look σ x with
  |some (.bool b)=>some (.bool !b)
  |_=>none
 | .binOp op _ x y _=>match look σ x,look σ y with
  |some a,some b=>if Ey a then rX op a b else none
  |_,_=>none
 | .convert d e x=>match P.underlying d,P.underlying e,look σ x with
  |some _,some (.int k),some (.int _ m)=>some (.int k (k.wrap m))
  |_,_,_=>none
 | .fieldAddr s x f=>match look σ x,Db P s f with
  |some (.pointer (some a)),some off=>some (.pointer (some (a.add off)))
  |_,_=>none
 |_=>none
theorem UQ {a:Act} {n:Nat} {D:List Deferred} {σ:List (Nat×Value)} (h:Fr a n D σ) {o:Oper} {v:Value} (e:rY P σ o.op=some v) (w:World):(execOp a.eval o).run P w= .ok (.value v) w:=by
 unfold execOp
 unfold rY at e
 split at e
 ·rename_i x d;simp only [d,h.eval e];rfl
 ·rename_i x d;simp only [d,h.eval e];rfl
 ·rename_i c x y d
  split at e
  ·rename_i hc;simp only [d,h.eval hc,h.eval e];rfl
  ·rename_i hc;simp only [d,h.eval hc,h.eval e];rfl
  ·cases e
 ·rename_i t i d
  split at e
  ·rename_i C ht;simp only [d,h.eval ht,Instr.extract,e];rfl
  ·cases e
 ·rename_i t x d
  split at e
  ·rename_i b g;injection e with e;subst e;simp only [d,h.eval g,Op.unary];rfl
  ·cases e
 ·rename_i op t x y u d
  split at e
  ·rename_i p q g j
   split at e
   ·rename_i l
    simp [d,h.eval g,h.eval j,wH op t x y l,Ew e t]
   ·cases e
  ·cases e
 ·rename_i r z x d
  split at e
  ·rename_i E k F m hs A g
   injection e with e;subst e
   simp [d,h.eval g,convert,run_underlying hs,run_underlying A,Conv.intToInt]
  ·cases e
 ·rename_i s x f d
  split at e
  ·rename_i G off g B
   injection e with e;subst e
   simp [d,h.eval g,qp0 B]
  ·cases e
 ·cases e
end Go.Proofs.YtekiimhdnigmcaaGreatDoor
