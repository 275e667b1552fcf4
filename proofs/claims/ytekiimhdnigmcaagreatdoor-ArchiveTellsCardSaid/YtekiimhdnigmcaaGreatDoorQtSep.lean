/- A part of the proof. -/
import Derived.Test.YtekiimhdnigmcaaGreatDoorQtRnd
namespace Go.Proofs.YtekiimhdnigmcaaGreatDoor
open Go.RowKit
def look (σ:List (Nat×Value)):Operand→Option Value
 | .tmp t=>σ.lookup t
 | .const v=>some v
 | .global g=>some (.pointer (some ⟨g,0,none⟩))
 | .func f=>some (.func (.func f) #[] #[])
structure Fr (a:Act) (n:Nat) (D:List Deferred) (σ:List (Nat×Value)):Prop where
 size:a.tmps.size=n
 defers:a.defers=D
 slot:∀t v,σ.lookup t=some v→a.tmps.getD t undef=v
section
variable {a:Act} {n:Nat} {D:List Deferred} {σ σ':List (Nat×Value)}
theorem Fr.eval (h:Fr a n D σ) {x:Operand} {v:Value} (hx:look σ x=some v):a.eval x=v:=by
 cases x with
 |tmp t=>exact h.slot t v hx
 |const u=>injection hx
 |global g=>injection hx
 |func f=>injection hx
theorem Fr.put (h:Fr a n D σ) {d:Nat} (hd:d<n) (v:Value):Fr (a.put (some d) v) n D ((d,v)::σ):=by
 refine ⟨by simpa [Act.put] using h.size,h.defers,fun t u hu=>?_⟩
 have hs:=h.size
 by_cases e:t=d
 ·subst e
  simp only [List.lookup_cons,beq_self_eq_true,Option.some.injEq] at hu
  subst hu
  simp [Act.put,hs,hd]
 ·have hb:(t==d)=false:=by simpa using e
  simp only [List.lookup_cons,hb] at hu
  have h2:=h.slot t u hu
  simp only [Act.put,Array.getD_eq_getD_getElem?,Array.getElem?_setIfInBounds_ne (Ne.symm e)]
  simpa using h2
theorem Fr.sub (h:Fr a n D σ) (hs:σ'.map (fun p=>σ.lookup p.1)=σ'.map (fun p=>some p.2)):Fr a n D σ':=by
 refine ⟨h.size,h.defers,fun t v hv=>h.slot t v ?_⟩
 induction σ' with
 |nil=>cases hv
 | cons p r ih =>
  simp only [List.map_cons,List.cons.injEq] at hs
  obtain ⟨k,u⟩:=p
  simp only [List.lookup_cons] at hv
  split at hv
  ·rename_i hk
   rw [beq_iff_eq] at hk
   subst hk
   rw [hs.1,←hv]
  ·exact ih hs.2 hv
end
def dL (ops:Array Oper) (σ:List (Nat×Value)) (o:Oper):Option Bool:=
 match o.guard with
 |none=>some true
 | some (j, b) => match (ops[j]?).bind (·.dst) with
  |none=>none
  |some t=>match σ.lookup t with
   |some (.bool c)=>some (c==b)
   |some (.tuple _)=>some false
   |_=>none
theorem qri:undef= .tuple #[]:=rfl
theorem qc6 {a:Act} {n:Nat} {D:List Deferred} {σ:List (Nat×Value)} {ops:Array Oper} {o:Oper} {c:Bool} (h:Fr a n D σ) (hw:dL ops σ o=some c):Region.wanted o (yielded ops a.tmps)=c:=by
 unfold dL at hw
 unfold Region.wanted
 cases hg:o.guard with
 |none=>rw [hg] at hw;simpa using hw
 | some jb =>
  obtain ⟨j,b⟩:=jb
  rw [hg] at hw
  simp only at hw⊢
  cases ht:(ops[j]?).bind (·.dst) with
  |none=>rw [ht] at hw;cases hw
  | some t =>
   rw [ht] at hw
   simp only at hw
   unfold yielded
   rw [ht]
   simp only [Option.bind_some]
   cases hl:σ.lookup t with
   |none=>rw [hl] at hw;cases hw
   | some v =>
    rw [hl] at hw
    have hs:=h.slot t v hl
    rw [Array.getD_eq_getD_getElem?] at hs
    cases hx:a.tmps[t]? with
    |none=>
     rw [hx] at hs
     simp only [Option.getD_none] at hs
     subst hs
     rw [qri] at hw
     simp only [Option.some.injEq] at hw
     subst hw
     rfl
    |some u=>
     rw [hx] at hs
     simp only [Option.getD_some] at hs
     subst hs
     cases u<;>simp only [Option.some.injEq,reduceCtorEq] at hw
     ·subst hw;rfl
     ·subst hw;rfl
def Sk (op:BinOp) (k:IntKind) (a b:Int):Option Value:=
 match op with
 | .add=>some (.int k (k.wrap (a+b)))
 | .sub=>some (.int k (k.wrap (a-b)))
 | .mul=>some (.int k (k.wrap (a*b)))
 | .quo=>if b=0 then none else some (.int k (k.wrap (a.tdiv b)))
 | .rem=>if b=0 then none else some (.int k (a.tmod b))
 | .and=>some (.int k (k.wrap (BitVec.ofInt k.bits a&&&BitVec.ofInt k.bits b).toNat))
 | .or=>some (.int k (k.wrap (BitVec.ofInt k.bits a|||BitVec.ofInt k.bits b).toNat))
 | .xor=>some (.int k (k.wrap (BitVec.ofInt k.bits a^^^BitVec.ofInt k.bits b).toNat))
 | .eql=>some (.bool (a==b))
 | .neq=>some (.bool (a !=b))
 | .lss=>some (.bool (a<b))
 | .leq=>some (.bool (a≤b))
 | .gtr=>some (.bool (a>b))
 | .geq=>some (.bool (a≥b))
 |_=>none
def qed (op:BinOp):Value→Value→Option Value
 | .int k a,.int k' b=>match op with
  | .shl=>if b<0 then none else some (.int k (k.wrap (a*2^ (min b.toNat k.bits))))
  | .shr=>if b<0 then none else some (.int k (a.fdiv (2^ (min b.toNat k.bits))))
  |_=>if k=k' then Sk op k a b else none
 | .string a,.string b=>match op with
  | .eql=>some (.bool (a.toList==b.toList))
  | .neq=>some (.bool !(a.toList==b.toList))
  |_=>none
 |_,_=>none
theorem Ve {P : Program} {op : BinOp} {x y v : Value} (h : qed op x y = some v) (t : TypeId) (w : World) : (binOp op t x y).run P w = .ok v w := by
  unfold qed at h
  split at h
  · split at h
    · split at h
      · cases h
      · rename_i hb;injection h with h;subst h;simp [binOp,Op.shift,hb]
    · split at h
      · cases h
      · rename_i hb;injection h with h;subst h;simp [binOp,Op.shift,hb]
    · split at h
      · rename_i hk
        subst hk
        unfold Sk at h
        split at h<;>first
          |(injection h with h;subst h;simp [binOp,Op.intArith,Op.intBits,Op.intCmp];done)
          | (split at h
             · cases h
             · rename_i hb;injection h with h;subst h;simp [binOp,Op.intDiv,hb])
          |cases h
      · cases h
  · split at h
    · injection h with h;subst h;simp [binOp,Op.stringOp]
    · injection h with h;subst h;simp [binOp,Op.stringOp]
    · cases h
  · cases h
def ME:Value→Bool
 | .agg _=>false
 | .nilIface=>false
 |_=>true
theorem KO {P:Program} (op:BinOp) (t:TypeId) (x y:Operand) {a b:Value} (ha:ME a=true) (w:World):(eqGuard op t x y a b).run P w= .ok () w:=by
 unfold eqGuard
 cases a<;>first|exact absurd ha (by decide)|(split<;>simp;done)|exact absurd ha (by simp [ME])
def KP (P:Program) (s f:Nat):Option Nat:=
 match P.underlying s with
 | some (.struct fs) => match fs[f]? with
  |some fl=>match P.info? fl.type with
   |some i=>if i.size=0 then none else some fl.offset
   |none=>none
  |none=>none
 |_=>none
theorem qoq {P:Program} {s f off:Nat} (h:KP P s f=some off) (a:Addr) (w:World):(Instr.fieldAt s (.pointer (some a)) f).run P w= .ok (.pointer (some (a.add off))) w:=by
 unfold KP at h
 split at h
 ·rename_i fs hu
  split at h
  ·rename_i fl hf
   split at h
   ·rename_i i hi
    split at h
    ·cases h
    ·rename_i hz
     injection h with h;subst h
     simp [Instr.fieldAt,run_underlying hu,hf,Instr.sureAddr,fieldPlace,sizeOf,typeInfo,hi,hz]
   ·cases h
  ·cases h
 ·cases h
def xM (P:Program) (σ:List (Nat×Value)):Op→Option Value
 | .move x=>look σ x
 | .assign x=>look σ x
 | .pick c a b=>match look σ c with
  |some (.bool true)=>look σ a
  |some (.bool false)=>look σ b
  |_=>none
 | .extract t i=>match look σ t with
  |some (.tuple vs)=>vs[i]?
  |_=>none
 | .unOp .not _ x=>match look σ x with
  |some (.bool b)=>some (.bool !b)
  |_=>none
 | .binOp op _ x y _=>match look σ x,look σ y with
  |some a,some b=>if ME a then qed op a b else none
  |_,_=>none
 | .convert src dst x=>match P.underlying src,P.underlying dst,look σ x with
  |some _,some (.int k),some (.int _ m)=>some (.int k (k.wrap m))
  |_,_,_=>none
 | .fieldAddr s x f=>match look σ x,KP P s f with
  |some (.pointer (some a)),some off=>some (.pointer (some (a.add off)))
  |_,_=>none
 |_=>none
theorem qi5 {P:Program} {a:Act} {n:Nat} {D:List Deferred} {σ:List (Nat×Value)} (h:Fr a n D σ) {o:Oper} {v:Value} (hv:xM P σ o.op=some v) (w:World):(execOp a.eval o).run P w= .ok (.value v) w:=by
 unfold execOp
 unfold xM at hv
 split at hv
 ·rename_i x hop;simp only [hop,h.eval hv];rfl
 ·rename_i x hop;simp only [hop,h.eval hv];rfl
 ·rename_i c x y hop
  split at hv
  ·rename_i hc;simp only [hop,h.eval hc,h.eval hv];rfl
  ·rename_i hc;simp only [hop,h.eval hc,h.eval hv];rfl
  ·cases hv
 ·rename_i t i hop
  split at hv
  ·rename_i vs ht;simp only [hop,h.eval ht,Instr.extract,hv];rfl
  ·cases hv
 ·rename_i t x hop
  split at hv
  ·rename_i b hx;injection hv with hv;subst hv;simp only [hop,h.eval hx,Op.unary];rfl
  ·cases hv
 ·rename_i op t x y u hop
  split at hv
  ·rename_i p q hx hy
   split at hv
   ·rename_i hn
    simp [hop,h.eval hx,h.eval hy,KO op t x y hn,Ve hv t]
   ·cases hv
  ·cases hv
 ·rename_i src dst x hop
  split at hv
  ·rename_i ds k k' m hs hu hx
   injection hv with hv;subst hv
   simp [hop,h.eval hx,convert,run_underlying hs,run_underlying hu,Conv.intToInt]
  ·cases hv
 ·rename_i s x f hop
  split at hv
  ·rename_i ad off hx hf
   injection hv with hv;subst hv
   simp [hop,h.eval hx,qoq hf]
  ·cases hv
 ·cases hv
end Go.Proofs.YtekiimhdnigmcaaGreatDoor
