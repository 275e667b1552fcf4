/- A part of the proof. -/
import Derived.Test.YtcajpeiobkcliaaGreatDoorQiSep13
import Derived.Lib.AppendZeros
namespace Go.Proofs.YtcajpeiobkcliaaGreatDoor
open Go.RowKit
section
variable {P:Program} {Q:Exit→Act→World→Prop} {a:Act} {W w:World} {n d:Nat} {D:List Deferred} {σ:List (Nat×Value)} {o:Oper} {K:Act→World→Prop} {fs:List Fact} {S:World→Prop}
theorem Yl.cap {x:Operand} {t:TypeId} {A:Option Addr} {m c:Nat} (hop:o.op= .call {callee:= .builtin .cap,args:= #[x],argTypes:= #[t]}) (hx:look σ x=some (.slice A m c)) (ht:isSl P t=true):Yl P S σ o (.int .i64 (c:Int)):=fun a n D Z w hS=>by
 unfold isSl at ht
 split at ht
 ·rename_i e hu
  unfold execOp
  simp [hop,resolve,invoke,builtin,Z.eval hx,Builtin.cap_,run_underlying hu,goInt]
 ·cases ht
theorem Mem.shrink (h:Mem W w fs) {i m k c size:Nat} {A:Option Addr} {e:TypeId} {xs:List Value} (hi:fs[i]?=some (.row (.slice A m c) m xs e size)) (hk:k≤m) (hA:A=none→k=0∧c=0):Mem W w (fs.set i (.row (.slice A k c) k (xs.take (k*size)) e size)):=by
 have ho:=h.own hi
 refine h.turn hi h.below (fun _ _ _=>rfl) ?_ (fun g' hg'=> .inl (by cases A<;>exact hg'))
 refine ⟨by rw [List.length_take,ho.1];exact Nat.min_eq_left (Nat.mul_le_mul_right _ hk),?_⟩
 rcases ho.2 with ⟨h1,h2⟩|⟨g,cap,cur,h1,h2,h3,h4,h5,h6,h7⟩
 ·injection h1 with h1 _ _
  obtain ⟨rfl,rfl⟩:=hA h1
  subst h1
  exact .inl ⟨rfl,rfl⟩
 ·injection h1 with h1 _ h8
  subst h1;subst h8
  refine .inr ⟨g,c,cur,rfl,h2,h3,by omega,h5,h6,?_⟩
  rw [←h7,List.take_take,Nat.min_eq_left (Nat.mul_le_mul_right _ hk)]
end
theorem q2c {m n j:Nat} (hm:m<2^j):m|||n*2^j=m+n*2^j:=by
 have:=Nat.two_pow_add_eq_or_of_lt hm n
 rw [Nat.or_comm,Nat.mul_comm n,←this,Nat.add_comm]
theorem qi9 {m n j p:Nat} (hp:2^j=p) (hm:m<p) (hb:m+n*p<4294967296):Value.int .u32 (Go.IntKind.u32.wrap (BitVec.ofInt Go.IntKind.u32.bits (m:Int)|||BitVec.ofInt Go.IntKind.u32.bits ((n*p:Nat):Int)).toNat)= .int .u32 ((m+n*p:Nat):Int):=by
 subst hp
 have h:=q2b (m:=m) (n:=n*2^j) om om
 rw [q2c hm] at h
 exact h
structure Part where
 A:Option Addr
 c:Nat
 l:List Nat
def Part.val (p:Part):Value:= .slice p.A p.l.length p.c
end Go.Proofs.YtcajpeiobkcliaaGreatDoor
