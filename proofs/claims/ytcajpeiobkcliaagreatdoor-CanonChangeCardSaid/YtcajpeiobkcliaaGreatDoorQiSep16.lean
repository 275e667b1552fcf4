/- A part of the proof. -/
import Derived.Test.YtcajpeiobkcliaaGreatDoorQiSep15
namespace Go.Proofs.YtcajpeiobkcliaaGreatDoor
open Go.RowKit
section
variable {P:Program} {S:World→Prop} {σ:List (Nat×Value)} {o:Oper}
theorem Yl.remN {t u:TypeId} {x y:Operand} {k:Go.IntKind} {m n:Nat} (hop:o.op= .binOp .rem t x y u) (hx:look σ x=some (.int k (m:Int))) (hy:look σ y=some (.int k (n:Int))) (hn:0<n):Yl P S σ o (.int k ((m%n:Nat):Int)):=fun a N D Z w hS=>by
 have hb:qbr .rem (.int k (m:Int)) (.int k (n:Int))=some (.int k ((m%n:Nat):Int)):=by
  show (if k=k then qgf .rem k (m:Int) (n:Int) else none)=_
  rw [if_pos rfl]
  show (if (n:Int)=0 then none else some (Value.int k ((m:Int).tmod (n:Int))))=_
  rw [if_neg om]
  exact congrArg some (qae k m n)
 unfold execOp
 simp [hop,Z.eval hx,Z.eval hy,zi (P:=P) .rem t x y (a:= .int k (m:Int)) rfl,qbh hb t]
theorem Yl.quoN {t u:TypeId} {x y:Operand} {k:Go.IntKind} {m n:Nat} (hop:o.op= .binOp .quo t x y u) (hx:look σ x=some (.int k (m:Int))) (hy:look σ y=some (.int k (n:Int))) (hn:0<n) (hm:m≤mostN k):Yl P S σ o (.int k ((m/n:Nat):Int)):=fun a N D Z w hS=>by
 have hb:qbr .quo (.int k (m:Int)) (.int k (n:Int))=some (.int k ((m/n:Nat):Int)):=by
  show (if k=k then qgf .quo k (m:Int) (n:Int) else none)=_
  rw [if_pos rfl]
  show (if (n:Int)=0 then none else some (Value.int k (k.wrap ((m:Int).tdiv (n:Int)))))=_
  rw [if_neg om]
  exact congrArg some (qv9 k n hm)
 unfold execOp
 simp [hop,Z.eval hx,Z.eval hy,zi (P:=P) .quo t x y (a:= .int k (m:Int)) rfl,qbh hb t]
theorem Yl.shrN {t u:TypeId} {x y:Operand} {k k':Go.IntKind} {m n:Nat} (hop:o.op= .binOp .shr t x y u) (hx:look σ x=some (.int k (m:Int))) (hy:look σ y=some (.int k' (n:Int))) (hn:n≤k.bits):Yl P S σ o (.int k ((m/2^n:Nat):Int)):=fun a N D Z w hS=>by
 have hb:qbr .shr (.int k (m:Int)) (.int k' (n:Int))=some (.int k ((m/2^n:Nat):Int)):=by
  show (if (n:Int)<0 then none else some (Value.int k (Int.fdiv (m:Int) (2^ (Min.min (n:Int).toNat k.bits)))))=_
  rw [if_neg om]
  exact congrArg some (qbt k m (j:=n) rfl (by rw [Int.toNat_natCast,Nat.min_eq_left hn]))
 unfold execOp
 simp [hop,Z.eval hx,Z.eval hy,zi (P:=P) .shr t x y (a:= .int k (m:Int)) rfl,qbh hb t]
theorem Yl.shlN {t u:TypeId} {x y:Operand} {k k':Go.IntKind} {m n:Nat} (hop:o.op= .binOp .shl t x y u) (hx:look σ x=some (.int k (m:Int))) (hy:look σ y=some (.int k' (n:Int))) (hn:n≤k.bits) (hm:m*2^n≤mostN k):Yl P S σ o (.int k ((m*2^n:Nat):Int)):=fun a N D Z w hS=>by
 have hb:qbr .shl (.int k (m:Int)) (.int k' (n:Int))=some (.int k ((m*2^n:Nat):Int)):=by
  show (if (n:Int)<0 then none else some (Value.int k (k.wrap ((m:Int)*2^ (Min.min (n:Int).toNat k.bits)))))=_
  rw [if_neg om]
  have e:(m:Int)*2^ (Min.min (n:Int).toNat k.bits)=((m*2^n:Nat):Int):=by rw [Int.toNat_natCast,Nat.min_eq_left hn];norm_cast
  rw [e,qbc k hm]
 unfold execOp
 simp [hop,Z.eval hx,Z.eval hy,zi (P:=P) .shl t x y (a:= .int k (m:Int)) rfl,qbh hb t]
def qmz (P:Program) (t:TypeId):Bool:=match P.underlying t with
 |some .bool=>true
 |_=>false
theorem qp3 {t:TypeId} (ht:qmz P t=true) (x y:Bool) (w:World):(Op.equal t (.bool x) (.bool y)).run P w= .ok (x==y) w:=by
 unfold qmz at ht
 split at ht
 ·rename_i hu
  show (Op.equalIn (9999+1) t (.bool x) (.bool y)).run P w=_
  exact run_equalIn_bool w 9999 t x y hu
 ·cases ht
theorem Yl.q12 {t u:TypeId} {p q:Operand} {x y:Bool} (hop:o.op= .binOp .neq t p q u) (hx:look σ p=some (.bool x)) (hy:look σ q=some (.bool y)) (ht:qmz P t=true):Yl P S σ o (.bool (!(x==y))):=fun a n D Z w hS=>by
 unfold execOp
 have e:(binOp .neq t (.bool x) (.bool y)).run P w= .ok (.bool (!(x==y))) w:=by
  show ((do Pure.pure (.bool (!(←Op.equal t (.bool x) (.bool y)))):Sem Value)).run P w=_
  simp [qp3 ht]
 simp only [hop,Z.eval hx,Z.eval hy,Sem.run_bind,zi (P:=P) .neq t p q (a:= .bool x) rfl,Result.andThen_ok,e,Sem.run_pure]
end
end Go.Proofs.YtcajpeiobkcliaaGreatDoor
