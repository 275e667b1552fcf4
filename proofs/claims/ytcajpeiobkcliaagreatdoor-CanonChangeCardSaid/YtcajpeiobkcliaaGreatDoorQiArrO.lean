/- A part of the proof. -/
import Derived.Test.YtcajpeiobkcliaaGreatDoorQiSep12
namespace Go.Proofs.YtcajpeiobkcliaaGreatDoor
open Go.RowKit
def qzc (P:Program) (t:TypeId):Option Nat:=match P.underlying t with
 |some (.array n e)=>if isOne P e=true∧(P.info? e).map (·.size)=some 1 then some n else none
 |_=>none
theorem Yl.qzo {P:Program} {S:World→Prop} {σ:List (Nat×Value)} {o:Oper} {t:TypeId} {x ix:Operand} {cs:Array Value} {m y:Nat} {k:Go.IntKind} {v:Value} (hop:o.op= .index t x ix) (hx:look σ x=some (.agg cs)) (hi:look σ ix=some (.int k (y:Int))) (he:qzc P t=some m) (hy:y<m) (hv:cs[y]?=some v):Yl P S σ o v:=fun a n D Z w hS=>by
 unfold qzc at he
 split at he
 ·rename_i m' e hu
  split at he
  ·rename_i h1
   obtain ⟨h1,h2⟩:=h1
   obtain ⟨i,hi',h2⟩:=Option.map_eq_some_iff.1 h2
   injection he with he
   subst he
   unfold execOp
   simp [hop,Z.eval hx,Z.eval hi,Instr.index,asIntOf,run_underlying hu,hy,sizeOf,typeInfo,hi',h2,part,qkt h1,hv]
  ·cases he
 ·cases he
end Go.Proofs.YtcajpeiobkcliaaGreatDoor
