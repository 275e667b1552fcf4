/- A part of the proof. -/
import Derived.Test.YtcajpeiobkcliaaGreatDoorQiSep18
namespace Go.Proofs.YtcajpeiobkcliaaGreatDoor
open Go.RowKit
def qzk (P:Program) (t:TypeId) (cs:Array Value) (i:Nat):Option Value:=
 match P.underlying t with
 |some (.struct fs)=>match fs[i]? with
  |some f=>partV P f.type cs f.offset
  |none=>none
 |_=>none
section
variable {P:Program} {S:World→Prop} {σ:List (Nat×Value)} {o:Oper} {v:Value}
theorem Yl.field {t:TypeId} {p:Operand} {i:Nat} {xs:Array Value} (hop:o.op= .field t p i) (hx:look σ p=some (.agg xs)) (h:qzk P t xs i=some v):Yl P S σ o v:=fun a n D Z w hS=>by
 unfold execOp
 unfold qzk at h
 split at h
 ·rename_i fs hu
  split at h
  ·rename_i f hf
   simp [hop,Z.eval hx,Instr.field,run_underlying hu,hf,asAgg,qgk h]
  ·cases h
 ·cases h
end
end Go.Proofs.YtcajpeiobkcliaaGreatDoor
