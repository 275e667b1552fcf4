/- A part of the proof. -/
import Derived.Test.YtcajpeiobkcliaaGreatDoorQiSep11
import Derived.Test.YtcajpeiobkcliaaGreatDoorQiSep12
import Derived.Maps.RangeRun
namespace Go.Proofs.YtcajpeiobkcliaaGreatDoor
open Go.RowKit Go.MapKept
def entOf (p:Nat×Nat) (b:Nat):MapEntry:={key:= .int .i64 (p.1:Int),val:= .int .i64 (p.2:Int),born:=b}
def entsF:Nat→List (Nat×Nat)→List MapEntry
 |_,[]=>[]
 |b,p::l=>entOf p b::entsF (b+1) l
def mapA (l:List (Nat×Nat)):Array MapEntry:=(entsF 0 l).toArray
section
variable {P:Program} {Q:Exit→Act→World→Prop} {a:Act} {W w:World} {n d:Nat} {D:List Deferred} {σ:List (Nat×Value)} {o:Oper} {K:Act→World→Prop} {fs:List Fact} {S:World→Prop}
end
structure Counted (l:List (Nat×Nat)) (seen:Array Nat) (c:Nat):Prop where
 odd:(c:Int)%2=seenSum (mapA l).toList seen%2
 few:c+(leftOf (mapA l) seen).size≤l.length
end Go.Proofs.YtcajpeiobkcliaaGreatDoor
