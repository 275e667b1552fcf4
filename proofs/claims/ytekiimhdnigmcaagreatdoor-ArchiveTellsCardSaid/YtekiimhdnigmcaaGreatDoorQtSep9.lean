/- A part of the proof. -/
import Derived.Test.YtekiimhdnigmcaaGreatDoorQtSep8
import Derived.Deep.Upon
namespace Go.Proofs.YtekiimhdnigmcaaGreatDoor
open Go.RowKit
section
variable {P:Program} {S:World→Prop} {σ:List (Nat×Value)} {o:Oper}
end
theorem Rd.G8 {w:World} {B n k:Nat} {A:Option Addr} {l:List Nat} (h:Rd w B 1 A n (l.map B8)) (hk:k≤n):Rd w B 1 A k ((l.take k).map B8):=by
 have h1:=h.upto hk
 rwa [Nat.mul_one,←List.map_take] at h1
def bC (x:Int):Value:= .int .i64 x
end Go.Proofs.YtekiimhdnigmcaaGreatDoor
