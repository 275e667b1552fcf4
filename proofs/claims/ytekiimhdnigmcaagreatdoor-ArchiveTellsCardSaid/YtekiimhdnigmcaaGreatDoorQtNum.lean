/- A part of the proof. -/
import Derived.Test.YtekiimhdnigmcaaGreatDoorQtMem
namespace Go.Proofs.YtekiimhdnigmcaaGreatDoor
open Go.RowKit
def bP (x:Int):Prop:= -9223372036854775808≤x∧x≤9223372036854775807
def bI (n:Nat):Value:= .int .i64 (n:Int)
end Go.Proofs.YtekiimhdnigmcaaGreatDoor
