/- A part of the proof. -/
import Derived.Test.YtekiimhdnigmcaaGreatDoorQfMem
namespace Go.Proofs.YtekiimhdnigmcaaGreatDoor
open Go.RowKit
def aR (x:Int):Prop:= -9223372036854775808≤x∧x≤9223372036854775807
def dD (n:Nat):Value:= .int .i64 (n:Int)
end Go.Proofs.YtekiimhdnigmcaaGreatDoor
