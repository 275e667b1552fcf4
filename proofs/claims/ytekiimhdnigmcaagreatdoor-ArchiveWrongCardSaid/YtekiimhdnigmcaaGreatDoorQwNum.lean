/- A part of the proof. -/
import Derived.Test.YtekiimhdnigmcaaGreatDoorQwMem
namespace Go.Proofs.YtekiimhdnigmcaaGreatDoor
open Go.RowKit
def aQ (x:Int):Prop:= -9223372036854775808≤x∧x≤9223372036854775807
def dG (n:Nat):Value:= .int .i64 (n:Int)
end Go.Proofs.YtekiimhdnigmcaaGreatDoor
