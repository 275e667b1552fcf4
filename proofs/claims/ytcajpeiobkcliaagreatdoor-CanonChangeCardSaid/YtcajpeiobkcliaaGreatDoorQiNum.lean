/- A part of the proof. -/
import Derived.Test.YtcajpeiobkcliaaGreatDoorQiMem
namespace Go.Proofs.YtcajpeiobkcliaaGreatDoor
open Go.RowKit
def I64 (x:Int):Prop:= -9223372036854775808≤x∧x≤9223372036854775807
def I64v (n:Nat):Value:= .int .i64 (n:Int)
end Go.Proofs.YtcajpeiobkcliaaGreatDoor
