/- A part of the proof. -/
import Derived.Test.YtieeckeaijdaeaaGreatDoorQaMem
namespace Go.Proofs.YtieeckeaijdaeaaGreatDoor
open Go.RowKit
def bC (x:Int):Prop:= -9223372036854775808≤x∧x≤9223372036854775807
def cK (n:Nat):Value:= .int .i64 (n:Int)
end Go.Proofs.YtieeckeaijdaeaaGreatDoor
