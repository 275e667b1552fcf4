/- A part of the proof. -/
import Derived.Test.YtannicghedpdpaaGreatQsSep8
import Derived.Deep.Upon
namespace Go.Proofs.YtannicghedpdpaaGreat
open Go.RowKit
section
variable {P : Program} {S : World → Prop} {σ : List (Nat × Value)} {o : Oper}
end
def I64i (x : Int) : Value := .int .i64 x
end Go.Proofs.YtannicghedpdpaaGreat
