/- A part of the proof. -/
import Derived.Test.YtannicghedpdpaaGreatQsRnd1
namespace Go.Proofs.YtannicghedpdpaaGreat
open Go.RowKit
section
variable {P : Program} {ops : Array Oper} {Q : Exit → Act → World → Prop} {a : Act} {w W : World} {n i : Nat} {K : Act → World → Prop} {md : Region.Mode}
end
end Go.Proofs.YtannicghedpdpaaGreat
