/- A part of the proof. -/
import Derived.Test.YtannicghedpdpaaGreatQsSep14
import Derived.ChangeKeysEq
namespace Go.Proofs.YtannicghedpdpaaGreat
open Go.RowKit
set_option linter.all false
section
variable {P : Program} {S : World → Prop} {σ : List (Nat × Value)} {o : Oper}
end
end Go.Proofs.YtannicghedpdpaaGreat
