/- A part of the proof. -/
import Derived.Test.YtannicghedpdpaaGreatQtBase
import Derived.Test.YtannicghedpdpaaGreatQtStr
import Derived.Laws.BytesString
import Derived.Laws.BytesArg
namespace Go.Proofs.YtannicghedpdpaaGreat
open Go.RowKit
end Go.Proofs.YtannicghedpdpaaGreat
