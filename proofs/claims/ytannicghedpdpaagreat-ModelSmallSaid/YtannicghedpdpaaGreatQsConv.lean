/- A part of the proof. -/
import Derived.Test.YtannicghedpdpaaGreatQsBase
import Derived.Test.YtannicghedpdpaaGreatQsStr
import Derived.Laws.BytesString
import Derived.Laws.BytesArg
namespace Go.Proofs.YtannicghedpdpaaGreat
open Go.RowKit
end Go.Proofs.YtannicghedpdpaaGreat
