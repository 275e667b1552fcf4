/- A part of the proof. -/
import Derived.Test.YtannicghedpdpaaQfBase
import Derived.Test.YtannicghedpdpaaQfStr
import Derived.Laws.BytesString
import Derived.Laws.BytesArg
namespace Go.Proofs.Ytannicghedpdpaa
open Go.RowKit
end Go.Proofs.Ytannicghedpdpaa
