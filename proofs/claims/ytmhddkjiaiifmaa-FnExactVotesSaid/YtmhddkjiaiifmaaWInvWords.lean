/- PRUNED: the words that these walks use; written out of the printed words by a program. -/
import Derived.Test.YtmhddkjiaiifmaaWInv
import Derived.Test.YtmhddkjiaiifmaaWFootNe
namespace Go.Proofs.YtmhddkjiaiifmaaW.PrintWords
open Go.RowKit
end Go.Proofs.YtmhddkjiaiifmaaW.PrintWords
namespace Go.Proofs.YtmhddkjiaiifmaaW.PrintLast
section
variable {ops : Array Oper} {a : Act} {o og : Oper} {g : Nat} {t : Tmp} {u : Bool}
end
end Go.Proofs.YtmhddkjiaiifmaaW.PrintLast
