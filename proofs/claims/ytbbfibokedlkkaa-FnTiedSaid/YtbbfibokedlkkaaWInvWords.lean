/- PRUNED: the words that these walks use; written out of the printed words by a program. -/
import Derived.Test.YtbbfibokedlkkaaWInv
import Derived.Test.YtbbfibokedlkkaaWFootNe
namespace Go.Proofs.YtbbfibokedlkkaaW.PrintWords
open Go.RowKit
end Go.Proofs.YtbbfibokedlkkaaW.PrintWords
namespace Go.Proofs.YtbbfibokedlkkaaW.PrintLast
section
variable {ops : Array Oper} {a : Act} {o og : Oper} {g : Nat} {t : Tmp} {u : Bool}
end
end Go.Proofs.YtbbfibokedlkkaaW.PrintLast
