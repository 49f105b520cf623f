/- PRUNED: the words that these walks use; written out of the printed words by a program. -/
import Derived.Test.YtdodiflcmjbfdaaWInv
import Derived.Test.YtdodiflcmjbfdaaWFootNe
namespace Go.Proofs.YtdodiflcmjbfdaaW.PrintWords
open Go.RowKit
end Go.Proofs.YtdodiflcmjbfdaaW.PrintWords
namespace Go.Proofs.YtdodiflcmjbfdaaW.PrintLast
section
variable {ops : Array Oper} {a : Act} {o og : Oper} {g : Nat} {t : Tmp} {u : Bool}
end
end Go.Proofs.YtdodiflcmjbfdaaW.PrintLast
