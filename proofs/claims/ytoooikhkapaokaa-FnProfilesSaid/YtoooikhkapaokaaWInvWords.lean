/- PRUNED: the words that these walks use; written out of the printed words by a program. -/
import Derived.Test.YtoooikhkapaokaaWInv
import Derived.Test.YtoooikhkapaokaaWFootNe
namespace Go.Proofs.YtoooikhkapaokaaW.PrintWords
open Go.RowKit
end Go.Proofs.YtoooikhkapaokaaW.PrintWords
namespace Go.Proofs.YtoooikhkapaokaaW.PrintLast
section
variable {ops : Array Oper} {a : Act} {o og : Oper} {g : Nat} {t : Tmp} {u : Bool}
end
end Go.Proofs.YtoooikhkapaokaaW.PrintLast
