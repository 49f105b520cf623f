/- PRUNED: the words that these walks use; written out of the printed words by a program. -/
import Derived.Test.YtjndpoofjidamaaWInv
import Derived.Test.YtjndpoofjidamaaWFootNe
namespace Go.Proofs.YtjndpoofjidamaaW.PrintWords
open Go.RowKit
end Go.Proofs.YtjndpoofjidamaaW.PrintWords
namespace Go.Proofs.YtjndpoofjidamaaW.PrintLast
section
variable {ops : Array Oper} {a : Act} {o og : Oper} {g : Nat} {t : Tmp} {u : Bool}
end
end Go.Proofs.YtjndpoofjidamaaW.PrintLast
