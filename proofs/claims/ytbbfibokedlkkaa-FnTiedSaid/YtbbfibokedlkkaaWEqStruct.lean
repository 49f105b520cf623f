/- PRUNED: the words that these walks use; written out of the printed words by a program. -/
import Derived.Test.YtbbfibokedlkkaaWWords
import Derived.Laws.StructEq
namespace Go.Proofs.YtbbfibokedlkkaaW.PrintWords
open Go.RowKit
section
variable {P : Program} {d : Nat} {xs ys : Array Value} {f : Field} {fs : List Field} {a b : Value} {r s : Bool} {w : World}
end
end Go.Proofs.YtbbfibokedlkkaaW.PrintWords
