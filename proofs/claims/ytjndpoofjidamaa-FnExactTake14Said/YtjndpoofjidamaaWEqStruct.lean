/- PRUNED: the words that these walks use; written out of the printed words by a program. -/
import Derived.Test.YtjndpoofjidamaaWWords
import Derived.Laws.StructEq
namespace Go.Proofs.YtjndpoofjidamaaW.PrintWords
open Go.RowKit
section
variable {P : Program} {d : Nat} {xs ys : Array Value} {f : Field} {fs : List Field} {a b : Value} {r s : Bool} {w : World}
end
end Go.Proofs.YtjndpoofjidamaaW.PrintWords
