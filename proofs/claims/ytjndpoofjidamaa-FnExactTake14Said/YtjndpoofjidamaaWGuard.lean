/- PRUNED: the words that these walks use; written out of the printed words by a program. -/
import Derived.Test.YtjndpoofjidamaaWWords
namespace Go.Proofs.YtjndpoofjidamaaW.PrintWords
open Go.RowKit
section
variable {P : Program} {ops : Array Oper} {rest : List Oper} {o : Oper} {a : Act} {Q : Exit → Act → World → Prop} {W : World}
end
end Go.Proofs.YtjndpoofjidamaaW.PrintWords
