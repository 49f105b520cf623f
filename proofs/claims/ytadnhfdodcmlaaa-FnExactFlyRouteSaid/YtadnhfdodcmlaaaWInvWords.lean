/- PRUNED: the words that these walks use; written out of the printed words by a program. -/
import Derived.Test.YtadnhfdodcmlaaaWInv
import Derived.Test.YtadnhfdodcmlaaaWFootNe
namespace Go.Proofs.YtadnhfdodcmlaaaW.PrintWords
open Go.RowKit
end Go.Proofs.YtadnhfdodcmlaaaW.PrintWords
namespace Go.Proofs.YtadnhfdodcmlaaaW.PrintLast
section
variable {ops : Array Oper} {a : Act} {o og : Oper} {g : Nat} {t : Tmp} {u : Bool}
end
end Go.Proofs.YtadnhfdodcmlaaaW.PrintLast
