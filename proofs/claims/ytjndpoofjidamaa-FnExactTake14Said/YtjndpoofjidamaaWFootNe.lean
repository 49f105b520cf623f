/- PRUNED: the words that these walks use; written out of the printed words by a program. -/
import Derived.Test.YtjndpoofjidamaaWN
namespace Go.Proofs.YtjndpoofjidamaaW.PrintWords
open Go.RowKit
namespace Kd
section
variable {α : Type} {d : Kd α} {W : World} {g n : Nat} {S ok : Nat → Prop} {A : Option Addr} {ad : Addr} {xs : List α}
end
end Kd
end Go.Proofs.YtjndpoofjidamaaW.PrintWords
