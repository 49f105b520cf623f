/- PRUNED: the words that these walks use; written out of the printed words by a program. -/
import Derived.Test.YtjndpoofjidamaaWN
namespace Go.Proofs.YtjndpoofjidamaaW.PrintWords
open Go.RowKit
namespace Kd
section
variable {α : Type} {d : Kd α} {e base n cap g : Nat} {ok ok' okp : Nat → Prop} {w w1 W : World} {v v1 : Value} {xs ys : List α}
end
section
variable {P : Program} {ops : Array Oper} {rest : List Oper} {o : Oper} {a : Act} {Q : Exit → Act → World → Prop} {Kc : Act → World → Prop} {α : Type}
end
end Kd
end Go.Proofs.YtjndpoofjidamaaW.PrintWords
