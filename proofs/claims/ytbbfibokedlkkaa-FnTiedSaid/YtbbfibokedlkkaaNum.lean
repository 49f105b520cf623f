/- Plain laws of numbers and lists, without Go: no wrap where a number fits, quotients down, bounds of products; no condition. -/
import Derived.RowKit
import Derived.WalkArith
import Derived.Test.YtbbfibokedlkkaaWMore
namespace Go.Proofs.Ytbbfibokedlkkaa.Num
open Go.RowKit Go.Proofs.YtbbfibokedlkkaaW.PrintWords Go.Proofs.YtbbfibokedlkkaaW.PrintMore
theorem w64 {a : Int} (h1 : -9223372036854775808 ≤ a) (h2 : a < 9223372036854775808) : wrap64 a = a := by
  unfold wrap64; omega
end Go.Proofs.Ytbbfibokedlkkaa.Num
