/- What the law FnExactOwnOk asks of the plain functions that the print has told: the one statement over numbers and lists. -/
import Derived.Test.YtagfchjddknboaaPFnExactOwnOkx1
namespace Go.Proofs.Ytagfchjddknboaa.PFnExactOwnOk
open Go.RowKit Go.Proofs.YtagfchjddknboaaW.PrintWords Go.Proofs.YtagfchjddknboaaW.PrintLast Go.Proofs.YtagfchjddknboaaW.PrintMore
/-- THE ONE PURE STATEMENT of laws_FnExactOwnOk. -/
def laws_FnExactOwnOk.Pure : Prop := ∀ (a0_0 : Int) (a0_1 : Int) (a0_2 : Int) (a0_3 : Int), (Lit.int .i64 a0_0).wf = true → (Lit.int .i64 a0_1).wf = true → (Lit.int .i64 a0_2).wf = true → (Lit.int .i64 a0_3).wf = true → laws_FnExactOwnOk.f a0_0 a0_1 a0_2 a0_3 = some true
end Go.Proofs.Ytagfchjddknboaa.PFnExactOwnOk
