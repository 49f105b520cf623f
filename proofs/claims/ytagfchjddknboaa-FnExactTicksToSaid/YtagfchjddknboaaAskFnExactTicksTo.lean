/- What the law FnExactTicksTo asks of the plain functions that the print has told: the one statement over numbers and lists. -/
import Derived.Test.YtagfchjddknboaaPFnExactTicksTox1
namespace Go.Proofs.Ytagfchjddknboaa.PFnExactTicksTo
open Go.RowKit Go.Proofs.YtagfchjddknboaaW.PrintWords Go.Proofs.YtagfchjddknboaaW.PrintLast Go.Proofs.YtagfchjddknboaaW.PrintMore
/-- THE ONE PURE STATEMENT of laws_FnExactTicksTo. -/
def laws_FnExactTicksTo.Pure : Prop := ∀ (a0_0 : Int) (a0_1 : Int) (a0_2 : Int) (a0_3 : Int) (a0_4 : Int) (a0_5 : Int), (Lit.int .i64 a0_0).wf = true → (Lit.int .i64 a0_1).wf = true → (Lit.int .i64 a0_2).wf = true → (Lit.int .i64 a0_3).wf = true → (Lit.int .i64 a0_4).wf = true → (Lit.int .i64 a0_5).wf = true → laws_FnExactTicksTo.f a0_0 a0_1 a0_2 a0_3 a0_4 a0_5 = some true
end Go.Proofs.Ytagfchjddknboaa.PFnExactTicksTo
