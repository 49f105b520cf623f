/- What the law FnExactPumpTick asks of the plain functions that the print has told: the one statement over numbers and lists. -/
import Derived.Test.YtbbfibokedlkkaaPFnExactPumpTickx5
namespace Go.Proofs.Ytbbfibokedlkkaa.PFnExactPumpTick
open Go.RowKit Go.Proofs.YtbbfibokedlkkaaW.PrintWords Go.Proofs.YtbbfibokedlkkaaW.PrintLast Go.Proofs.YtbbfibokedlkkaaW.PrintMore
/-- THE ONE PURE STATEMENT of laws_FnExactPumpTick. -/
def laws_FnExactPumpTick.Pure : Prop := ∀ (a0_0 : Int) (a0_1 : Int) (a0_2 : Int) (a1 : Bool) (a2 : Int), (Lit.int .i64 a0_0).wf = true → (Lit.int .i64 a0_1).wf = true → (Lit.int .i64 a0_2).wf = true → (Lit.int .i64 a2).wf = true → ∃ k, laws_FnExactPumpTick.f k a0_0 a0_1 a0_2 a1 a2 = some true
end Go.Proofs.Ytbbfibokedlkkaa.PFnExactPumpTick
