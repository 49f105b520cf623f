/- What the law FnExactGainOk asks of the plain functions that the print has told: the one statement over numbers and lists. -/
import Derived.Test.YtifcfkoohfbfoaaPFnExactGainOkx3
namespace Go.Proofs.Ytifcfkoohfbfoaa.PFnExactGainOk
open Go.RowKit Go.Proofs.YtifcfkoohfbfoaaW.PrintWords Go.Proofs.YtifcfkoohfbfoaaW.PrintLast Go.Proofs.YtifcfkoohfbfoaaW.PrintMore
/-- THE ONE PURE STATEMENT of laws_FnExactGainOk. -/
def laws_FnExactGainOk.Pure : Prop := ∀ (l0_0 : List Int) (l0_1 : List Int), (l0_0.length ≤ maxLen ∧ ∀ yl0_0 ∈ l0_0, (Lit.int .i64 yl0_0).wf = true) → (l0_1.length ≤ maxLen ∧ ∀ yl0_1 ∈ l0_1, (Lit.int .i64 yl0_1).wf = true) → ∃ k, laws_FnExactGainOk.f k l0_0 l0_1 = some true
end Go.Proofs.Ytifcfkoohfbfoaa.PFnExactGainOk
