/- What the law FnExactGainAt asks of the plain functions that the print has told: the one statement over numbers and lists. -/
import Derived.Test.YtifcfkoohfbfoaaPFnExactGainAtx5
namespace Go.Proofs.Ytifcfkoohfbfoaa.PFnExactGainAt
open Go.RowKit Go.Proofs.YtifcfkoohfbfoaaW.PrintWords Go.Proofs.YtifcfkoohfbfoaaW.PrintLast Go.Proofs.YtifcfkoohfbfoaaW.PrintMore
/-- THE ONE PURE STATEMENT of laws_FnExactGainAt. -/
def laws_FnExactGainAt.Pure : Prop := ∀ (l0_0 : List Int) (l0_1 : List Int) (a1 : Int), (l0_0.length ≤ maxLen ∧ ∀ yl0_0 ∈ l0_0, (Lit.int .i64 yl0_0).wf = true) → (l0_1.length ≤ maxLen ∧ ∀ yl0_1 ∈ l0_1, (Lit.int .i64 yl0_1).wf = true) → (Lit.int .i64 a1).wf = true → ∃ k, laws_FnExactGainAt.f k l0_0 l0_1 a1 = some true
end Go.Proofs.Ytifcfkoohfbfoaa.PFnExactGainAt
