/- What the law FnExactMix asks of the plain functions that the print has told: the one statement over numbers and lists. -/
import Derived.Test.YtifcfkoohfbfoaaPFnExactMixx5
namespace Go.Proofs.Ytifcfkoohfbfoaa.PFnExactMix
open Go.RowKit Go.Proofs.YtifcfkoohfbfoaaW.PrintWords Go.Proofs.YtifcfkoohfbfoaaW.PrintLast Go.Proofs.YtifcfkoohfbfoaaW.PrintMore
/-- THE ONE PURE STATEMENT of laws_FnExactMix. -/
def laws_FnExactMix.Pure : Prop := ∀ (l0_0 : List Int) (l0_1 : List Int) (a1 : Int) (a2 : Int) (a3_0 : Int) (a3_1 : Int) (a3_2 : Int), (l0_0.length ≤ maxLen ∧ ∀ yl0_0 ∈ l0_0, (Lit.int .i64 yl0_0).wf = true) → (l0_1.length ≤ maxLen ∧ ∀ yl0_1 ∈ l0_1, (Lit.int .i64 yl0_1).wf = true) → (Lit.int .i64 a1).wf = true → (Lit.int .i64 a2).wf = true → (Lit.int .i64 a3_0).wf = true → (Lit.int .i64 a3_1).wf = true → (Lit.int .i64 a3_2).wf = true → ∃ k, laws_FnExactMix.f k l0_0 l0_1 a1 a2 a3_0 a3_1 a3_2 = some true
end Go.Proofs.Ytifcfkoohfbfoaa.PFnExactMix
