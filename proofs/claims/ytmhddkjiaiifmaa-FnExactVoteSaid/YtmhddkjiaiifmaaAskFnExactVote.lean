/- What the law FnExactVote asks of the plain functions that the print has told: the one statement over numbers and lists. -/
import Derived.Test.YtmhddkjiaiifmaaPFnExactVotex10
namespace Go.Proofs.Ytmhddkjiaiifmaa.PFnExactVote
open Go.RowKit Go.Proofs.YtmhddkjiaiifmaaW.PrintWords Go.Proofs.YtmhddkjiaiifmaaW.PrintLast Go.Proofs.YtmhddkjiaiifmaaW.PrintMore
/-- THE ONE PURE STATEMENT of laws_FnExactVote. -/
def laws_FnExactVote.Pure : Prop := ∀ (a0_0 : Int) (a0_1 : Int) (l0_2 : List Bool) (l0_3 : List Int) (l1 : List Int), (Lit.int .i64 a0_0).wf = true → (Lit.int .i64 a0_1).wf = true → (l0_2.length ≤ maxLen ∧ ∀ yl0_2 ∈ l0_2, True) → (l0_3.length ≤ maxLen ∧ ∀ yl0_3 ∈ l0_3, (Lit.int .i64 yl0_3).wf = true) → (l1.length ≤ maxLen ∧ ∀ yl1 ∈ l1, (Lit.int .i64 yl1).wf = true) → ∃ k, laws_FnExactVote.f k a0_0 a0_1 l0_2 l0_3 l1 = some true
end Go.Proofs.Ytmhddkjiaiifmaa.PFnExactVote
