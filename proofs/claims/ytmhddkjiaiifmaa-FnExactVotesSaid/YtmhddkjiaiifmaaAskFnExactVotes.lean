/- What the law FnExactVotes asks of the plain functions that the print has told: the one statement over numbers and lists. -/
import Derived.Test.YtmhddkjiaiifmaaPFnExactVotesx13
namespace Go.Proofs.Ytmhddkjiaiifmaa.PFnExactVotes
open Go.RowKit Go.Proofs.YtmhddkjiaiifmaaW.PrintWords Go.Proofs.YtmhddkjiaiifmaaW.PrintLast Go.Proofs.YtmhddkjiaiifmaaW.PrintMore
/-- THE ONE PURE STATEMENT of laws_FnExactVotes. -/
def laws_FnExactVotes.Pure : Prop := ∀ (a0_0 : Int) (a0_1 : Int) (l0_2 : List Bool) (l0_3 : List Int) (l1 : List (List Int)), (Lit.int .i64 a0_0).wf = true → (Lit.int .i64 a0_1).wf = true → (l0_2.length ≤ maxLen ∧ ∀ yl0_2 ∈ l0_2, True) → (l0_3.length ≤ maxLen ∧ ∀ yl0_3 ∈ l0_3, (Lit.int .i64 yl0_3).wf = true) → (l1.length ≤ maxLen ∧ ∀ yl1 ∈ l1, (yl1.length ≤ maxLen ∧ ∀ yyl1 ∈ yl1, (Lit.int .i64 yyl1).wf = true)) → ∃ k, laws_FnExactVotes.f k a0_0 a0_1 l0_2 l0_3 l1 = some true
end Go.Proofs.Ytmhddkjiaiifmaa.PFnExactVotes
