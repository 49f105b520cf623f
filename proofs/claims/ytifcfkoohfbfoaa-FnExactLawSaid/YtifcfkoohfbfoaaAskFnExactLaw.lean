/- What the law FnExactLaw asks of the plain functions that the print has told: the one statement over numbers and lists. -/
import Derived.Test.YtifcfkoohfbfoaaPFnExactLawx9
namespace Go.Proofs.Ytifcfkoohfbfoaa.PFnExactLaw
open Go.RowKit Go.Proofs.YtifcfkoohfbfoaaW.PrintWords Go.Proofs.YtifcfkoohfbfoaaW.PrintLast Go.Proofs.YtifcfkoohfbfoaaW.PrintMore
/-- THE ONE PURE STATEMENT of laws_FnExactLaw. -/
def laws_FnExactLaw.Pure : Prop := ∀ (a0 : Int) (l1_0 : List Int) (l1_1 : List Int) (a2_0 : Int) (a2_1 : Int) (a2_2 : Int) (a2_3 : Int) (a3_0 : Int) (a3_1 : Int) (a3_2 : Int) (a4 : Int), (Lit.int .i64 a0).wf = true → (l1_0.length ≤ maxLen ∧ ∀ yl1_0 ∈ l1_0, (Lit.int .i64 yl1_0).wf = true) → (l1_1.length ≤ maxLen ∧ ∀ yl1_1 ∈ l1_1, (Lit.int .i64 yl1_1).wf = true) → (Lit.int .i64 a2_0).wf = true → (Lit.int .i64 a2_1).wf = true → (Lit.int .i64 a2_2).wf = true → (Lit.int .i64 a2_3).wf = true → (Lit.int .i64 a3_0).wf = true → (Lit.int .i64 a3_1).wf = true → (Lit.int .i64 a3_2).wf = true → (Lit.int .i64 a4).wf = true → ∃ k, laws_FnExactLaw.f k a0 l1_0 l1_1 a2_0 a2_1 a2_2 a2_3 a3_0 a3_1 a3_2 a4 = some true
end Go.Proofs.Ytifcfkoohfbfoaa.PFnExactLaw
