/- What the law FnExactInhibited asks of the plain functions that the print has told: the one statement over numbers and lists. -/
import Derived.Test.YtjndpoofjidamaaPFnExactInhibitedx9
namespace Go.Proofs.Ytjndpoofjidamaa.PFnExactInhibited
open Go.RowKit Go.Proofs.YtjndpoofjidamaaW.PrintWords Go.Proofs.YtjndpoofjidamaaW.PrintLast Go.Proofs.YtjndpoofjidamaaW.PrintMore
/-- A struct's fields fit their kinds. -/
def ok62 (x : S62) : Prop := x.f0.size ≤ maxLen ∧ (Lit.int .i64 x.f1).wf = true ∧ (x.f2.length ≤ maxLen ∧ ∀ yx_f2 ∈ x.f2, (Lit.int .i64 yx_f2).wf = true) ∧ True ∧ x.f4.size ≤ maxLen
/-- THE ONE PURE STATEMENT of laws_FnExactInhibited. -/
def laws_FnExactInhibited.Pure : Prop := ∀ (l0 : List S62) (a1 : Int), (l0.length ≤ maxLen ∧ ∀ yl0 ∈ l0, ok62 yl0) → (Lit.int .i64 a1).wf = true → ∃ k, laws_FnExactInhibited.f k l0 a1 = some true
end Go.Proofs.Ytjndpoofjidamaa.PFnExactInhibited
