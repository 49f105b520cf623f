/- What the law FnExactPointsOk asks of the plain functions that the print has told: the one statement over numbers and lists. -/
import Derived.Test.YtoooikhkapaokaaPFnExactPointsOkx5
namespace Go.Proofs.Ytoooikhkapaokaa.PFnExactPointsOk
open Go.RowKit Go.Proofs.YtoooikhkapaokaaW.PrintWords Go.Proofs.YtoooikhkapaokaaW.PrintLast Go.Proofs.YtoooikhkapaokaaW.PrintMore
/-- A struct's fields fit their kinds. -/
def ok51 (x : S51) : Prop := (Lit.int .i64 x.f0).wf = true ∧ (Lit.int .i64 x.f1).wf = true ∧ (Lit.int .i64 x.f2).wf = true
/-- THE ONE PURE STATEMENT of laws_FnExactPointsOk. -/
def laws_FnExactPointsOk.Pure : Prop := ∀ (l0 : List S51), (l0.length ≤ maxLen ∧ ∀ yl0 ∈ l0, ok51 yl0) → ∃ k, laws_FnExactPointsOk.f k l0 = some true
end Go.Proofs.Ytoooikhkapaokaa.PFnExactPointsOk
