/- What the law FnExactProfile asks of the plain functions that the print has told: the one statement over numbers and lists. -/
import Derived.Test.YtoooikhkapaokaaPFnExactProfilex10
namespace Go.Proofs.Ytoooikhkapaokaa.PFnExactProfile
open Go.RowKit Go.Proofs.YtoooikhkapaokaaW.PrintWords Go.Proofs.YtoooikhkapaokaaW.PrintLast Go.Proofs.YtoooikhkapaokaaW.PrintMore
/-- A struct's fields fit their kinds. -/
def ok51 (x : S51) : Prop := (Lit.int .i64 x.f0).wf = true ∧ (Lit.int .i64 x.f1).wf = true ∧ (Lit.int .i64 x.f2).wf = true
/-- THE ONE PURE STATEMENT of laws_FnExactProfile. -/
def laws_FnExactProfile.Pure : Prop := ∀ (l0 : List S51) (a1 : Int) (a2 : Int) (a3 : Int), (l0.length ≤ maxLen ∧ ∀ yl0 ∈ l0, ok51 yl0) → (Lit.int .i64 a1).wf = true → (Lit.int .i64 a2).wf = true → (Lit.int .i64 a3).wf = true → ∃ k, laws_FnExactProfile.f k l0 a1 a2 a3 = some true
end Go.Proofs.Ytoooikhkapaokaa.PFnExactProfile
