/- What the law FnExactInertial asks of the plain functions that the print has told: the one statement over numbers and lists. -/
import Derived.Test.YtfjpmakmgcngiaaPFnExactInertialx4
namespace Go.Proofs.Ytfjpmakmgcngiaa.PFnExactInertial
open Go.RowKit Go.Proofs.YtfjpmakmgcngiaaW.PrintWords Go.Proofs.YtfjpmakmgcngiaaW.PrintLast Go.Proofs.YtfjpmakmgcngiaaW.PrintMore
/-- A struct's fields fit their kinds. -/
def ok75 (x : S75) : Prop := (Lit.int .i64 x.f0).wf = true ∧ (Lit.int .i64 x.f1).wf = true
/-- THE ONE PURE STATEMENT of laws_FnExactInertial. -/
def laws_FnExactInertial.Pure : Prop := ∀ (a0_0 : Int) (a0_1 : Int) (a0_2 : Int) (a0_3 : Int) (l1 : List S75), (Lit.int .i64 a0_0).wf = true → (Lit.int .i64 a0_1).wf = true → (Lit.int .i64 a0_2).wf = true → (Lit.int .i64 a0_3).wf = true → (l1.length ≤ maxLen ∧ ∀ yl1 ∈ l1, ok75 yl1) → ∃ k, laws_FnExactInertial.f k a0_0 a0_1 a0_2 a0_3 l1 = some true
end Go.Proofs.Ytfjpmakmgcngiaa.PFnExactInertial
