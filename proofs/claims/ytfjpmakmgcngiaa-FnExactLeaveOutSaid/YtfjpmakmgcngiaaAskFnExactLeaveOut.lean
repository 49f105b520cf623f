/- What the law FnExactLeaveOut asks of the plain functions that the print has told: the one statement over numbers and lists. -/
import Derived.Test.YtfjpmakmgcngiaaPFnExactLeaveOutx6
namespace Go.Proofs.Ytfjpmakmgcngiaa.PFnExactLeaveOut
open Go.RowKit Go.Proofs.YtfjpmakmgcngiaaW.PrintWords Go.Proofs.YtfjpmakmgcngiaaW.PrintLast Go.Proofs.YtfjpmakmgcngiaaW.PrintMore
/-- A struct's fields fit their kinds. -/
def ok30 (x : S30) : Prop := (Lit.int .i64 x.f0).wf = true ∧ (Lit.int .i64 x.f1).wf = true ∧ (Lit.int .i64 x.f2).wf = true
/-- THE ONE PURE STATEMENT of laws_FnExactLeaveOut. -/
def laws_FnExactLeaveOut.Pure : Prop := ∀ (l0 : List S30) (a1 : Int), (l0.length ≤ maxLen ∧ ∀ yl0 ∈ l0, ok30 yl0) → (Lit.int .i64 a1).wf = true → ∃ k, laws_FnExactLeaveOut.f k l0 a1 = some true
end Go.Proofs.Ytfjpmakmgcngiaa.PFnExactLeaveOut
