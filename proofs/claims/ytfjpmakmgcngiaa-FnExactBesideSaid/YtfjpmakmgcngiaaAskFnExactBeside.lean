/- What the law FnExactBeside asks of the plain functions that the print has told: the one statement over numbers and lists. -/
import Derived.Test.YtfjpmakmgcngiaaPFnExactBesidex3
namespace Go.Proofs.Ytfjpmakmgcngiaa.PFnExactBeside
open Go.RowKit Go.Proofs.YtfjpmakmgcngiaaW.PrintWords Go.Proofs.YtfjpmakmgcngiaaW.PrintLast Go.Proofs.YtfjpmakmgcngiaaW.PrintMore
/-- THE ONE PURE STATEMENT of laws_FnExactBeside. -/
def laws_FnExactBeside.Pure : Prop := ∀ (a0_0 : Int) (a0_1 : Int) (a1_0 : Int) (a1_1 : Int) (a2_0 : Int) (a2_1 : Int), (Lit.int .i64 a0_0).wf = true → (Lit.int .i64 a0_1).wf = true → (Lit.int .i64 a1_0).wf = true → (Lit.int .i64 a1_1).wf = true → (Lit.int .i64 a2_0).wf = true → (Lit.int .i64 a2_1).wf = true → ∃ k, laws_FnExactBeside.f k a0_0 a0_1 a1_0 a1_1 a2_0 a2_1 = some true
end Go.Proofs.Ytfjpmakmgcngiaa.PFnExactBeside
