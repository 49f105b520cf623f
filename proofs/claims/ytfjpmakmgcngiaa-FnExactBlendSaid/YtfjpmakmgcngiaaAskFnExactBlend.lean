/- What the law FnExactBlend asks of the plain functions that the print has told: the one statement over numbers and lists. -/
import Derived.Test.YtfjpmakmgcngiaaPFnExactBlendx2
namespace Go.Proofs.Ytfjpmakmgcngiaa.PFnExactBlend
open Go.RowKit Go.Proofs.YtfjpmakmgcngiaaW.PrintWords Go.Proofs.YtfjpmakmgcngiaaW.PrintLast Go.Proofs.YtfjpmakmgcngiaaW.PrintMore
/-- THE ONE PURE STATEMENT of laws_FnExactBlend. -/
def laws_FnExactBlend.Pure : Prop := ∀ (a0_0 : Int) (a0_1 : Int) (a0_2 : Int) (a0_3 : Int) (a1_0 : Int) (a1_1 : Int) (a2 : Int), (Lit.int .i64 a0_0).wf = true → (Lit.int .i64 a0_1).wf = true → (Lit.int .i64 a0_2).wf = true → (Lit.int .i64 a0_3).wf = true → (Lit.int .i64 a1_0).wf = true → (Lit.int .i64 a1_1).wf = true → (Lit.int .i64 a2).wf = true → ∃ k, laws_FnExactBlend.f k a0_0 a0_1 a0_2 a0_3 a1_0 a1_1 a2 = some true
end Go.Proofs.Ytfjpmakmgcngiaa.PFnExactBlend
