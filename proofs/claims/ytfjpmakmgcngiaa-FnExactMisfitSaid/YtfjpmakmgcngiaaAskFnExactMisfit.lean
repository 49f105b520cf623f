/- What the law FnExactMisfit asks of the plain functions that the print has told: the one statement over numbers and lists. -/
import Derived.Test.YtfjpmakmgcngiaaPFnExactMisfitx2
namespace Go.Proofs.Ytfjpmakmgcngiaa.PFnExactMisfit
open Go.RowKit Go.Proofs.YtfjpmakmgcngiaaW.PrintWords Go.Proofs.YtfjpmakmgcngiaaW.PrintLast Go.Proofs.YtfjpmakmgcngiaaW.PrintMore
/-- THE ONE PURE STATEMENT of laws_FnExactMisfit. -/
def laws_FnExactMisfit.Pure : Prop := ∀ (a0_0 : Int) (a0_1 : Int) (a1_0 : Int) (a1_1 : Int) (a1_2 : Int), (Lit.int .i64 a0_0).wf = true → (Lit.int .i64 a0_1).wf = true → (Lit.int .i64 a1_0).wf = true → (Lit.int .i64 a1_1).wf = true → (Lit.int .i64 a1_2).wf = true → laws_FnExactMisfit.f a0_0 a0_1 a1_0 a1_1 a1_2 = some true
end Go.Proofs.Ytfjpmakmgcngiaa.PFnExactMisfit
