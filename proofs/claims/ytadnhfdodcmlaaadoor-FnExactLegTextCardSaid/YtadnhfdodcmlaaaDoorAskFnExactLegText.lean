/- What the law FnExactLegText asks of the plain functions that the print has told: the one statement over numbers and lists. -/
import Derived.Test.YtadnhfdodcmlaaaDoorPFnExactLegTextx5
namespace Go.Proofs.YtadnhfdodcmlaaaDoor.PFnExactLegText
open Go.RowKit Go.Proofs.YtadnhfdodcmlaaaDoorW.PrintWords Go.Proofs.YtadnhfdodcmlaaaDoorW.PrintLast Go.Proofs.YtadnhfdodcmlaaaDoorW.PrintMore
/-- THE ONE PURE STATEMENT of laws_FnExactLegText. -/
def laws_FnExactLegText.Pure : Prop := ∀ (a0_0 : Int) (a0_1 : Int) (a0_2 : Int) (a0_3 : Int), (Lit.int .i64 a0_0).wf = true → (Lit.int .i64 a0_1).wf = true → (Lit.int .i64 a0_2).wf = true → (Lit.int .i64 a0_3).wf = true → ∃ k, laws_FnExactLegText.f k a0_0 a0_1 a0_2 a0_3 = some true
end Go.Proofs.YtadnhfdodcmlaaaDoor.PFnExactLegText
