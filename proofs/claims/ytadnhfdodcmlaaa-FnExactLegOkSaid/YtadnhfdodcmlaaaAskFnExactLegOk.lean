/- What the law FnExactLegOk asks of the plain functions that the print has told: the one statement over numbers and lists. -/
import Derived.Test.YtadnhfdodcmlaaaPFnExactLegOkx1
namespace Go.Proofs.Ytadnhfdodcmlaaa.PFnExactLegOk
open Go.RowKit Go.Proofs.YtadnhfdodcmlaaaW.PrintWords Go.Proofs.YtadnhfdodcmlaaaW.PrintLast Go.Proofs.YtadnhfdodcmlaaaW.PrintMore
/-- THE ONE PURE STATEMENT of laws_FnExactLegOk. -/
def laws_FnExactLegOk.Pure : Prop := ∀ (a0_0 : Int) (a0_1 : Int) (a0_2 : Int) (a0_3 : Int), (Lit.int .i64 a0_0).wf = true → (Lit.int .i64 a0_1).wf = true → (Lit.int .i64 a0_2).wf = true → (Lit.int .i64 a0_3).wf = true → laws_FnExactLegOk.f a0_0 a0_1 a0_2 a0_3 = some true
end Go.Proofs.Ytadnhfdodcmlaaa.PFnExactLegOk
