/- What the law FnExactCraftOk asks of the plain functions that the print has told: the one statement over numbers and lists. -/
import Derived.Test.YtadnhfdodcmlaaaPFnExactCraftOkx1
namespace Go.Proofs.Ytadnhfdodcmlaaa.PFnExactCraftOk
open Go.RowKit Go.Proofs.YtadnhfdodcmlaaaW.PrintWords Go.Proofs.YtadnhfdodcmlaaaW.PrintLast Go.Proofs.YtadnhfdodcmlaaaW.PrintMore
/-- THE ONE PURE STATEMENT of laws_FnExactCraftOk. -/
def laws_FnExactCraftOk.Pure : Prop := ∀ (a0_0 : Int) (a0_1 : Int) (a0_2 : Int) (a0_3 : Int) (a0_4 : Int), (Lit.int .i64 a0_0).wf = true → (Lit.int .i64 a0_1).wf = true → (Lit.int .i64 a0_2).wf = true → (Lit.int .i64 a0_3).wf = true → (Lit.int .i64 a0_4).wf = true → laws_FnExactCraftOk.f a0_0 a0_1 a0_2 a0_3 a0_4 = some true
end Go.Proofs.Ytadnhfdodcmlaaa.PFnExactCraftOk
