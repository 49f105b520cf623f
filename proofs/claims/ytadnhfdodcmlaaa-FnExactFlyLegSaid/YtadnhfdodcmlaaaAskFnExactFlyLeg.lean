/- What the law FnExactFlyLeg asks of the plain functions that the print has told: the one statement over numbers and lists. -/
import Derived.Test.YtadnhfdodcmlaaaPFnExactFlyLegx9
namespace Go.Proofs.Ytadnhfdodcmlaaa.PFnExactFlyLeg
open Go.RowKit Go.Proofs.YtadnhfdodcmlaaaW.PrintWords Go.Proofs.YtadnhfdodcmlaaaW.PrintLast Go.Proofs.YtadnhfdodcmlaaaW.PrintMore
/-- THE ONE PURE STATEMENT of laws_FnExactFlyLeg. -/
def laws_FnExactFlyLeg.Pure : Prop := ∀ (a0_0 : Int) (a0_1 : Int) (a0_2 : Int) (a0_3 : Int) (a0_4 : Int) (a1_0 : Int) (a1_1 : Int) (a1_2 : Int) (a1_3 : Int), (Lit.int .i64 a0_0).wf = true → (Lit.int .i64 a0_1).wf = true → (Lit.int .i64 a0_2).wf = true → (Lit.int .i64 a0_3).wf = true → (Lit.int .i64 a0_4).wf = true → (Lit.int .i64 a1_0).wf = true → (Lit.int .i64 a1_1).wf = true → (Lit.int .i64 a1_2).wf = true → (Lit.int .i64 a1_3).wf = true → ∃ k, laws_FnExactFlyLeg.f k a0_0 a0_1 a0_2 a0_3 a0_4 a1_0 a1_1 a1_2 a1_3 = some true
end Go.Proofs.Ytadnhfdodcmlaaa.PFnExactFlyLeg
