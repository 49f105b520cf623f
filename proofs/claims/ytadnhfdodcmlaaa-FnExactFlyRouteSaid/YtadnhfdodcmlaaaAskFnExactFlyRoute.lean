/- What the law FnExactFlyRoute asks of the plain functions that the print has told: the one statement over numbers and lists. -/
import Derived.Test.YtadnhfdodcmlaaaPFnExactFlyRoutex13
namespace Go.Proofs.Ytadnhfdodcmlaaa.PFnExactFlyRoute
open Go.RowKit Go.Proofs.YtadnhfdodcmlaaaW.PrintWords Go.Proofs.YtadnhfdodcmlaaaW.PrintLast Go.Proofs.YtadnhfdodcmlaaaW.PrintMore
/-- A struct's fields fit their kinds. -/
def ok29 (x : S29) : Prop := (Lit.int .i64 x.f0).wf = true ∧ (Lit.int .i64 x.f1).wf = true ∧ (Lit.int .i64 x.f2).wf = true ∧ (Lit.int .i64 x.f3).wf = true
/-- THE ONE PURE STATEMENT of laws_FnExactFlyRoute. -/
def laws_FnExactFlyRoute.Pure : Prop := ∀ (a0_0 : Int) (a0_1 : Int) (a0_2 : Int) (a0_3 : Int) (a0_4 : Int) (l1 : List S29), (Lit.int .i64 a0_0).wf = true → (Lit.int .i64 a0_1).wf = true → (Lit.int .i64 a0_2).wf = true → (Lit.int .i64 a0_3).wf = true → (Lit.int .i64 a0_4).wf = true → (l1.length ≤ maxLen ∧ ∀ yl1 ∈ l1, ok29 yl1) → ∃ k, laws_FnExactFlyRoute.f k a0_0 a0_1 a0_2 a0_3 a0_4 l1 = some true
end Go.Proofs.Ytadnhfdodcmlaaa.PFnExactFlyRoute
