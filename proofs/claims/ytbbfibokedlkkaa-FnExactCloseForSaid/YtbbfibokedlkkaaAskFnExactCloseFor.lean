/- What the law FnExactCloseFor asks of the plain functions that the print has told: the one statement over numbers and lists. -/
import Derived.Test.YtbbfibokedlkkaaPFnExactCloseForx16
namespace Go.Proofs.Ytbbfibokedlkkaa.PFnExactCloseFor
open Go.RowKit Go.Proofs.YtbbfibokedlkkaaW.PrintWords Go.Proofs.YtbbfibokedlkkaaW.PrintLast Go.Proofs.YtbbfibokedlkkaaW.PrintMore
/-- A struct's fields fit their kinds. -/
def ok96 (x : S96) : Prop := (Lit.int .i64 x.f0).wf = true ∧ (Lit.int .i64 x.f1).wf = true ∧ True
/-- A struct's fields fit their kinds. -/
def ok98 (x : S98) : Prop := (Lit.int .i64 x.f0).wf = true ∧ (Lit.int .i64 x.f1).wf = true ∧ True
/-- A struct's fields fit their kinds. -/
def ok100 (x : S100) : Prop := (Lit.int .i64 x.f0).wf = true ∧ (Lit.int .i64 x.f1).wf = true ∧ (Lit.int .i64 x.f2).wf = true
/-- THE ONE PURE STATEMENT of laws_FnExactCloseFor. -/
def laws_FnExactCloseFor.Pure : Prop := ∀ (a0_0 : Int) (l0_1 : List S96) (l0_2 : List S98) (l0_3 : List S100) (a1 : Int), (Lit.int .i64 a0_0).wf = true → (l0_1.length ≤ maxLen ∧ ∀ yl0_1 ∈ l0_1, ok96 yl0_1) → (l0_2.length ≤ maxLen ∧ ∀ yl0_2 ∈ l0_2, ok98 yl0_2) → (l0_3.length ≤ maxLen ∧ ∀ yl0_3 ∈ l0_3, ok100 yl0_3) → (Lit.int .i64 a1).wf = true → ∃ k, laws_FnExactCloseFor.f k a0_0 l0_1 l0_2 l0_3 a1 = some true
end Go.Proofs.Ytbbfibokedlkkaa.PFnExactCloseFor
