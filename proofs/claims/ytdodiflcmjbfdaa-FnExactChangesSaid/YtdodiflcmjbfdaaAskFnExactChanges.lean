/- What the law FnExactChanges asks of the plain functions that the print has told: the one statement over numbers and lists. -/
import Derived.Test.YtdodiflcmjbfdaaPFnExactChangesx2
namespace Go.Proofs.Ytdodiflcmjbfdaa.PFnExactChanges
open Go.RowKit Go.Proofs.YtdodiflcmjbfdaaW.PrintWords Go.Proofs.YtdodiflcmjbfdaaW.PrintLast Go.Proofs.YtdodiflcmjbfdaaW.PrintMore
/-- A struct's fields fit their kinds. -/
def ok23 (x : S23) : Prop := (Lit.int .i64 x.f0).wf = true ∧ (Lit.int .i64 x.f1).wf = true ∧ (Lit.int .i64 x.f2).wf = true ∧ (Lit.int .i64 x.f3).wf = true ∧ (Lit.int .i64 x.f4).wf = true ∧ (Lit.int .i64 x.f5).wf = true ∧ (Lit.int .i64 x.f6).wf = true ∧ (Lit.int .i64 x.f7).wf = true ∧ True
/-- THE ONE PURE STATEMENT of laws_FnExactChanges. -/
def laws_FnExactChanges.Pure : Prop := ∀ (l0 : List S23), (l0.length ≤ maxLen ∧ ∀ yl0 ∈ l0, ok23 yl0) → ∃ k, laws_FnExactChanges.f k l0 = some true
end Go.Proofs.Ytdodiflcmjbfdaa.PFnExactChanges
