/- What the law FnExactLoudest asks of the plain functions that the print has told: the one statement over numbers and lists. -/
import Derived.Test.YtjndpoofjidamaaPFnExactLoudestx8
namespace Go.Proofs.Ytjndpoofjidamaa.PFnExactLoudest
open Go.RowKit Go.Proofs.YtjndpoofjidamaaW.PrintWords Go.Proofs.YtjndpoofjidamaaW.PrintLast Go.Proofs.YtjndpoofjidamaaW.PrintMore
/-- A struct's fields fit their kinds. -/
def ok62 (x : S62) : Prop := x.f0.size ≤ maxLen ∧ (Lit.int .i64 x.f1).wf = true ∧ (x.f2.length ≤ maxLen ∧ ∀ yx_f2 ∈ x.f2, (Lit.int .i64 yx_f2).wf = true) ∧ True ∧ x.f4.size ≤ maxLen
/-- THE ONE PURE STATEMENT of laws_FnExactLoudest. -/
def laws_FnExactLoudest.Pure : Prop := ∀ (l0 : List S62) (l1 : List ByteArray), (l0.length ≤ maxLen ∧ ∀ yl0 ∈ l0, ok62 yl0) → (l1.length ≤ maxLen ∧ ∀ yl1 ∈ l1, yl1.size ≤ maxLen) → ∃ k, laws_FnExactLoudest.f k l0 l1 = some true
end Go.Proofs.Ytjndpoofjidamaa.PFnExactLoudest
