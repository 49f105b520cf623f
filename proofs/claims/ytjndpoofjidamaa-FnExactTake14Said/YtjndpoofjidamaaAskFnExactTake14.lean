/- What the law FnExactTake14 asks of the plain functions that the print has told: the one statement over numbers and lists. -/
import Derived.Test.YtjndpoofjidamaaPFnExactTake14x14
namespace Go.Proofs.Ytjndpoofjidamaa.PFnExactTake14
open Go.RowKit Go.Proofs.YtjndpoofjidamaaW.PrintWords Go.Proofs.YtjndpoofjidamaaW.PrintLast Go.Proofs.YtjndpoofjidamaaW.PrintMore
/-- A struct's fields fit their kinds. -/
def ok62 (x : S62) : Prop := x.f0.size ≤ maxLen ∧ (Lit.int .i64 x.f1).wf = true ∧ (x.f2.length ≤ maxLen ∧ ∀ yx_f2 ∈ x.f2, (Lit.int .i64 yx_f2).wf = true) ∧ True ∧ x.f4.size ≤ maxLen
/-- THE ONE PURE STATEMENT of laws_FnExactTake14. -/
def laws_FnExactTake14.Pure : Prop := ∀ (l0 : List S62) (l1_0 : List ByteArray) (l1_1 : List ByteArray) (l1_2 : List ByteArray) (a2 : ByteArray), (l0.length ≤ maxLen ∧ ∀ yl0 ∈ l0, ok62 yl0) → (l1_0.length ≤ maxLen ∧ ∀ yl1_0 ∈ l1_0, yl1_0.size ≤ maxLen) → (l1_1.length ≤ maxLen ∧ ∀ yl1_1 ∈ l1_1, yl1_1.size ≤ maxLen) → (l1_2.length ≤ maxLen ∧ ∀ yl1_2 ∈ l1_2, yl1_2.size ≤ maxLen) → a2.size ≤ maxLen → ∃ k, laws_FnExactTake14.f k l0 l1_0 l1_1 l1_2 a2 = some true
end Go.Proofs.Ytjndpoofjidamaa.PFnExactTake14
