/- For every Place and Fix the program's Misfit answers what the reference's answers (FnExactMisfit returns true); no condition. -/
import Derived.Test.YtfjpmakmgcngiaaAskFnExactMisfit
import Derived.Test.YtfjpmakmgcngiaaNum
namespace Go.Proofs.Ytfjpmakmgcngiaa.Pure.FnExactMisfit
open Go.RowKit Go.Proofs.Ytfjpmakmgcngiaa.PFnExactMisfit Go.Proofs.YtfjpmakmgcngiaaW.PrintWords Go.Proofs.YtfjpmakmgcngiaaW.PrintLast Go.Proofs.YtfjpmakmgcngiaaW.PrintMore Go.Proofs.Ytfjpmakmgcngiaa.Num
set_option linter.unusedVariables false
set_option linter.unusedSimpArgs false
theorem in_s (a b c : Int) : spec_l1In.f a b c = some (decide (b ≤ a) && decide (a ≤ c)) := by
  unfold spec_l1In.f
  by_cases h : a ≥ b
  · rw [if_pos h, decide_eq_true (show b ≤ a from h)]; rfl
  · rw [if_neg h, decide_eq_false (show ¬ b ≤ a from h)]; rfl
theorem FnExactMisfit : laws_FnExactMisfit.Pure := by
  intro a b c d e _ _ _ _ _
  have h1 : impl_Misfit.f a b c d e = spec_Misfit.f a b c d e := rfl
  have h2 : ∃ r, spec_Misfit.f a b c d e = some r := by
    simp only [spec_Misfit.f, spec_l11Place.f, spec_l11Fix.f, in_s, Option.bind_some, ites]
    repeat' split
    all_goals exact ⟨_, rfl⟩
  obtain ⟨r, hr⟩ := h2
  simp only [laws_FnExactMisfit.f, laws_toPlace.f, laws_toFix.f, Option.bind_some, h1, hr, if_true]
end Go.Proofs.Ytfjpmakmgcngiaa.Pure.FnExactMisfit
namespace Go.Proofs.Ytfjpmakmgcngiaa.Pure
theorem FnExactMisfit : Go.Proofs.Ytfjpmakmgcngiaa.PFnExactMisfit.laws_FnExactMisfit.Pure := FnExactMisfit.FnExactMisfit
end Go.Proofs.Ytfjpmakmgcngiaa.Pure
