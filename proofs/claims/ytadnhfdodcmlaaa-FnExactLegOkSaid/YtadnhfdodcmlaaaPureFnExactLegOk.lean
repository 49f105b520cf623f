/- For every Leg the program's LegOk answers what the reference's answers (FnExactLegOk returns true); no condition. -/
import Derived.Test.YtadnhfdodcmlaaaAskFnExactLegOk
import Derived.Test.YtadnhfdodcmlaaaNum
namespace Go.Proofs.Ytadnhfdodcmlaaa.Pure.FnExactLegOk
open Go.RowKit Go.Proofs.Ytadnhfdodcmlaaa.PFnExactLegOk Go.Proofs.YtadnhfdodcmlaaaW.PrintWords Go.Proofs.YtadnhfdodcmlaaaW.PrintLast Go.Proofs.YtadnhfdodcmlaaaW.PrintMore Go.Proofs.Ytadnhfdodcmlaaa.Num
set_option linter.unusedVariables false
set_option linter.unusedSimpArgs false
theorem in_s (a b c : Int) : spec_l1In.f a b c = some (decide (b ≤ a) && decide (a ≤ c)) := by
  unfold spec_l1In.f
  by_cases h : a ≥ b
  · rw [if_pos h, decide_eq_true (show b ≤ a from h)]; rfl
  · rw [if_neg h, decide_eq_false (show ¬ b ≤ a from h)]; rfl
theorem FnExactLegOk : laws_FnExactLegOk.Pure := by
  intro a b c d _ _ _ _
  have hi : ∀ x : Int, impl_isDir.f x = spec_l1In.f x 0 7 := by
    intro x
    have h : impl_in.f x 0 7 = spec_l1In.f x 0 7 := rfl
    unfold impl_isDir.f
    rw [h, in_s]; rfl
  have h1 : impl_LegOk.f a b c d = spec_LegOk.f a b c d := by
    have h : impl_in.f = spec_l1In.f := rfl
    unfold impl_LegOk.f spec_LegOk.f
    rw [hi, h]
  have h2 : ∃ r, spec_LegOk.f a b c d = some r := by
    simp only [spec_LegOk.f, in_s, Option.bind_some, ites]
    repeat' split
    all_goals exact ⟨_, rfl⟩
  obtain ⟨r, hr⟩ := h2
  unfold laws_FnExactLegOk.f
  simp [laws_toLeg.f, h1, hr]
end Go.Proofs.Ytadnhfdodcmlaaa.Pure.FnExactLegOk
namespace Go.Proofs.Ytadnhfdodcmlaaa.Pure
theorem FnExactLegOk : Go.Proofs.Ytadnhfdodcmlaaa.PFnExactLegOk.laws_FnExactLegOk.Pure := FnExactLegOk.FnExactLegOk
end Go.Proofs.Ytadnhfdodcmlaaa.Pure
