/- For every Craft the program's CraftOk answers what the reference's answers (FnExactCraftOk returns true); no condition. -/
import Derived.Test.YtadnhfdodcmlaaaAskFnExactCraftOk
import Derived.Test.YtadnhfdodcmlaaaNum
namespace Go.Proofs.Ytadnhfdodcmlaaa.Pure.FnExactCraftOk
open Go.RowKit Go.Proofs.Ytadnhfdodcmlaaa.PFnExactCraftOk Go.Proofs.YtadnhfdodcmlaaaW.PrintWords Go.Proofs.YtadnhfdodcmlaaaW.PrintLast Go.Proofs.YtadnhfdodcmlaaaW.PrintMore Go.Proofs.Ytadnhfdodcmlaaa.Num
set_option linter.unusedVariables false
set_option linter.unusedSimpArgs false
theorem in_s (a b c : Int) : spec_l1In.f a b c = some (decide (b ≤ a) && decide (a ≤ c)) := by
  unfold spec_l1In.f
  by_cases h : a ≥ b
  · rw [if_pos h, decide_eq_true (show b ≤ a from h)]; rfl
  · rw [if_neg h, decide_eq_false (show ¬ b ≤ a from h)]; rfl
theorem FnExactCraftOk : laws_FnExactCraftOk.Pure := by
  intro a b c d e _ _ _ _ _
  have hi : ∀ x : Int, impl_isDir.f x = spec_l1In.f x 0 7 := by
    intro x
    have h : impl_in.f x 0 7 = spec_l1In.f x 0 7 := rfl
    unfold impl_isDir.f
    rw [h, in_s]; rfl
  have h1 : impl_CraftOk.f a b c d e = spec_CraftOk.f a b c d e := by
    have h : impl_in.f = spec_l1In.f := rfl
    unfold impl_CraftOk.f spec_CraftOk.f
    rw [hi, h]
  have h2 : ∃ r, spec_CraftOk.f a b c d e = some r := by
    simp only [spec_CraftOk.f, in_s, Option.bind_some, ites]
    exact ⟨_, rfl⟩
  obtain ⟨r, hr⟩ := h2
  unfold laws_FnExactCraftOk.f
  simp [laws_toCraft.f, h1, hr]
end Go.Proofs.Ytadnhfdodcmlaaa.Pure.FnExactCraftOk
namespace Go.Proofs.Ytadnhfdodcmlaaa.Pure
theorem FnExactCraftOk : Go.Proofs.Ytadnhfdodcmlaaa.PFnExactCraftOk.laws_FnExactCraftOk.Pure := FnExactCraftOk.FnExactCraftOk
end Go.Proofs.Ytadnhfdodcmlaaa.Pure
