/- For all lanes, air and fails the program's ModeOf answers what the reference's answers (FnExactModeOf returns true); no condition. -/
import Derived.Test.YtifcfkoohfbfoaaPFnExactModeOfx1
namespace Go.Proofs.Ytifcfkoohfbfoaa.Pure
open Go.RowKit Go.Proofs.Ytifcfkoohfbfoaa.PFnExactModeOf Go.Proofs.YtifcfkoohfbfoaaW.PrintWords Go.Proofs.YtifcfkoohfbfoaaW.PrintLast

theorem FnExactModeOf : laws_FnExactModeOf.Pure := by
  intro a0 a1 a2 _ _
  refine ⟨1, ?_⟩
  have e : impl_ModeOf.f 1 a0 a1 a2 = spec_ModeOf.f 1 a0 a1 a2 := rfl
  unfold laws_FnExactModeOf.f
  rw [e]
  have h : ∃ r, spec_ModeOf.f 1 a0 a1 a2 = some r := by
    unfold spec_ModeOf.f
    simp only [spec_ModeOf.j0]
    repeat (split; all_goals first | exact ⟨_, rfl⟩ | skip)
  obtain ⟨r, hr⟩ := h
  rw [hr]
  simp

end Go.Proofs.Ytifcfkoohfbfoaa.Pure
