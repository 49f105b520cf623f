/- For every Track the program's TrackOk answers what the reference's answers (FnExactTrackOk returns true); no condition. -/
import Derived.Test.YtagfchjddknboaaAskFnExactTrackOk
import Derived.Test.YtagfchjddknboaaNum
namespace Go.Proofs.Ytagfchjddknboaa.Pure.FnExactTrackOk
open Go.RowKit Go.Proofs.Ytagfchjddknboaa.PFnExactTrackOk Go.Proofs.YtagfchjddknboaaW.PrintWords Go.Proofs.YtagfchjddknboaaW.PrintLast Go.Proofs.YtagfchjddknboaaW.PrintMore Go.Proofs.Ytagfchjddknboaa.Num
set_option linter.unusedVariables false
set_option linter.unusedSimpArgs false
theorem in_s (a b c : Int) : spec_l1In.f a b c = some (decide (b ≤ a) && decide (a ≤ c)) := by
  unfold spec_l1In.f
  by_cases h : a ≥ b
  · rw [if_pos h, decide_eq_true (show b ≤ a from h)]; rfl
  · rw [if_neg h, decide_eq_false (show ¬ b ≤ a from h)]; rfl
theorem FnExactTrackOk : laws_FnExactTrackOk.Pure := by
  intro a b c d e f _ _ _ _ _ _
  have h1 : impl_TrackOk.f a b c d e f = spec_TrackOk.f a b c d e f := rfl
  have h2 : ∃ r, spec_TrackOk.f a b c d e f = some r := by
    simp only [spec_TrackOk.f, spec_OwnOk.f, in_s, Option.bind_some, ites]
    exact ⟨_, rfl⟩
  obtain ⟨r, hr⟩ := h2
  unfold laws_FnExactTrackOk.f
  simp [laws_toTrack.f, h1, hr]
end Go.Proofs.Ytagfchjddknboaa.Pure.FnExactTrackOk
namespace Go.Proofs.Ytagfchjddknboaa.Pure
theorem FnExactTrackOk : Go.Proofs.Ytagfchjddknboaa.PFnExactTrackOk.laws_FnExactTrackOk.Pure := FnExactTrackOk.FnExactTrackOk
end Go.Proofs.Ytagfchjddknboaa.Pure
