/- For every Pilot the program's PilotOk answers what the reference's answers (FnExactPilotOk returns true); no condition. -/
import Derived.Test.YtdodiflcmjbfdaaAskFnExactPilotOk
import Derived.Test.YtdodiflcmjbfdaaNum
namespace Go.Proofs.Ytdodiflcmjbfdaa.Pure.FnExactPilotOk
open Go.RowKit Go.Proofs.Ytdodiflcmjbfdaa.PFnExactPilotOk Go.Proofs.YtdodiflcmjbfdaaW.PrintWords Go.Proofs.YtdodiflcmjbfdaaW.PrintLast Go.Proofs.YtdodiflcmjbfdaaW.PrintMore Go.Proofs.Ytdodiflcmjbfdaa.Num
set_option linter.unusedVariables false
set_option linter.unusedSimpArgs false
theorem in_s (a b c : Int) : spec_l1In.f a b c = some (decide (b ≤ a) && decide (a ≤ c)) := by
  unfold spec_l1In.f
  by_cases h : a ≥ b
  · rw [if_pos h, decide_eq_true (show b ≤ a from h)]; rfl
  · rw [if_neg h, decide_eq_false (show ¬ b ≤ a from h)]; rfl
theorem in_i (a b c : Int) : impl_in.f a b c = some (decide (b ≤ a) && decide (a ≤ c)) := by
  unfold impl_in.f
  by_cases h : a ≥ b
  · rw [if_pos h, decide_eq_true (show b ≤ a from h)]; rfl
  · rw [if_neg h, decide_eq_false (show ¬ b ≤ a from h)]; rfl
theorem FnExactPilotOk : laws_FnExactPilotOk.Pure := by
  intro a b c d e f g h i _ _ _ _ _ _ _ _
  refine ⟨2, ?_⟩
  have ee : impl_PilotOk.f 2 a b c d e f g h i = spec_PilotOk.f a b c d e f g h i := by
    simp only [spec_PilotOk.f, impl_PilotOk.f, impl_PilotOk.j0, in_s, in_i, Option.bind_some, ites]
    generalize (decide (0 ≤ a) && decide (a ≤ 4)) = x1
    generalize (decide (0 ≤ b) && decide (b ≤ 3)) = x2
    generalize (decide (0 ≤ c) && decide (c ≤ 60000)) = x3
    generalize (decide (0 ≤ d) && decide (d ≤ 60000)) = x4
    generalize (decide (-100 ≤ e) && decide (e ≤ 100)) = x5
    generalize (decide (0 ≤ f) && decide (f ≤ 359)) = x6
    generalize (decide (0 ≤ g) && decide (g ≤ 359)) = x7
    generalize (decide (-10000 ≤ h) && decide (h ≤ 10000)) = x8
    cases x1 <;> cases x2 <;> cases x3 <;> cases x4 <;> cases x5 <;> rfl
  have hs : ∃ r, spec_PilotOk.f a b c d e f g h i = some r := by
    simp only [spec_PilotOk.f, in_s, Option.bind_some, ites]
    exact ⟨_, rfl⟩
  obtain ⟨r, hr⟩ := hs
  simp [laws_FnExactPilotOk.f, laws_toPilot.f, ee, hr]
end Go.Proofs.Ytdodiflcmjbfdaa.Pure.FnExactPilotOk
namespace Go.Proofs.Ytdodiflcmjbfdaa.Pure
theorem FnExactPilotOk : Go.Proofs.Ytdodiflcmjbfdaa.PFnExactPilotOk.laws_FnExactPilotOk.Pure := FnExactPilotOk.FnExactPilotOk
end Go.Proofs.Ytdodiflcmjbfdaa.Pure
