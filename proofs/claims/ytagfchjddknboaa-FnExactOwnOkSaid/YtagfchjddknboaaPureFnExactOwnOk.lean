/- For every Own the program's OwnOk answers what the reference's answers (FnExactOwnOk returns true); no condition. -/
import Derived.Test.YtagfchjddknboaaAskFnExactOwnOk
namespace Go.Proofs.Ytagfchjddknboaa.Pure
open Go.RowKit Go.Proofs.Ytagfchjddknboaa.PFnExactOwnOk Go.Proofs.YtagfchjddknboaaW.PrintWords Go.Proofs.YtagfchjddknboaaW.PrintLast

theorem FnExactOwnOk : laws_FnExactOwnOk.Pure := by
  intro a b c d _ _ _ _
  have e : impl_OwnOk.f a b c d = spec_OwnOk.f a b c d := rfl
  have hi : ∀ x y z : Int, ∃ r, spec_l1In.f x y z = some r := by
    intro x y z; unfold spec_l1In.f; split <;> exact ⟨_, rfl⟩
  have h : ∃ r, spec_OwnOk.f a b c d = some r := by
    obtain ⟨x, hx⟩ := hi a 1 1000000
    obtain ⟨y, hy⟩ := hi b 0 60000
    obtain ⟨z, hz⟩ := hi c (-200) 200
    obtain ⟨u, hu⟩ := hi d 0 2
    unfold spec_OwnOk.f
    rw [hx, hy, hz, hu]
    simp only [Option.bind_some]
    repeat' split
    all_goals exact ⟨_, rfl⟩
  obtain ⟨r, hr⟩ := h
  unfold laws_FnExactOwnOk.f
  simp [laws_toOwn.f, e, hr]

end Go.Proofs.Ytagfchjddknboaa.Pure
