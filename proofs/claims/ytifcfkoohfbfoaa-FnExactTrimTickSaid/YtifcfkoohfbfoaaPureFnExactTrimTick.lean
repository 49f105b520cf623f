/- For all three arguments the program's TrimTick answers what the reference's answers (FnExactTrimTick returns true); no condition. -/
import Derived.Test.YtifcfkoohfbfoaaPFnExactTrimTickx1
namespace Go.Proofs.Ytifcfkoohfbfoaa.Pure
open Go.RowKit Go.Proofs.Ytifcfkoohfbfoaa.PFnExactTrimTick Go.Proofs.YtifcfkoohfbfoaaW.PrintWords Go.Proofs.YtifcfkoohfbfoaaW.PrintLast
namespace TrimTick

theorem in_t {a b c : Int} (h : b ≤ a ∧ a ≤ c) : spec_l1In.f a b c = some true := by
  unfold spec_l1In.f; rw [if_pos h.1, decide_eq_true h.2]
theorem in_f {a b c : Int} (h : ¬ (b ≤ a ∧ a ≤ c)) : spec_l1In.f a b c = some false := by
  unfold spec_l1In.f
  by_cases h1 : b ≤ a
  · rw [if_pos h1, decide_eq_false (fun h2 => h ⟨h1, h2⟩)]
  · rw [if_neg h1]
theorem j0_eq (k : Nat) (a0 a1 a2 : Int) (b : Bool) (h1 : -1000 ≤ a0) (h2 : a0 ≤ 1000) : impl_TrimTick.j0 k a0 a1 a2 b = spec_TrimTick.j0 k a0 a1 a2 b := by
  cases k with
  | zero => rfl
  | succ k =>
    have u : wrap64 (a0 + 1) = a0 + 1 := by unfold wrap64; omega
    have d : wrap64 (a0 - 1) = a0 - 1 := by unfold wrap64; omega
    have p : impl_held.f (a0 + 1) (-1000) 1000 = spec_l1Min.f 1000 (a0 + 1) := by
      by_cases c : (1000 : Int) < a0 + 1
      · simp only [impl_held.f, spec_l1Min.f]; rw [if_pos c]; congr 1; unfold mx mn; omega
      · simp only [impl_held.f, spec_l1Min.f]; rw [if_neg c]; congr 1; unfold mx mn; omega
    have q : impl_held.f (a0 - 1) (-1000) 1000 = spec_l1Max.f (-1000) (a0 - 1) := by
      by_cases c : (-1000 : Int) > a0 - 1
      · simp only [impl_held.f, spec_l1Max.f]; rw [if_pos c]; congr 1; unfold mx mn; omega
      · simp only [impl_held.f, spec_l1Max.f]; rw [if_neg c]; congr 1; unfold mx mn; omega
    simp only [impl_TrimTick.j0, spec_TrimTick.j0]
    rw [u, d, p, q]
theorem j0_true (a0 a1 a2 : Int) : spec_TrimTick.j0 1 a0 a1 a2 true = some (0, 0, false) := rfl
theorem i0_true (a0 a1 a2 : Int) : impl_TrimTick.j0 1 a0 a1 a2 true = some (0, 0, false) := rfl
theorem f_eq (a0 a1 a2 : Int) : impl_TrimTick.f 1 a0 a1 a2 = spec_TrimTick.f 1 a0 a1 a2 := by
  have ei : impl_in.f = spec_l1In.f := rfl
  unfold impl_TrimTick.f spec_TrimTick.f
  rw [ei]
  by_cases h : -1000 ≤ a0 ∧ a0 ≤ 1000
  · rw [in_t h]
    simp only [j0_eq _ _ _ _ _ h.1 h.2]
  · rw [in_f h]
    rfl
theorem f_some (a0 a1 a2 : Int) : ∃ r, spec_TrimTick.f 1 a0 a1 a2 = some r := by
  have hj : ∀ b, ∃ r, spec_TrimTick.j0 1 a0 a1 a2 b = some r := by
    intro b
    simp only [spec_TrimTick.j0, spec_l1Min.f, spec_l1Max.f]
    repeat' split
    all_goals exact ⟨_, rfl⟩
  have hi : ∀ a b c : Int, ∃ r, spec_l1In.f a b c = some r := by
    intro a b c; unfold spec_l1In.f; split <;> exact ⟨_, rfl⟩
  unfold spec_TrimTick.f
  obtain ⟨x, hx⟩ := hi a0 (-1000) 1000
  obtain ⟨y, hy⟩ := hi a1 (-1000) 1000
  obtain ⟨z, hz⟩ := hi a2 0 9
  rw [hx, hy, hz]
  simp only [Option.bind_some]
  repeat' split
  all_goals exact hj _
end TrimTick
open TrimTick
theorem FnExactTrimTick : laws_FnExactTrimTick.Pure := by
  intro a0 a1 a2 _ _ _
  refine ⟨1, ?_⟩
  unfold laws_FnExactTrimTick.f
  rw [f_eq]
  obtain ⟨r, hr⟩ := f_some a0 a1 a2
  rw [hr]
  simp

end Go.Proofs.Ytifcfkoohfbfoaa.Pure
