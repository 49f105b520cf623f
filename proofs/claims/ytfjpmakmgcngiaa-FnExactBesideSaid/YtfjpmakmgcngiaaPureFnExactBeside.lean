/- For all three Places the program's Beside answers what the reference's answers (FnExactBeside returns true); no condition. -/
import Derived.Test.YtfjpmakmgcngiaaAskFnExactBeside
import Derived.Test.YtfjpmakmgcngiaaNum
namespace Go.Proofs.Ytfjpmakmgcngiaa.Pure.FnExactBeside
open Go.RowKit Go.Proofs.Ytfjpmakmgcngiaa.PFnExactBeside Go.Proofs.YtfjpmakmgcngiaaW.PrintWords Go.Proofs.YtfjpmakmgcngiaaW.PrintLast Go.Proofs.YtfjpmakmgcngiaaW.PrintMore Go.Proofs.Ytfjpmakmgcngiaa.Num
set_option linter.unusedVariables false
set_option linter.unusedSimpArgs false
theorem in_s (a b c : Int) : spec_l1In.f a b c = some (decide (b ≤ a) && decide (a ≤ c)) := by
  unfold spec_l1In.f
  by_cases h : a ≥ b
  · rw [if_pos h, decide_eq_true (show b ≤ a from h)]; rfl
  · rw [if_neg h, decide_eq_false (show ¬ b ≤ a from h)]; rfl
theorem place (a b : Int) : spec_l11Place.f a b = some true ∧ -2000 ≤ a ∧ a ≤ 2000 ∧ -2000 ≤ b ∧ b ≤ 2000 ∨ spec_l11Place.f a b = some false := by
  simp only [spec_l11Place.f, in_s, Option.bind_some, ites]
  by_cases h1 : -2000 ≤ a <;> by_cases h2 : a ≤ 2000 <;> by_cases h3 : -2000 ≤ b <;> by_cases h4 : b ≤ 2000 <;> simp [h1, h2, h3, h4]
theorem j0_some (x : Bool) (a b c d e f : Int) (h : x = true ∨ (¬ (a = c ∧ b = d) ∧ (-2000 ≤ a ∧ a ≤ 2000 ∧ -2000 ≤ b ∧ b ≤ 2000) ∧ -2000 ≤ c ∧ c ≤ 2000 ∧ -2000 ≤ d ∧ d ≤ 2000)) : ∃ r, spec_Beside.j0 1 x a b c d e f = some r := by
  simp only [spec_Beside.j0]
  rcases h with rfl | ⟨hn, ⟨h1, h2, h3, h4⟩, h5, h6, h7, h8⟩
  · exact ⟨_, rfl⟩
  · have hz : wrap64 (wrap64 (wrap64 (c - a) * wrap64 (c - a)) + wrap64 (wrap64 (d - b) * wrap64 (d - b))) ≠ 0 := by
      have s1 := sq_le (x := c - a) (A := 4000) (by omega) (by omega)
      have s2 := sq_le (x := d - b) (A := 4000) (by omega) (by omega)
      have n1 := sq_nonneg (c - a)
      have n2 := sq_nonneg (d - b)
      have p : c - a ≠ 0 ∨ d - b ≠ 0 := by omega
      have p1 : 1 ≤ (c - a) * (c - a) + (d - b) * (d - b) := by
        rcases p with p | p
        · have := sq_pos p; omega
        · have := sq_pos p; omega
      rw [w64 (a := c - a) (by omega) (by omega), w64 (a := d - b) (by omega) (by omega), w64 (a := (c - a) * (c - a)) (by omega) (by omega), w64 (a := (d - b) * (d - b)) (by omega) (by omega), w64 (by omega) (by omega)]
      omega
    rw [if_neg hz]
    repeat' split
    all_goals exact ⟨_, rfl⟩
theorem FnExactBeside : laws_FnExactBeside.Pure := by
  intro a b c d e f _ _ _ _ _ _
  have h1 : impl_Beside.f 1 a b c d e f = spec_Beside.f 1 a b c d e f := rfl
  have h2 : ∃ r, spec_Beside.f 1 a b c d e f = some r := by
    unfold spec_Beside.f
    rcases place a b with ⟨p, ha⟩ | p
    · rcases place c d with ⟨q, hc⟩ | q
      · rcases place e f with ⟨r, _⟩ | r
        · rw [p, q, r]
          simp only [Option.bind_some, if_true]
          apply j0_some
          by_cases hh : a = c ∧ b = d
          · left; simp [hh.1, hh.2]
          · right; exact ⟨hh, ha, hc⟩
        · rw [p, q, r]; exact j0_some true a b c d e f (.inl rfl)
      · rw [p, q]; exact j0_some true a b c d e f (.inl rfl)
    · rw [p]; exact j0_some true a b c d e f (.inl rfl)
  obtain ⟨r, hr⟩ := h2
  refine ⟨1, ?_⟩
  simp [laws_FnExactBeside.f, laws_toPlace.f, h1, hr]
end Go.Proofs.Ytfjpmakmgcngiaa.Pure.FnExactBeside
namespace Go.Proofs.Ytfjpmakmgcngiaa.Pure
theorem FnExactBeside : Go.Proofs.Ytfjpmakmgcngiaa.PFnExactBeside.laws_FnExactBeside.Pure := FnExactBeside.FnExactBeside
end Go.Proofs.Ytfjpmakmgcngiaa.Pure
