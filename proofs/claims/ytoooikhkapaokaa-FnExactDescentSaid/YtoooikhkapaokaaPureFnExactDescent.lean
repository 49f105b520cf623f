/- For all heights, slopes and distances the program's Descent answers what the reference's answers (FnExactDescent returns true); no condition. -/
import Derived.Test.YtoooikhkapaokaaPFnExactDescentx1
import Derived.Test.YtoooikhkapaokaaNum
namespace Go.Proofs.Ytoooikhkapaokaa.Pure.FnExactDescent
open Go.RowKit Go.Proofs.Ytoooikhkapaokaa.PFnExactDescent Go.Proofs.YtoooikhkapaokaaW.PrintWords Go.Proofs.YtoooikhkapaokaaW.PrintLast Go.Proofs.YtoooikhkapaokaaW.PrintMore Go.Proofs.Ytoooikhkapaokaa.Num
set_option linter.unusedVariables false
set_option linter.unusedSimpArgs false
theorem in_s (a b c : Int) : spec_l1In.f a b c = some (decide (b ≤ a) && decide (a ≤ c)) := by
  unfold spec_l1In.f
  by_cases h : a ≥ b
  · rw [if_pos h, decide_eq_true (show b ≤ a from h)]; rfl
  · rw [if_neg h, decide_eq_false (show ¬ b ≤ a from h)]; rfl
theorem in_i (a b c : Int) : impl_in.f a b c = some (decide (b ≤ a) && decide (a ≤ c)) := by
  unfold impl_in.f
  by_cases h : a ≥ b
  · rw [if_pos h, decide_eq_true (show b ≤ a from h)]; rfl
  · rw [if_neg h, decide_eq_false (show ¬ b ≤ a from h)]; rfl
theorem floor_i {a b : Int} (hb : 1 ≤ b) (h1 : -4611686018427387904 ≤ a) (h2 : a ≤ 4611686018427387904) : impl_floorOver.f a b = some (a / b) := by
  have hf := floor_tdiv (a := a) hb
  have ht := tdiv_in (M := 4611686018427387904) hb h1 h2
  have w : wrap64 (a.tdiv b) = a.tdiv b := w64 (by omega) (by omega)
  have w' : wrap64 (a.tdiv b - 1) = a.tdiv b - 1 := w64 (by omega) (by omega)
  have hbn : decide (b < 0) = false := decide_eq_false (by omega)
  unfold impl_floorOver.f
  rw [if_neg (show ¬ b = 0 by omega), w, w', hbn]
  by_cases hm : a.tmod b = 0
  · rw [if_pos hm, hf.1 hm]
  · rw [if_neg hm]
    by_cases ha : a < 0
    · rw [decide_eq_true ha, if_pos (by decide), hf.2.2.1 hm ha]
    · rw [decide_eq_false ha, if_neg (by decide), hf.2.1 hm (by omega)]
theorem ceil_i {a b : Int} (hb : 1 ≤ b) (h1 : -4611686018427387904 ≤ a) (h2 : a ≤ 4611686018427387904) : impl_ceilOver.f a b = some (-((-a) / b)) := by
  have hd := ediv_in (a := -a) (M := 4611686018427387904) hb (by omega) (by omega)
  unfold impl_ceilOver.f
  rw [w64 (a := -a) (by omega) (by omega), floor_i hb (by omega) (by omega), Option.bind_some, w64 (by omega) (by omega)]
theorem FnExactDescent : laws_FnExactDescent.Pure := by
  intro a b c _ _ _
  refine ⟨1, ?_⟩
  have h : ∃ r, spec_Descent.f 1 a b c = some r ∧ impl_Descent.f a b c = some r := by
    simp only [spec_Descent.f, impl_Descent.f, spec_Descent.j0, in_s, in_i, Option.bind_some]
    by_cases h1 : 0 ≤ a ∧ a ≤ 100000
    · rw [decide_eq_true h1.1, decide_eq_true h1.2]
      by_cases h2 : 1 ≤ b ∧ b ≤ 1000
      · rw [decide_eq_true h2.1, decide_eq_true h2.2]
        by_cases h3 : 0 ≤ c ∧ c ≤ 100000
        · rw [decide_eq_true h3.1, decide_eq_true h3.2]
          have hb := ediv_in (a := a + b - 1) (M := 200000) h2.1 (by omega) (by omega)
          have hw : wrap64 (wrap64 (a + b) - 1) = a + b - 1 := by rw [w64 (a := a + b) (by omega) (by omega), w64 (by omega) (by omega)]
          rw [ceil_i h2.1 (by omega) (by omega), ceil_ediv h2.1, hw, if_neg (show ¬ b = 0 by omega), Int.tdiv_eq_ediv_of_nonneg (show 0 ≤ a + b - 1 by omega)]
          generalize (a + b - 1) / b = q at hb
          simp only [Bool.and_self, Bool.not_true, Bool.false_eq_true, if_true, if_false, Option.bind_some]
          rw [w64 (a := q) (by omega) (by omega)]
          by_cases hq : q > c
          · rw [if_pos hq]; exact ⟨_, rfl, rfl⟩
          · rw [if_neg hq]; exact ⟨_, rfl, rfl⟩
        · have : (decide (0 ≤ c) && decide (c ≤ 100000)) = false := by
            rw [← Bool.decide_and]; exact decide_eq_false h3
          rw [this]; exact ⟨_, rfl, rfl⟩
      · have : (decide (1 ≤ b) && decide (b ≤ 1000)) = false := by
          rw [← Bool.decide_and]; exact decide_eq_false h2
        rw [this]; exact ⟨_, rfl, rfl⟩
    · have : (decide (0 ≤ a) && decide (a ≤ 100000)) = false := by
        rw [← Bool.decide_and]; exact decide_eq_false h1
      rw [this]; exact ⟨_, rfl, rfl⟩
  obtain ⟨r, hs, hi⟩ := h
  simp [laws_FnExactDescent.f, hs, hi]
end Go.Proofs.Ytoooikhkapaokaa.Pure.FnExactDescent
namespace Go.Proofs.Ytoooikhkapaokaa.Pure
theorem FnExactDescent : Go.Proofs.Ytoooikhkapaokaa.PFnExactDescent.laws_FnExactDescent.Pure := FnExactDescent.FnExactDescent
end Go.Proofs.Ytoooikhkapaokaa.Pure
