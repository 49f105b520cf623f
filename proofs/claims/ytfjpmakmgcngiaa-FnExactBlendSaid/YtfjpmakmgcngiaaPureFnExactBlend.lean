/- For every Drift, Place and part the program's Blend answers what the reference's answers (FnExactBlend returns true); no condition. -/
import Derived.Test.YtfjpmakmgcngiaaAskFnExactBlend
import Derived.Test.YtfjpmakmgcngiaaNum
namespace Go.Proofs.Ytfjpmakmgcngiaa.Pure.FnExactBlend
open Go.RowKit Go.Proofs.Ytfjpmakmgcngiaa.PFnExactBlend Go.Proofs.YtfjpmakmgcngiaaW.PrintWords Go.Proofs.YtfjpmakmgcngiaaW.PrintLast Go.Proofs.YtfjpmakmgcngiaaW.PrintMore Go.Proofs.Ytfjpmakmgcngiaa.Num
set_option linter.unusedVariables false
set_option linter.unusedSimpArgs false
theorem in_s (a b c : Int) : spec_l1In.f a b c = some (decide (b ≤ a) && decide (a ≤ c)) := by
  unfold spec_l1In.f
  by_cases h : a ≥ b
  · rw [if_pos h, decide_eq_true (show b ≤ a from h)]; rfl
  · rw [if_neg h, decide_eq_false (show ¬ b ≤ a from h)]; rfl
theorem in_i (a b c : Int) : impl_in.f a b c = some (decide (b ≤ a) && decide (a ≤ c)) := by
  unfold impl_in.f
  by_cases h : a ≥ b
  · rw [if_pos h, decide_eq_true (show b ≤ a from h)]; rfl
  · rw [if_neg h, decide_eq_false (show ¬ b ≤ a from h)]; rfl
def goodD (x y vx vy : Int) : Bool := (decide (-1000000 ≤ x) && decide (x ≤ 1000000)) && ((decide (-1000000 ≤ y) && decide (y ≤ 1000000)) && ((decide (-1000000 ≤ vx) && decide (vx ≤ 1000000)) && (decide (-1000000 ≤ vy) && decide (vy ≤ 1000000))))
theorem driftOk_i (x y vx vy : Int) (k : Nat) (hk : 4 < k) : impl_driftOk.f k x y vx vy = some (goodD x y vx vy) := by
  obtain ⟨k, rfl⟩ : ∃ m, k = m + 5 := ⟨k - 5, by omega⟩
  unfold impl_driftOk.f impl_allIn.f
  have w1 : wrap64 (0 + 1) = 1 := by unfold wrap64; omega
  have w2 : wrap64 (1 + 1) = 2 := by unfold wrap64; omega
  have w3 : wrap64 (2 + 1) = 3 := by unfold wrap64; omega
  have w4 : wrap64 (3 + 1) = 4 := by unfold wrap64; omega
  have r0 : rd [x, y, vx, vy] 0 = x := rfl
  have r1 : rd [x, y, vx, vy] 1 = y := rfl
  have r2 : rd [x, y, vx, vy] 2 = vx := rfl
  have r3 : rd [x, y, vx, vy] 3 = vy := rfl
  have hl : (([x, y, vx, vy] : List Int).length : Int) = 4 := rfl
  simp only [impl_allIn.l0, hl, in_i, Option.bind_some, w1, w2, w3, w4, r0, r1, r2, r3]
  unfold goodD
  generalize (decide (-1000000 ≤ x) && decide (x ≤ 1000000)) = b1
  generalize (decide (-1000000 ≤ y) && decide (y ≤ 1000000)) = b2
  generalize (decide (-1000000 ≤ vx) && decide (vx ≤ 1000000)) = b3
  generalize (decide (-1000000 ≤ vy) && decide (vy ≤ 1000000)) = b4
  cases b1 <;> cases b2 <;> cases b3 <;> cases b4 <;> rfl
theorem drift_s (x y vx vy : Int) : spec_l11Drift.f x y vx vy = some (goodD x y vx vy) := by
  simp only [spec_l11Drift.f, in_s, Option.bind_some, ites]
  rfl
theorem place_s (a b : Int) : spec_l11Place.f a b = some ((decide (-2000 ≤ a) && decide (a ≤ 2000)) && (decide (-2000 ≤ b) && decide (b ≤ 2000))) := by
  simp only [spec_l11Place.f, in_s, Option.bind_some, ites]
theorem place_i (a b : Int) : impl_placeOk.f a b = some ((decide (-2000 ≤ a) && decide (a ≤ 2000)) && (decide (-2000 ≤ b) && decide (b ≤ 2000))) := by
  simp only [impl_placeOk.f, in_i, Option.bind_some, ites]
theorem blend (x y vx vy a b p : Int) : ∃ r, spec_Blend.f x y vx vy a b p = some r ∧ ∀ k, 4 < k → impl_Blend.f k x y vx vy a b p = some r := by
  simp only [spec_Blend.f, drift_s, place_s, in_s, Option.bind_some]
  have h : ∀ k, 4 < k → impl_Blend.f k x y vx vy a b p = spec_Blend.f x y vx vy a b p := by
    intro k hk
    simp only [impl_Blend.f, spec_Blend.f, drift_s, place_s, in_s, driftOk_i _ _ _ _ k hk, place_i, in_i]
  simp only [spec_Blend.f, drift_s, place_s, in_s, Option.bind_some] at h
  repeat' split
  all_goals (refine ⟨_, rfl, fun k hk => ?_⟩; rw [h k hk]; simp only [*, if_true, if_false, Bool.false_eq_true])
theorem FnExactBlend : laws_FnExactBlend.Pure := by
  intro x y vx vy a b p _ _ _ _ _ _ _
  refine ⟨5, ?_⟩
  obtain ⟨⟨r1, r2, r3, r4, r5⟩, hs, hi⟩ := blend x y vx vy a b p
  simp [laws_FnExactBlend.f, laws_toPlace.f, laws_toDrift.f, laws_eqDrift.f, hs, hi 5 (by omega)]
end Go.Proofs.Ytfjpmakmgcngiaa.Pure.FnExactBlend
namespace Go.Proofs.Ytfjpmakmgcngiaa.Pure
theorem FnExactBlend : Go.Proofs.Ytfjpmakmgcngiaa.PFnExactBlend.laws_FnExactBlend.Pure := FnExactBlend.FnExactBlend
end Go.Proofs.Ytfjpmakmgcngiaa.Pure
