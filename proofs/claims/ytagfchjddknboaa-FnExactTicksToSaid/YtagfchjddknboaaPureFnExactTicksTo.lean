/- For every Track the program's TicksTo answers what the reference's answers (FnExactTicksTo returns true); no condition. -/
import Derived.Test.YtagfchjddknboaaAskFnExactTicksTo
import Derived.Test.YtagfchjddknboaaNum
namespace Go.Proofs.Ytagfchjddknboaa.Pure.FnExactTicksTo
open Go.RowKit Go.Proofs.Ytagfchjddknboaa.PFnExactTicksTo Go.Proofs.YtagfchjddknboaaW.PrintWords Go.Proofs.YtagfchjddknboaaW.PrintLast Go.Proofs.YtagfchjddknboaaW.PrintMore Go.Proofs.Ytagfchjddknboaa.Num
set_option linter.unusedVariables false
set_option linter.unusedSimpArgs false
theorem in_s (a b c : Int) : spec_l1In.f a b c = some (decide (b ≤ a) && decide (a ≤ c)) := by
  unfold spec_l1In.f
  by_cases h : a ≥ b
  · rw [if_pos h, decide_eq_true (show b ≤ a from h)]; rfl
  · rw [if_neg h, decide_eq_false (show ¬ b ≤ a from h)]; rfl
theorem floor_i {a b : Int} (hb : 1 ≤ b) (h1 : -4611686018427387904 ≤ a) (h2 : a ≤ 4611686018427387904) : impl_floorOver.f a b = some (a / b) := by
  have hf := floor_tdiv (a := a) hb
  have ht := tdiv_in (M := 4611686018427387904) hb h1 h2
  have w : wrap64 (a.tdiv b) = a.tdiv b := w64 (by omega) (by omega)
  have w' : wrap64 (a.tdiv b - 1) = a.tdiv b - 1 := w64 (by omega) (by omega)
  have hbn : decide (b < 0) = false := decide_eq_false (by omega)
  unfold impl_floorOver.f
  rw [if_neg (show ¬ b = 0 by omega), w, w', hbn]
  by_cases hm : a.tmod b = 0
  · rw [if_pos hm, hf.1 hm]
  · rw [if_neg hm]
    by_cases ha : a < 0
    · rw [decide_eq_true ha, if_pos (by decide), hf.2.2.1 hm ha]
    · rw [decide_eq_false ha, if_neg (by decide), hf.2.1 hm (by omega)]
theorem ceil_i {a b : Int} (hb : 1 ≤ b) (h1 : -4611686018427387904 ≤ a) (h2 : a ≤ 4611686018427387904) : impl_ceilOver.f a b = some (-((-a) / b)) := by
  have hd := ediv_in (a := -a) (M := 4611686018427387904) hb (by omega) (by omega)
  unfold impl_ceilOver.f
  rw [w64 (a := -a) (by omega) (by omega), floor_i hb (by omega) (by omega), Option.bind_some, w64 (by omega) (by omega)]
theorem track (a b c d e f : Int) : spec_TrackOk.f a b c d e f = some true ∧ 0 ≤ d ∧ d ≤ 1000000 ∧ -1000 ≤ e ∧ e ≤ 1000 ∨ spec_TrackOk.f a b c d e f = some false := by
  have h : ∃ r, spec_OwnOk.f a b c f = some r := by
    simp only [spec_OwnOk.f, in_s, Option.bind_some, ites]
    exact ⟨_, rfl⟩
  obtain ⟨r, hr⟩ := h
  simp only [spec_TrackOk.f, hr, in_s, Option.bind_some, ites]
  cases r
  · right; rfl
  · by_cases hc : 0 ≤ d ∧ d ≤ 1000000 ∧ -1000 ≤ e ∧ e ≤ 1000
    · left
      obtain ⟨h1, h2, h3, h4⟩ := hc
      exact ⟨by rw [decide_eq_true h1, decide_eq_true h2, decide_eq_true h3, decide_eq_true h4]; rfl, h1, h2, h3, h4⟩
    · right
      congr 1
      simp only [Bool.true_and]
      by_cases h1 : 0 ≤ d
      · by_cases h2 : d ≤ 1000000
        · by_cases h3 : -1000 ≤ e
          · rw [decide_eq_false (show ¬ e ≤ 1000 from fun h4 => hc ⟨h1, h2, h3, h4⟩)]; simp
          · rw [decide_eq_false h3]; simp
        · rw [decide_eq_false h2]; simp
      · rw [decide_eq_false h1]; simp
theorem FnExactTicksTo : laws_FnExactTicksTo.Pure := by
  intro a b c d e f _ _ _ _ _ _
  have h1 : impl_TrackOk.f a b c d e f = spec_TrackOk.f a b c d e f := rfl
  have h2 : ∃ r, spec_TicksTo.f a b c d e f = some r ∧ impl_TicksTo.f a b c d e f = some r := by
    unfold spec_TicksTo.f impl_TicksTo.f
    rw [h1]
    rcases track a b c d e f with ⟨h, h3, h4, h5, h6⟩ | h
    · rw [h]
      simp only [Option.bind_some, if_true]
      by_cases he : e ≤ 0
      · rw [if_pos he, if_pos he]; exact ⟨_, rfl, rfl⟩
      · have he1 : 1 ≤ e := by omega
        rw [if_neg he, if_neg he, if_neg (show ¬ e = 0 by omega), ceil_i he1 (by omega) (by omega), Option.bind_some]
        refine ⟨_, rfl, ?_⟩
        have w : wrap64 (wrap64 (d + e) - 1) = d + e - 1 := by rw [w64 (a := d + e) (by omega) (by omega), w64 (by omega) (by omega)]
        have hb := ediv_in (a := d + e - 1) (M := 2000000) he1 (by omega) (by omega)
        rw [w, Int.tdiv_eq_ediv_of_nonneg (show 0 ≤ d + e - 1 by omega), ceil_ediv he1, w64 (by omega) (by omega)]
    · rw [h]; exact ⟨_, rfl, rfl⟩
  obtain ⟨r, hs, hi⟩ := h2
  unfold laws_FnExactTicksTo.f
  simp [laws_toTrack.f, hs, hi]
end Go.Proofs.Ytagfchjddknboaa.Pure.FnExactTicksTo
namespace Go.Proofs.Ytagfchjddknboaa.Pure
theorem FnExactTicksTo : Go.Proofs.Ytagfchjddknboaa.PFnExactTicksTo.laws_FnExactTicksTo.Pure := FnExactTicksTo.FnExactTicksTo
end Go.Proofs.Ytagfchjddknboaa.Pure
