/- For every Pump7, want and leak the program's PumpTick answers what the reference's answers (FnExactPumpTick returns true); no condition. -/
import Derived.Test.YtbbfibokedlkkaaAskFnExactPumpTick
import Derived.Test.YtbbfibokedlkkaaNum
namespace Go.Proofs.Ytbbfibokedlkkaa.Pure.FnExactPumpTick
open Go.RowKit Go.Proofs.Ytbbfibokedlkkaa.PFnExactPumpTick Go.Proofs.YtbbfibokedlkkaaW.PrintWords Go.Proofs.YtbbfibokedlkkaaW.PrintLast Go.Proofs.YtbbfibokedlkkaaW.PrintMore Go.Proofs.Ytbbfibokedlkkaa.Num
set_option linter.unusedVariables false
set_option linter.unusedSimpArgs false
theorem in_s (a b c : Int) : spec_l1In.f a b c = some (decide (b ≤ a) && decide (a ≤ c)) := by
  unfold spec_l1In.f
  by_cases h : a ≥ b
  · rw [if_pos h, decide_eq_true (show b ≤ a from h)]; rfl
  · rw [if_neg h, decide_eq_false (show ¬ b ≤ a from h)]; rfl
theorem in_i (a b c : Int) : impl_in.f a b c = some (decide (b ≤ a) && decide (a ≤ c)) := by
  unfold impl_in.f
  by_cases h : a ≥ b
  · rw [if_pos h, decide_eq_true (show b ≤ a from h)]; rfl
  · rw [if_neg h, decide_eq_false (show ¬ b ≤ a from h)]; rfl
theorem FnExactPumpTick : laws_FnExactPumpTick.Pure := by
  intro s p f want leak _ _ _ _
  refine ⟨9, ?_⟩
  have h : ∃ a b c d, spec_PumpTick.f 9 s p f want leak = some (a, b, c, d) ∧ impl_PumpTick.f 9 s p f want leak = some (a, b, c, d) := by
    simp only [spec_PumpTick.f, impl_PumpTick.f, spec_PumpTick.j0, impl_PumpTick.j0, in_s, in_i, Option.bind_some]
    by_cases h1 : 0 ≤ s ∧ s ≤ 2
    · rw [decide_eq_true h1.1, decide_eq_true h1.2]
      by_cases h2 : 0 ≤ p ∧ p ≤ 5000
      · rw [decide_eq_true h2.1, decide_eq_true h2.2]
        by_cases h3 : 0 ≤ f ∧ f ≤ 5
        · rw [decide_eq_true h3.1, decide_eq_true h3.2]
          by_cases h4 : 0 ≤ leak ∧ leak ≤ 500
          · rw [decide_eq_true h4.1, decide_eq_true h4.2]
            have w1 : wrap64 (p + 200) = p + 200 := w64 (by omega) (by omega)
            have w2 : wrap64 (-leak) = -leak := w64 (by omega) (by omega)
            have w3 : wrap64 (-leak + 200) = -leak + 200 := w64 (by omega) (by omega)
            have w4 : wrap64 (f + 1) = f + 1 := w64 (by omega) (by omega)
            have on : ∀ v : Bool, ∃ a b c d, spec_PumpTick.j1 8 leak v 1 p f = some (a, b, c, d) ∧ impl_PumpTick.j2 7 leak v 1 p f = some (a, b, c, d) := by
              intro v
              have e : ∃ t, 0 ≤ t ∧ t ≤ 5000 ∧ (spec_l1Min.f 5000 (wrap64 (p + (-leak + 200)))).bind (fun t => spec_l1Max.f 0 t) = some t ∧ impl_held.f (wrap64 (p + 200 - leak)) 0 5000 = some t := by
                rw [w64 (a := p + (-leak + 200)) (by omega) (by omega), w64 (a := p + 200 - leak) (by omega) (by omega)]
                refine ⟨mx (mn (p + 200 - leak) 5000) 0, by unfold mx mn; omega, by unfold mx mn; omega, ?_, rfl⟩
                unfold spec_l1Min.f spec_l1Max.f
                by_cases c : (5000 : Int) < p + (-leak + 200)
                · rw [if_pos c, Option.bind_some, if_neg (by omega)]; congr 1; unfold mx mn; omega
                · rw [if_neg c, Option.bind_some]
                  by_cases c2 : (0 : Int) > p + (-leak + 200)
                  · rw [if_pos c2]; congr 1; unfold mx mn; omega
                  · rw [if_neg c2]; congr 1; unfold mx mn; omega
              obtain ⟨t, ht0, ht1, hs, hi⟩ := e
              obtain ⟨t', hs1, hs2⟩ := Option.bind_eq_some_iff.1 hs
              simp only [spec_PumpTick.j1, spec_PumpTick.j2, spec_PumpTick.j3, impl_PumpTick.j2, impl_PumpTick.j3, impl_PumpTick.j4, if_true, w1, w2, w3, w4, hs1, hs2, hi, Option.bind_some]
              cases v
              · by_cases ht : t < 1000
                · simp only [decide_eq_true ht, if_true, spec_l1Min.f, Option.bind_some, Bool.false_eq_true, if_false]
                  by_cases hf : (5 : Int) < f + 1
                  · rw [if_pos hf]
                    have : mn (f + 1) 5 = 5 := by unfold mn; omega
                    rw [this]
                    exact ⟨_, _, _, _, rfl, rfl⟩
                  · rw [if_neg hf]
                    have : mn (f + 1) 5 = f + 1 := by unfold mn; omega
                    rw [this, Option.bind_some]
                    by_cases h5 : f + 1 = 5
                    · rw [if_pos h5]; exact ⟨_, _, _, _, rfl, rfl⟩
                    · rw [if_neg h5]; exact ⟨_, _, _, _, rfl, rfl⟩
                · simp only [decide_eq_false ht, Bool.false_eq_true, if_false]
                  exact ⟨_, _, _, _, rfl, rfl⟩
              · exact ⟨_, _, _, _, rfl, rfl⟩
            have off : ∀ (v : Bool) (u : Int), u ≠ 1 → ∃ a b c d, spec_PumpTick.j1 8 leak v u p f = some (a, b, c, d) ∧ impl_PumpTick.j2 7 leak v u p f = some (a, b, c, d) := by
              intro v u hu
              have e : ∃ t, (spec_l1Min.f 5000 (wrap64 (p + -leak))).bind (fun t => spec_l1Max.f 0 t) = some t ∧ impl_held.f (wrap64 (p - leak)) 0 5000 = some t := by
                rw [w64 (a := p + -leak) (by omega) (by omega), w64 (a := p - leak) (by omega) (by omega)]
                refine ⟨mx (mn (p - leak) 5000) 0, ?_, rfl⟩
                unfold spec_l1Min.f spec_l1Max.f
                by_cases c : (5000 : Int) < p + -leak
                · omega
                · rw [if_neg c, Option.bind_some]
                  by_cases c2 : (0 : Int) > p + -leak
                  · rw [if_pos c2]; congr 1; unfold mx mn; omega
                  · rw [if_neg c2]; congr 1; unfold mx mn; omega
              obtain ⟨t, hs, hi⟩ := e
              obtain ⟨t', hs1, hs2⟩ := Option.bind_eq_some_iff.1 hs
              simp only [spec_PumpTick.j1, spec_PumpTick.j2, spec_PumpTick.j3, impl_PumpTick.j2, impl_PumpTick.j3, impl_PumpTick.j4, if_neg hu, w1, w2, w3, w4, hs1, hs2, hi, Option.bind_some]
              cases v <;> exact ⟨_, _, _, _, rfl, rfl⟩
            simp only [Bool.and_self, if_true, Option.bind_some, Bool.not_true, impl_PumpTick.j1, Bool.false_eq_true, if_false]
            by_cases hs : s = 2
            · rw [if_pos hs, if_pos hs]; exact off _ _ (by omega)
            · rw [if_neg hs, if_neg hs]
              cases want
              · simp only [Bool.false_eq_true, if_false]; exact off _ _ (by omega)
              · simp only [if_true]; exact on _
          · have : (decide (0 ≤ leak) && decide (leak ≤ 500)) = false := by
              rw [← Bool.decide_and]; exact decide_eq_false h4
            rw [this]; exact ⟨_, _, _, _, rfl, rfl⟩
        · have : (decide (0 ≤ f) && decide (f ≤ 5)) = false := by
            rw [← Bool.decide_and]; exact decide_eq_false h3
          rw [this]; exact ⟨_, _, _, _, rfl, rfl⟩
      · have : (decide (0 ≤ p) && decide (p ≤ 5000)) = false := by
          rw [← Bool.decide_and]; exact decide_eq_false h2
        rw [this]; exact ⟨_, _, _, _, rfl, rfl⟩
    · have : (decide (0 ≤ s) && decide (s ≤ 2)) = false := by
        rw [← Bool.decide_and]; exact decide_eq_false h1
      rw [this]; exact ⟨_, _, _, _, rfl, rfl⟩
  obtain ⟨a, b, c, d, hs, hi⟩ := h
  simp [laws_FnExactPumpTick.f, laws_toPump7.f, laws_eqPump7.f, hs, hi]
end Go.Proofs.Ytbbfibokedlkkaa.Pure.FnExactPumpTick
namespace Go.Proofs.Ytbbfibokedlkkaa.Pure
theorem FnExactPumpTick : Go.Proofs.Ytbbfibokedlkkaa.PFnExactPumpTick.laws_FnExactPumpTick.Pure := FnExactPumpTick.FnExactPumpTick
end Go.Proofs.Ytbbfibokedlkkaa.Pure
