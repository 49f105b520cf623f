/- For every list, bounds and hold the program's Monitor answers what the reference's answers (FnExactMonitor returns true); no condition. -/
import Derived.Test.YtmhddkjiaiifmaaPFnExactMonitorx2
import Derived.Test.YtmhddkjiaiifmaaNum
namespace Go.Proofs.Ytmhddkjiaiifmaa.Pure.FnExactMonitor
open Go.RowKit Go.Proofs.Ytmhddkjiaiifmaa.PFnExactMonitor Go.Proofs.YtmhddkjiaiifmaaW.PrintWords Go.Proofs.YtmhddkjiaiifmaaW.PrintLast Go.Proofs.YtmhddkjiaiifmaaW.PrintMore Go.Proofs.Ytmhddkjiaiifmaa.Num
set_option linter.unusedVariables false
set_option linter.unusedSimpArgs false
theorem in_s (a b c : Int) : spec_l1In.f a b c = some (decide (b ≤ a) && decide (a ≤ c)) := by
  unfold spec_l1In.f
  by_cases h : a ≥ b
  · rw [if_pos h, decide_eq_true (show b ≤ a from h)]; rfl
  · rw [if_neg h, decide_eq_false (show ¬ b ≤ a from h)]; rfl
theorem in_i (a b c : Int) : impl_in.f a b c = some (decide (b ≤ a) && decide (a ≤ c)) := by
  unfold impl_in.f
  by_cases h : a ≥ b
  · rw [if_pos h, decide_eq_true (show b ≤ a from h)]; rfl
  · rw [if_neg h, decide_eq_false (show ¬ b ≤ a from h)]; rfl
theorem laws_toIntS_l0 (x0 : List Int) (hn : x0.length ≤ 4611686018427387904) : ∀ (d k i : Nat) (x3 : List Int), x0.length - i = d → i ≤ x0.length → d < k → x3.length = x0.length → (∀ j, j < i → x3[j]? = x0[j]?) → laws_toIntS.l0 k x0 x3 (i : Int) = some x0 := by
  intro d
  induction d with
  | zero =>
    intro k i x3 hd hi hk hl hj
    obtain ⟨k, rfl⟩ : ∃ m, k = m + 1 := ⟨k - 1, by omega⟩
    simp only [laws_toIntS.l0]
    rw [if_neg (by omega)]
    congr 1
    apply List.ext_getElem?
    intro j
    by_cases h : j < i
    · exact hj j h
    · rw [List.getElem?_eq_none (by omega), List.getElem?_eq_none (by omega)]
  | succ d ih =>
    intro k i x3 hd hi hk hl hj
    obtain ⟨k, rfl⟩ : ∃ m, k = m + 1 := ⟨k - 1, by omega⟩
    have hlt : i < x0.length := by omega
    simp only [laws_toIntS.l0]
    rw [if_pos (by omega), if_pos (by omega), if_pos (by omega), w64 (a := (i : Int) + 1) (by omega) (by omega), show (i : Int) + 1 = ((i + 1 : Nat) : Int) by omega]
    refine ih k (i + 1) _ (by omega) (by omega) (by omega) (by simpa using hl) ?_
    intro j hj'
    have hr : rd x0 (i : Int) = x0[i] := by
      show x0.getD (i : Int).toNat 0 = _
      rw [Int.toNat_natCast, List.getD_eq_getElem?_getD, List.getElem?_eq_getElem hlt]; rfl
    simp only [Int.toNat_natCast, hr]
    by_cases e : j = i
    · subst e
      rw [List.getElem?_set_self (by omega), List.getElem?_eq_getElem hlt]
    · rw [List.getElem?_set_ne (fun h => e h.symm)]
      exact hj j (by omega)
theorem laws_toIntS_eq (x0 : List Int) (k : Nat) (hn : x0.length ≤ 35184372088832) (hk : x0.length < k) : laws_toIntS.f k x0 = some x0 := by
  unfold laws_toIntS.f
  rw [if_pos (by omega), if_pos (by rw [Int.toNat_natCast]; omega), Int.toNat_natCast]
  exact laws_toIntS_l0 x0 (by omega) x0.length k 0 _ (by omega) (by omega) hk (by simp) (fun j hj => by omega)

theorem laws_eqIntS_l0 (x0 : List Int) (hn : x0.length ≤ 4611686018427387904) : ∀ (d k i : Nat), x0.length - i = d → i ≤ x0.length → d < k → laws_eqIntS.l0 k x0 x0 (i : Int) = some true := by
  intro d
  induction d with
  | zero =>
    intro k i hd hi hk
    obtain ⟨k, rfl⟩ : ∃ m, k = m + 1 := ⟨k - 1, by omega⟩
    simp only [laws_eqIntS.l0]
    rw [if_neg (by omega)]
  | succ d ih =>
    intro k i hd hi hk
    obtain ⟨k, rfl⟩ : ∃ m, k = m + 1 := ⟨k - 1, by omega⟩
    simp only [laws_eqIntS.l0]
    rw [if_pos (by omega), if_pos (by omega), if_pos (by omega), w64 (a := (i : Int) + 1) (by omega) (by omega), show (i : Int) + 1 = ((i + 1 : Nat) : Int) by omega]
    rw [if_pos trivial]
    exact ih k (i + 1) (by omega) (by omega) (by omega)
theorem laws_eqIntS_eq (x0 : List Int) (k : Nat) (hn : x0.length ≤ 4611686018427387904) (hk : x0.length < k) : laws_eqIntS.f k x0 x0 = some true := by
  unfold laws_eqIntS.f
  rw [if_pos rfl]
  exact laws_eqIntS_l0 x0 hn x0.length k 0 (by omega) (by omega) hk

theorem l0_eq (x0 : List Int) (lo hi hold : Int) (hh : 1 ≤ hold ∧ hold ≤ 100) (hn : x0.length ≤ 500) : ∀ (d k i : Nat) (row : Int), x0.length - i = d → i ≤ x0.length → d < k → 0 ≤ row → row < hold → ∃ r, spec_Monitor.l0 k x0 lo hi hold row (i : Int) = some r ∧ impl_Monitor.l0 k lo hi hold row x0 (x0.length : Int) (i : Int) = some r := by
  intro d
  induction d with
  | zero =>
    intro k i row hd hi hk h0 h1
    obtain ⟨k, rfl⟩ : ∃ m, k = m + 1 := ⟨k - 1, by omega⟩
    simp only [spec_Monitor.l0, impl_Monitor.l0]
    rw [if_neg (show ¬ (i : Int) < (x0.length : Int) by omega), if_neg (show ¬ (i : Int) < (x0.length : Int) by omega)]
    exact ⟨_, rfl, rfl⟩
  | succ d ih =>
    intro k i row hd hi hk h0 h1
    obtain ⟨k, rfl⟩ : ∃ m, k = m + 1 := ⟨k - 1, by omega⟩
    simp only [spec_Monitor.l0, impl_Monitor.l0, in_s, in_i, Option.bind_some]
    rw [w64 (a := (i : Int) + 1) (by omega) (by omega), w64 (a := row + 1) (by omega) (by omega), if_pos (show (i : Int) < (x0.length : Int) by omega), if_pos (show (0 : Int) ≤ (i : Int) by omega), if_pos (show (i : Int) < (x0.length : Int) by omega), if_pos (show (0 : Int) ≤ (i : Int) by omega), if_pos (show (i : Int) < (x0.length : Int) by omega), show (i : Int) + 1 = ((i + 1 : Nat) : Int) by omega]
    split
    · rw [if_neg (show ¬ (0 : Int) ≥ hold by omega), if_neg (show ¬ (0 : Int) = hold by omega)]
      exact ih k (i + 1) 0 (by omega) (by omega) (by omega) (by omega) (by omega)
    · by_cases c : row + 1 = hold
      · rw [if_pos (show row + 1 ≥ hold by omega), if_pos c]
        exact ⟨_, rfl, rfl⟩
      · rw [if_neg (show ¬ row + 1 ≥ hold by omega), if_neg c]
        exact ih k (i + 1) _ (by omega) (by omega) (by omega) (by omega) (by omega)
theorem FnExactMonitor : laws_FnExactMonitor.Pure := by
  intro l lo hi hold hl hl8 _ _ _ _
  refine ⟨l.length + 4, ?_⟩
  unfold laws_FnExactMonitor.f
  by_cases h : (l.length : Int) > 1048576
  · rw [if_pos h]
  · rw [if_neg h]
    have ht := laws_toIntS_eq l (l.length + 4) (by omega) (by omega)
    have ht' := laws_toIntS_eq l (l.length + 3) (by omega) (by omega)
    have he := laws_eqIntS_eq l (l.length + 3) (by omega) (by omega)
    have hr : ∃ r, spec_Monitor.f (l.length + 4) l lo hi hold = some r ∧ impl_Monitor.f (l.length + 4) l lo hi hold = some r := by
      unfold spec_Monitor.f impl_Monitor.f
      by_cases h1 : (l.length : Int) > 500
      · rw [if_pos h1, if_pos h1]
        exact ⟨_, rfl, rfl⟩
      · rw [if_neg h1, if_neg h1]
        by_cases h2 : lo > hi
        · rw [if_pos h2, if_pos h2]
          exact ⟨_, rfl, rfl⟩
        · rw [if_neg h2, if_neg h2, in_s, in_i, Option.bind_some, Option.bind_some]
          by_cases h3 : 1 ≤ hold ∧ hold ≤ 100
          · rw [decide_eq_true h3.1, decide_eq_true h3.2]
            simp only [Bool.and_self, Bool.not_true, spec_Monitor.j0, impl_Monitor.j0, Bool.false_eq_true, if_false]
            exact l0_eq l lo hi hold h3 (by omega) l.length _ 0 0 (by omega) (by omega) (by omega) (by omega) (by omega)
          · have : (decide (1 ≤ hold) && decide (hold ≤ 100)) = false := by
              rw [← Bool.decide_and]; exact decide_eq_false h3
            rw [this]
            exact ⟨_, rfl, rfl⟩
    obtain ⟨r, hs, hi⟩ := hr
    simp only [ht, hs, hi, Option.bind_some, if_true, bne_self_eq_false, laws_FnExactMonitor.j0, ht', he, Bool.false_eq_true, if_false]
end Go.Proofs.Ytmhddkjiaiifmaa.Pure.FnExactMonitor
namespace Go.Proofs.Ytmhddkjiaiifmaa.Pure
theorem FnExactMonitor : Go.Proofs.Ytmhddkjiaiifmaa.PFnExactMonitor.laws_FnExactMonitor.Pure := FnExactMonitor.FnExactMonitor
end Go.Proofs.Ytmhddkjiaiifmaa.Pure
