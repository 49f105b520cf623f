/- For all lanes, near and hold the program's Fresh answers what the reference's answers, in new memory (FnExactFresh returns true); no condition. -/
import Derived.Test.YtmhddkjiaiifmaaPFnExactFreshx6
import Derived.Test.YtmhddkjiaiifmaaNum
namespace Go.Proofs.Ytmhddkjiaiifmaa.Pure.FnExactFresh
open Go.RowKit Go.Proofs.Ytmhddkjiaiifmaa.PFnExactFresh Go.Proofs.YtmhddkjiaiifmaaW.PrintWords Go.Proofs.YtmhddkjiaiifmaaW.PrintLast Go.Proofs.YtmhddkjiaiifmaaW.PrintMore Go.Proofs.Ytmhddkjiaiifmaa.Num
set_option linter.unusedVariables false
set_option linter.unusedSimpArgs false
theorem in_s (a b c : Int) : spec_l1In.f a b c = some (decide (b ≤ a) && decide (a ≤ c)) := by
  unfold spec_l1In.f
  by_cases h : a ≥ b
  · rw [if_pos h, decide_eq_true (show b ≤ a from h)]; rfl
  · rw [if_neg h, decide_eq_false (show ¬ b ≤ a from h)]; rfl
theorem in_i (a b c : Int) : impl_in.f a b c = some (decide (b ≤ a) && decide (a ≤ c)) := by
  unfold impl_in.f
  by_cases h : a ≥ b
  · rw [if_pos h, decide_eq_true (show b ≤ a from h)]; rfl
  · rw [if_neg h, decide_eq_false (show ¬ b ≤ a from h)]; rfl
/-- All numbers are in bounds. -/
def All (xs : List Int) (lo hi : Int) : Prop := ∀ j : Nat, j < xs.length → lo ≤ rd xs (j : Int) ∧ rd xs (j : Int) ≤ hi
/-- Each number is above the one ahead. -/
def Rise (xs : List Int) : Prop := ∀ j : Nat, 1 ≤ j → j < xs.length → rd xs ((j - 1 : Nat) : Int) < rd xs (j : Int)
theorem allIn_l0 (xs : List Int) (lo hi : Int) (hn : xs.length ≤ 4611686018427387904) : ∀ (d k i : Nat), xs.length - i = d → i ≤ xs.length → d < k → ∃ b, impl_allIn.l0 k lo hi xs (xs.length : Int) (i : Int) = some b ∧ (b = true ↔ ∀ j : Nat, i ≤ j → j < xs.length → lo ≤ rd xs (j : Int) ∧ rd xs (j : Int) ≤ hi) := by
  intro d
  induction d with
  | zero =>
    intro k i hd hi' hk
    obtain ⟨k, rfl⟩ : ∃ m, k = m + 1 := ⟨k - 1, by omega⟩
    simp only [impl_allIn.l0]
    rw [if_neg (by omega)]
    exact ⟨true, rfl, by simp; intro j h1 h2; omega⟩
  | succ d ih =>
    intro k i hd hi' hk
    obtain ⟨k, rfl⟩ : ∃ m, k = m + 1 := ⟨k - 1, by omega⟩
    simp only [impl_allIn.l0, in_i, Option.bind_some]
    rw [if_pos (by omega), if_pos (by omega), if_pos (by omega), w64 (a := (i : Int) + 1) (by omega) (by omega), show (i : Int) + 1 = ((i + 1 : Nat) : Int) by omega, ← Bool.decide_and]
    by_cases h : lo ≤ rd xs (i : Int) ∧ rd xs (i : Int) ≤ hi
    · rw [decide_eq_true h, if_pos rfl]
      obtain ⟨b, h1, h2⟩ := ih k (i + 1) (by omega) (by omega) (by omega)
      refine ⟨b, h1, h2.trans ⟨fun g j hj hl => ?_, fun g j hj hl => g j (by omega) hl⟩⟩
      by_cases e : j = i
      · subst e; exact h
      · exact g j (by omega) hl
    · rw [decide_eq_false h, if_neg (by decide)]
      exact ⟨false, rfl, ⟨fun g => absurd g Bool.false_ne_true, fun g => absurd (g i (by omega) (by omega)) h⟩⟩
theorem allIn_i (xs : List Int) (lo hi : Int) (k : Nat) (hn : xs.length ≤ 4611686018427387904) (hk : xs.length < k) : ∃ b, impl_allIn.f k xs lo hi = some b ∧ (b = true ↔ All xs lo hi) := by
  obtain ⟨b, h1, h2⟩ := allIn_l0 xs lo hi hn xs.length k 0 (by omega) (by omega) hk
  exact ⟨b, h1, h2.trans ⟨fun g j hl => g j (by omega) hl, fun g j _ hl => g j hl⟩⟩
theorem l1All_l0 (xs : List Int) (lo hi : Int) (hn : xs.length ≤ 4611686018427387904) : ∀ (d k i : Nat), xs.length - i = d → i ≤ xs.length → d < k → ∃ b, spec_l1All.l0 k xs lo hi (i : Int) = some b ∧ (b = true ↔ ∀ j : Nat, i ≤ j → j < xs.length → lo ≤ rd xs (j : Int) ∧ rd xs (j : Int) ≤ hi) := by
  intro d
  induction d with
  | zero =>
    intro k i hd hi' hk
    obtain ⟨k, rfl⟩ : ∃ m, k = m + 1 := ⟨k - 1, by omega⟩
    simp only [spec_l1All.l0]
    rw [if_neg (by omega)]
    exact ⟨true, rfl, by simp; intro j h1 h2; omega⟩
  | succ d ih =>
    intro k i hd hi' hk
    obtain ⟨k, rfl⟩ : ∃ m, k = m + 1 := ⟨k - 1, by omega⟩
    simp only [spec_l1All.l0, in_s, Option.bind_some]
    rw [if_pos (by omega), if_pos (by omega), w64 (a := (i : Int) + 1) (by omega) (by omega), show (i : Int) + 1 = ((i + 1 : Nat) : Int) by omega, ← Bool.decide_and]
    by_cases h : lo ≤ rd xs (i : Int) ∧ rd xs (i : Int) ≤ hi
    · rw [decide_eq_true h, if_pos rfl]
      obtain ⟨b, h1, h2⟩ := ih k (i + 1) (by omega) (by omega) (by omega)
      refine ⟨b, h1, h2.trans ⟨fun g j hj hl => ?_, fun g j hj hl => g j (by omega) hl⟩⟩
      by_cases e : j = i
      · subst e; exact h
      · exact g j (by omega) hl
    · rw [decide_eq_false h, if_neg (by decide)]
      exact ⟨false, rfl, ⟨fun g => absurd g Bool.false_ne_true, fun g => absurd (g i (by omega) (by omega)) h⟩⟩
theorem all_s (xs : List Int) (lo hi : Int) (k : Nat) (hn : xs.length ≤ 4611686018427387904) (hk : xs.length < k) : ∃ b, spec_l1All.f k xs lo hi = some b ∧ (b = true ↔ All xs lo hi) := by
  obtain ⟨b, h1, h2⟩ := l1All_l0 xs lo hi hn xs.length k 0 (by omega) (by omega) hk
  exact ⟨b, h1, h2.trans ⟨fun g j hl => g j (by omega) hl, fun g j _ hl => g j hl⟩⟩
theorem laws_eqIntS_l0 (x0 : List Int) (hn : x0.length ≤ 4611686018427387904) : ∀ (d k i : Nat), x0.length - i = d → i ≤ x0.length → d < k → laws_eqIntS.l0 k x0 x0 (i : Int) = some true := by
  intro d
  induction d with
  | zero =>
    intro k i hd hi hk
    obtain ⟨k, rfl⟩ : ∃ m, k = m + 1 := ⟨k - 1, by omega⟩
    simp only [laws_eqIntS.l0]
    rw [if_neg (by omega)]
  | succ d ih =>
    intro k i hd hi hk
    obtain ⟨k, rfl⟩ : ∃ m, k = m + 1 := ⟨k - 1, by omega⟩
    simp only [laws_eqIntS.l0]
    rw [if_pos (by omega), if_pos (by omega), if_pos (by omega), w64 (a := (i : Int) + 1) (by omega) (by omega), show (i : Int) + 1 = ((i + 1 : Nat) : Int) by omega]
    rw [if_pos trivial]
    exact ih k (i + 1) (by omega) (by omega) (by omega)
theorem laws_eqIntS_eq (x0 : List Int) (k : Nat) (hn : x0.length ≤ 4611686018427387904) (hk : x0.length < k) : laws_eqIntS.f k x0 x0 = some true := by
  unfold laws_eqIntS.f
  rw [if_pos rfl]
  exact laws_eqIntS_l0 x0 hn x0.length k 0 (by omega) (by omega) hk

theorem laws_eqBoolS_l0 (x0 : List Bool) (hn : x0.length ≤ 4611686018427387904) : ∀ (d k i : Nat), x0.length - i = d → i ≤ x0.length → d < k → laws_eqBoolS.l0 k x0 x0 (i : Int) = some true := by
  intro d
  induction d with
  | zero =>
    intro k i hd hi hk
    obtain ⟨k, rfl⟩ : ∃ m, k = m + 1 := ⟨k - 1, by omega⟩
    simp only [laws_eqBoolS.l0]
    rw [if_neg (by omega)]
  | succ d ih =>
    intro k i hd hi hk
    obtain ⟨k, rfl⟩ : ∃ m, k = m + 1 := ⟨k - 1, by omega⟩
    simp only [laws_eqBoolS.l0]
    rw [if_pos (by omega), if_pos (by omega), if_pos (by omega), w64 (a := (i : Int) + 1) (by omega) (by omega), show (i : Int) + 1 = ((i + 1 : Nat) : Int) by omega]
    rw [if_neg (by simp)]
    exact ih k (i + 1) (by omega) (by omega) (by omega)
theorem laws_eqBoolS_eq (x0 : List Bool) (k : Nat) (hn : x0.length ≤ 4611686018427387904) (hk : x0.length < k) : laws_eqBoolS.f k x0 x0 = some true := by
  unfold laws_eqBoolS.f
  rw [if_pos rfl]
  exact laws_eqBoolS_l0 x0 hn x0.length k 0 (by omega) (by omega) hk

theorem laws_markIntS_l0 (m : Int) (n : Nat) (hm : 0 ≤ m) (hn : m + n ≤ 4611686018427387904) : ∀ (d k i : Nat) (x0 : List Int), x0.length = n → n - i = d → i ≤ n → d < k → (∀ j, j < i → x0[j]? = some (m + (j : Int))) → ∃ x, laws_markIntS.l0 k x0 (m + i) (i : Int) = some (m + n, x) ∧ x.length = n ∧ ∀ j, j < n → x[j]? = some (m + (j : Int)) := by
  intro d
  induction d with
  | zero =>
    intro k i x0 hl hd hi hk hj
    obtain ⟨k, rfl⟩ : ∃ m, k = m + 1 := ⟨k - 1, by omega⟩
    obtain rfl : i = n := by omega
    simp only [laws_markIntS.l0]
    rw [if_neg (by omega)]
    exact ⟨x0, rfl, hl, hj⟩
  | succ d ih =>
    intro k i x0 hl hd hi hk hj
    obtain ⟨k, rfl⟩ : ∃ m, k = m + 1 := ⟨k - 1, by omega⟩
    simp only [laws_markIntS.l0]
    rw [if_pos (by omega), if_pos (by omega), w64 (a := (i : Int) + 1) (by omega) (by omega), w64 (a := m + (i : Int) + 1) (by omega) (by omega), show (i : Int) + 1 = ((i + 1 : Nat) : Int) by omega, show m + (i : Int) + 1 = m + ((i + 1 : Nat) : Int) by omega]
    refine ih k (i + 1) _ (by simpa using hl) (by omega) (by omega) (by omega) ?_
    intro j hj'
    rw [Int.toNat_natCast]
    by_cases e : j = i
    · subst e
      rw [List.getElem?_set_self (by omega)]
    · rw [List.getElem?_set_ne (fun h => e h.symm)]
      exact hj j (by omega)
theorem laws_heldIntS_l0 (m : Int) (n : Nat) (hm : 0 ≤ m) (hn : m + n ≤ 4611686018427387904) (x : List Int) (hl : x.length = n) (hx : ∀ j, j < n → x[j]? = some (m + (j : Int))) : ∀ (d k i : Nat), n - i = d → i ≤ n → d < k → laws_heldIntS.l0 k x (m + i) (i : Int) = some (m + n) := by
  intro d
  induction d with
  | zero =>
    intro k i hd hi hk
    obtain ⟨k, rfl⟩ : ∃ m, k = m + 1 := ⟨k - 1, by omega⟩
    obtain rfl : i = n := by omega
    simp only [laws_heldIntS.l0]
    rw [if_neg (by omega)]
  | succ d ih =>
    intro k i hd hi hk
    obtain ⟨k, rfl⟩ : ∃ m, k = m + 1 := ⟨k - 1, by omega⟩
    simp only [laws_heldIntS.l0]
    have hr : rd x (i : Int) = (m + (i : Int)) := by
      show x.getD (i : Int).toNat 0 = _
      rw [Int.toNat_natCast, List.getD_eq_getElem?_getD, hx i (by omega)]; rfl
    rw [if_pos (by omega), if_pos (by omega), if_pos hr, w64 (a := (i : Int) + 1) (by omega) (by omega), w64 (a := m + (i : Int) + 1) (by omega) (by omega), show (i : Int) + 1 = ((i + 1 : Nat) : Int) by omega, show m + (i : Int) + 1 = m + ((i + 1 : Nat) : Int) by omega]
    exact ih k (i + 1) (by omega) (by omega) (by omega)
theorem mark_int (l : List Int) (m : Int) (hm : 0 ≤ m) (hn : m + l.length ≤ 4611686018427387904) (k : Nat) (hk : l.length < k) : ∃ x, laws_markIntS.f k l m = some (m + l.length, x) ∧ x.length = l.length ∧ ∀ k', l.length < k' → laws_heldIntS.f k' x m = some (m + l.length) := by
  obtain ⟨x, h1, h2, h3⟩ := laws_markIntS_l0 m l.length hm hn l.length k 0 l rfl (by omega) (by omega) hk (fun j hj => by omega)
  refine ⟨x, ?_, h2, fun k' hk' => ?_⟩
  · unfold laws_markIntS.f
    have := h1
    rwa [show m + ((0 : Nat) : Int) = m by omega] at this
  · unfold laws_heldIntS.f
    have := laws_heldIntS_l0 m l.length hm hn x h2 h3 l.length k' 0 (by omega) (by omega) hk'
    rwa [show m + ((0 : Nat) : Int) = m by omega] at this

theorem laws_markBoolS_l0 (m : Int) (n : Nat) (hm : 0 ≤ m) (hn : m + n ≤ 4611686018427387904) : ∀ (d k i : Nat) (x0 : List Bool), x0.length = n → n - i = d → i ≤ n → d < k → (∀ j, j < i → x0[j]? = some (Int.tmod (m + (j : Int)) 3 == 0)) → ∃ x, laws_markBoolS.l0 k x0 (m + i) (i : Int) = some (m + n, x) ∧ x.length = n ∧ ∀ j, j < n → x[j]? = some (Int.tmod (m + (j : Int)) 3 == 0) := by
  intro d
  induction d with
  | zero =>
    intro k i x0 hl hd hi hk hj
    obtain ⟨k, rfl⟩ : ∃ m, k = m + 1 := ⟨k - 1, by omega⟩
    obtain rfl : i = n := by omega
    simp only [laws_markBoolS.l0]
    rw [if_neg (by omega)]
    exact ⟨x0, rfl, hl, hj⟩
  | succ d ih =>
    intro k i x0 hl hd hi hk hj
    obtain ⟨k, rfl⟩ : ∃ m, k = m + 1 := ⟨k - 1, by omega⟩
    simp only [laws_markBoolS.l0]
    rw [if_pos (by omega), if_pos (by omega), w64 (a := (i : Int) + 1) (by omega) (by omega), w64 (a := m + (i : Int) + 1) (by omega) (by omega), show (i : Int) + 1 = ((i + 1 : Nat) : Int) by omega, show m + (i : Int) + 1 = m + ((i + 1 : Nat) : Int) by omega]
    refine ih k (i + 1) _ (by simpa using hl) (by omega) (by omega) (by omega) ?_
    intro j hj'
    rw [Int.toNat_natCast]
    by_cases e : j = i
    · subst e
      rw [List.getElem?_set_self (by omega)]
    · rw [List.getElem?_set_ne (fun h => e h.symm)]
      exact hj j (by omega)
theorem laws_heldBoolS_l0 (m : Int) (n : Nat) (hm : 0 ≤ m) (hn : m + n ≤ 4611686018427387904) (x : List Bool) (hl : x.length = n) (hx : ∀ j, j < n → x[j]? = some (Int.tmod (m + (j : Int)) 3 == 0)) : ∀ (d k i : Nat), n - i = d → i ≤ n → d < k → laws_heldBoolS.l0 k x (m + i) (i : Int) = some (m + n) := by
  intro d
  induction d with
  | zero =>
    intro k i hd hi hk
    obtain ⟨k, rfl⟩ : ∃ m, k = m + 1 := ⟨k - 1, by omega⟩
    obtain rfl : i = n := by omega
    simp only [laws_heldBoolS.l0]
    rw [if_neg (by omega)]
  | succ d ih =>
    intro k i hd hi hk
    obtain ⟨k, rfl⟩ : ∃ m, k = m + 1 := ⟨k - 1, by omega⟩
    simp only [laws_heldBoolS.l0]
    have hr : rdOf false x (i : Int) = (Int.tmod (m + (i : Int)) 3 == 0) := by
      show x.getD (i : Int).toNat false = _
      rw [Int.toNat_natCast, List.getD_eq_getElem?_getD, hx i (by omega)]; rfl
    rw [if_pos (by omega), if_pos (by omega), if_neg (by rw [hr]; simp), w64 (a := (i : Int) + 1) (by omega) (by omega), w64 (a := m + (i : Int) + 1) (by omega) (by omega), show (i : Int) + 1 = ((i + 1 : Nat) : Int) by omega, show m + (i : Int) + 1 = m + ((i + 1 : Nat) : Int) by omega]
    exact ih k (i + 1) (by omega) (by omega) (by omega)
theorem mark_bool (l : List Bool) (m : Int) (hm : 0 ≤ m) (hn : m + l.length ≤ 4611686018427387904) (k : Nat) (hk : l.length < k) : ∃ x, laws_markBoolS.f k l m = some (m + l.length, x) ∧ x.length = l.length ∧ ∀ k', l.length < k' → laws_heldBoolS.f k' x m = some (m + l.length) := by
  obtain ⟨x, h1, h2, h3⟩ := laws_markBoolS_l0 m l.length hm hn l.length k 0 l rfl (by omega) (by omega) hk (fun j hj => by omega)
  refine ⟨x, ?_, h2, fun k' hk' => ?_⟩
  · unfold laws_markBoolS.f
    have := h1
    rwa [show m + ((0 : Nat) : Int) = m by omega] at this
  · unfold laws_heldBoolS.f
    have := laws_heldBoolS_l0 m l.length hm hn x h2 h3 l.length k' 0 (by omega) (by omega) hk'
    rwa [show m + ((0 : Nat) : Int) = m by omega] at this

def VoterGood (near hold : Int) (o : List Bool) (l : List Int) : Prop := (0 ≤ near ∧ near ≤ 1000) ∧ (1 ≤ hold ∧ hold ≤ 20) ∧ (1 ≤ (o.length : Int) ∧ (o.length : Int) ≤ 5) ∧ (l.length : Int) = (o.length : Int) ∧ All l 0 hold
theorem voterOk (near hold : Int) (o : List Bool) (l : List Int) (k : Nat) (hn : l.length ≤ 4611686018427387904) (hk : l.length < k) : ∃ b, spec_VoterOk.f k near hold o l = some b ∧ impl_VoterOk.f k near hold o l = some b ∧ (b = true ↔ VoterGood near hold o l) := by
  obtain ⟨b1, e1, g1⟩ := all_s l 0 hold k hn hk
  obtain ⟨b2, e2, g2⟩ := allIn_i l 0 hold k hn hk
  have e : b2 = b1 := by rw [Bool.eq_iff_iff]; exact g2.trans g1.symm
  subst e
  unfold spec_VoterOk.f impl_VoterOk.f
  simp only [in_s, in_i, e1, e2, Option.bind_some, ← Bool.decide_and]
  by_cases h1 : (0 : Int) ≤ near ∧ near ≤ 1000
  · rw [decide_eq_true h1, if_pos rfl]
    by_cases h2 : (1 : Int) ≤ hold ∧ hold ≤ 20
    · rw [decide_eq_true h2, if_pos rfl]
      by_cases h3 : (1 : Int) ≤ (o.length : Int) ∧ (o.length : Int) ≤ 5
      · rw [decide_eq_true h3, if_pos rfl]
        by_cases h4 : (l.length : Int) = (o.length : Int)
        · rw [if_pos h4]
          exact ⟨b2, rfl, rfl, g1.trans ⟨fun g => ⟨h1, h2, h3, h4, g⟩, fun g => g.2.2.2.2⟩⟩
        · rw [if_neg h4]
          exact ⟨false, rfl, rfl, ⟨fun g => absurd g Bool.false_ne_true, fun g => absurd g.2.2.2.1 h4⟩⟩
      · rw [decide_eq_false h3, if_neg (by decide)]
        exact ⟨false, rfl, rfl, ⟨fun g => absurd g Bool.false_ne_true, fun g => absurd g.2.2.1 h3⟩⟩
    · rw [decide_eq_false h2, if_neg (by decide)]
      exact ⟨false, rfl, rfl, ⟨fun g => absurd g Bool.false_ne_true, fun g => absurd g.2.1 h2⟩⟩
  · rw [decide_eq_false h1, if_neg (by decide)]
    exact ⟨false, rfl, rfl, ⟨fun g => absurd g Bool.false_ne_true, fun g => absurd g.1 h1⟩⟩
theorem FnExactFresh : laws_FnExactFresh.Pure := by
  intro lanes near hold _ _ _
  have hr : ∃ a b o l c, o.length ≤ 5 ∧ l.length ≤ 5 ∧ ∀ k, 5 < k → spec_Fresh.f k lanes near hold = some (a, b, o, l, c) ∧ impl_Fresh.f k lanes near hold = some (a, b, o, l, c) := by
    unfold spec_Fresh.f impl_Fresh.f
    simp only [in_s, in_i, Option.bind_some, ← Bool.decide_and]
    by_cases h1 : (1 : Int) ≤ lanes ∧ lanes ≤ 5
    · rw [decide_eq_true h1]
      simp only [if_true]
      have h0 : (0 : Int) ≤ lanes := by omega
      have h2 : lanes.toNat ≤ 281474976710656 := by omega
      have h3 : lanes.toNat ≤ 35184372088832 := by omega
      simp only [if_pos h0, if_pos h2, if_pos h3]
      have key : ∀ k, 5 < k → ∃ b, spec_VoterOk.f k near hold (List.replicate lanes.toNat false) (List.replicate lanes.toNat 0) = some b ∧ impl_VoterOk.f k near hold (List.replicate lanes.toNat false) (List.replicate lanes.toNat 0) = some b ∧ (b = true ↔ VoterGood near hold (List.replicate lanes.toNat false) (List.replicate lanes.toNat 0)) :=
        fun k hk => voterOk near hold _ _ k (by simp; omega) (by simp; omega)
      by_cases hv : VoterGood near hold (List.replicate lanes.toNat false) (List.replicate lanes.toNat 0)
      · refine ⟨near, hold, List.replicate lanes.toNat false, List.replicate lanes.toNat 0, true, by simp; omega, by simp; omega, fun k hk => ?_⟩
        obtain ⟨b, e1, e2, e3⟩ := key k hk
        obtain rfl := e3.2 hv
        rw [e1, e2]
        exact ⟨rfl, rfl⟩
      · refine ⟨0, 0, [], [], false, by simp, by simp, fun k hk => ?_⟩
        obtain ⟨b, e1, e2, e3⟩ := key k hk
        obtain rfl : b = false := by cases b; rfl; exact absurd (e3.1 rfl) hv
        rw [e1, e2]
        exact ⟨rfl, rfl⟩
    · rw [decide_eq_false h1]
      exact ⟨0, 0, [], [], false, by simp, by simp, fun k _ => ⟨rfl, rfl⟩⟩
  obtain ⟨a, b, o, l, c, ho, hl, hf⟩ := hr
  refine ⟨10, ?_⟩
  have he : ∀ k, 5 < k → laws_eqVoter.f k a b o l a b o l = some true := by
    intro k hk
    unfold laws_eqVoter.f
    rw [if_pos rfl, if_pos rfl, laws_eqIntS_eq l _ (by omega) (by omega), laws_eqBoolS_eq o _ (by omega) (by omega)]; rfl
  obtain ⟨o', m1, _, m2⟩ := mark_bool o 1 (by omega) (by omega) 9 (by omega)
  obtain ⟨l', m3, _, m4⟩ := mark_int l (1 + o.length) (by omega) (by omega) 9 (by omega)
  have hm : laws_markVoter.f 9 a b o l 1 = some ((1 : Int) + o.length + l.length, o', l') := by
    unfold laws_markVoter.f
    rw [m1, Option.bind_some, m3, Option.bind_some]
  have hh : ∀ k, 5 < k → laws_heldVoter.f k a b o' l' 1 = some ((1 : Int) + o.length + l.length) := by
    intro k hk
    unfold laws_heldVoter.f
    rw [m2 k (by omega), Option.bind_some, if_neg (by omega), m4 k (by omega), Option.bind_some, if_neg (by omega)]
  have hneg : ¬ ((1 : Int) + o.length + l.length < 0) := by omega
  simp only [laws_FnExactFresh.f, (hf 10 (by omega)).1, (hf 10 (by omega)).2, he 10 (by omega), Option.bind_some, if_true, bne_self_eq_false, laws_FnExactFresh.j0, Bool.false_eq_true, if_false, hm, hh 9 (by omega), hneg, (hf 9 (by omega)).2, he 9 (by omega), laws_FnExactFresh.j1, hh 8 (by omega)]
end Go.Proofs.Ytmhddkjiaiifmaa.Pure.FnExactFresh
namespace Go.Proofs.Ytmhddkjiaiifmaa.Pure
theorem FnExactFresh : Go.Proofs.Ytmhddkjiaiifmaa.PFnExactFresh.laws_FnExactFresh.Pure := FnExactFresh.FnExactFresh
end Go.Proofs.Ytmhddkjiaiifmaa.Pure
