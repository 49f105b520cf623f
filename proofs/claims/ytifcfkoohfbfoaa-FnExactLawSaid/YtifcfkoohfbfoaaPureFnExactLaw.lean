/- For every mode, Gain, Stick, Limits and now the program's Law answers what the reference's answers (FnExactLaw returns true); no condition. -/
import Derived.Test.YtifcfkoohfbfoaaAskFnExactLaw
import Derived.Test.YtifcfkoohfbfoaaNum
namespace Go.Proofs.Ytifcfkoohfbfoaa.Pure.FnExactLaw
open Go.RowKit Go.Proofs.Ytifcfkoohfbfoaa.PFnExactLaw Go.Proofs.YtifcfkoohfbfoaaW.PrintWords Go.Proofs.YtifcfkoohfbfoaaW.PrintLast Go.Proofs.YtifcfkoohfbfoaaW.PrintMore Go.Proofs.Ytifcfkoohfbfoaa.Num
set_option linter.unusedVariables false
set_option linter.unusedSimpArgs false
theorem in_s (a b c : Int) : spec_l1In.f a b c = some (decide (b ≤ a) && decide (a ≤ c)) := by
  unfold spec_l1In.f
  by_cases h : a ≥ b
  · rw [if_pos h, decide_eq_true (show b ≤ a from h)]; rfl
  · rw [if_neg h, decide_eq_false (show ¬ b ≤ a from h)]; rfl
theorem in_i (a b c : Int) : impl_in.f a b c = some (decide (b ≤ a) && decide (a ≤ c)) := by
  unfold impl_in.f
  by_cases h : a ≥ b
  · rw [if_pos h, decide_eq_true (show b ≤ a from h)]; rfl
  · rw [if_neg h, decide_eq_false (show ¬ b ≤ a from h)]; rfl
/-- All numbers are in bounds. -/
def All (xs : List Int) (lo hi : Int) : Prop := ∀ j : Nat, j < xs.length → lo ≤ rd xs (j : Int) ∧ rd xs (j : Int) ≤ hi
/-- Each number is above the one ahead. -/
def Rise (xs : List Int) : Prop := ∀ j : Nat, 1 ≤ j → j < xs.length → rd xs ((j - 1 : Nat) : Int) < rd xs (j : Int)
theorem allIn_l0 (xs : List Int) (lo hi : Int) (hn : xs.length ≤ 4611686018427387904) : ∀ (d k i : Nat), xs.length - i = d → i ≤ xs.length → d < k → ∃ b, impl_allIn.l0 k lo hi xs (xs.length : Int) (i : Int) = some b ∧ (b = true ↔ ∀ j : Nat, i ≤ j → j < xs.length → lo ≤ rd xs (j : Int) ∧ rd xs (j : Int) ≤ hi) := by
  intro d
  induction d with
  | zero =>
    intro k i hd hi' hk
    obtain ⟨k, rfl⟩ : ∃ m, k = m + 1 := ⟨k - 1, by omega⟩
    simp only [impl_allIn.l0]
    rw [if_neg (by omega)]
    exact ⟨true, rfl, by simp; intro j h1 h2; omega⟩
  | succ d ih =>
    intro k i hd hi' hk
    obtain ⟨k, rfl⟩ : ∃ m, k = m + 1 := ⟨k - 1, by omega⟩
    simp only [impl_allIn.l0, in_i, Option.bind_some]
    rw [if_pos (by omega), if_pos (by omega), if_pos (by omega), w64 (a := (i : Int) + 1) (by omega) (by omega), show (i : Int) + 1 = ((i + 1 : Nat) : Int) by omega, ← Bool.decide_and]
    by_cases h : lo ≤ rd xs (i : Int) ∧ rd xs (i : Int) ≤ hi
    · rw [decide_eq_true h, if_pos rfl]
      obtain ⟨b, h1, h2⟩ := ih k (i + 1) (by omega) (by omega) (by omega)
      refine ⟨b, h1, h2.trans ⟨fun g j hj hl => ?_, fun g j hj hl => g j (by omega) hl⟩⟩
      by_cases e : j = i
      · subst e; exact h
      · exact g j (by omega) hl
    · rw [decide_eq_false h, if_neg (by decide)]
      exact ⟨false, rfl, ⟨fun g => absurd g Bool.false_ne_true, fun g => absurd (g i (by omega) (by omega)) h⟩⟩
theorem allIn_i (xs : List Int) (lo hi : Int) (k : Nat) (hn : xs.length ≤ 4611686018427387904) (hk : xs.length < k) : ∃ b, impl_allIn.f k xs lo hi = some b ∧ (b = true ↔ All xs lo hi) := by
  obtain ⟨b, h1, h2⟩ := allIn_l0 xs lo hi hn xs.length k 0 (by omega) (by omega) hk
  exact ⟨b, h1, h2.trans ⟨fun g j hl => g j (by omega) hl, fun g j _ hl => g j hl⟩⟩
theorem l1All_l0 (xs : List Int) (lo hi : Int) (hn : xs.length ≤ 4611686018427387904) : ∀ (d k i : Nat), xs.length - i = d → i ≤ xs.length → d < k → ∃ b, spec_l1All.l0 k xs lo hi (i : Int) = some b ∧ (b = true ↔ ∀ j : Nat, i ≤ j → j < xs.length → lo ≤ rd xs (j : Int) ∧ rd xs (j : Int) ≤ hi) := by
  intro d
  induction d with
  | zero =>
    intro k i hd hi' hk
    obtain ⟨k, rfl⟩ : ∃ m, k = m + 1 := ⟨k - 1, by omega⟩
    simp only [spec_l1All.l0]
    rw [if_neg (by omega)]
    exact ⟨true, rfl, by simp; intro j h1 h2; omega⟩
  | succ d ih =>
    intro k i hd hi' hk
    obtain ⟨k, rfl⟩ : ∃ m, k = m + 1 := ⟨k - 1, by omega⟩
    simp only [spec_l1All.l0, in_s, Option.bind_some]
    rw [if_pos (by omega), if_pos (by omega), w64 (a := (i : Int) + 1) (by omega) (by omega), show (i : Int) + 1 = ((i + 1 : Nat) : Int) by omega, ← Bool.decide_and]
    by_cases h : lo ≤ rd xs (i : Int) ∧ rd xs (i : Int) ≤ hi
    · rw [decide_eq_true h, if_pos rfl]
      obtain ⟨b, h1, h2⟩ := ih k (i + 1) (by omega) (by omega) (by omega)
      refine ⟨b, h1, h2.trans ⟨fun g j hj hl => ?_, fun g j hj hl => g j (by omega) hl⟩⟩
      by_cases e : j = i
      · subst e; exact h
      · exact g j (by omega) hl
    · rw [decide_eq_false h, if_neg (by decide)]
      exact ⟨false, rfl, ⟨fun g => absurd g Bool.false_ne_true, fun g => absurd (g i (by omega) (by omega)) h⟩⟩
theorem all_s (xs : List Int) (lo hi : Int) (k : Nat) (hn : xs.length ≤ 4611686018427387904) (hk : xs.length < k) : ∃ b, spec_l1All.f k xs lo hi = some b ∧ (b = true ↔ All xs lo hi) := by
  obtain ⟨b, h1, h2⟩ := l1All_l0 xs lo hi hn xs.length k 0 (by omega) (by omega) hk
  exact ⟨b, h1, h2.trans ⟨fun g j hl => g j (by omega) hl, fun g j _ hl => g j hl⟩⟩
theorem rise_l0 (xs : List Int) (hn : xs.length ≤ 4611686018427387904) : ∀ (d k i : Nat), xs.length - i = d → 1 ≤ i → d < k → ∃ b, spec_l1Rise.l0 k xs (i : Int) = some b ∧ (b = true ↔ ∀ j : Nat, i ≤ j → j < xs.length → rd xs ((j - 1 : Nat) : Int) < rd xs (j : Int)) := by
  intro d
  induction d with
  | zero =>
    intro k i hd hi' hk
    obtain ⟨k, rfl⟩ : ∃ m, k = m + 1 := ⟨k - 1, by omega⟩
    simp only [spec_l1Rise.l0]
    rw [if_neg (by omega)]
    exact ⟨true, rfl, by simp; intro j h1 h2; omega⟩
  | succ d ih =>
    intro k i hd hi' hk
    obtain ⟨k, rfl⟩ : ∃ m, k = m + 1 := ⟨k - 1, by omega⟩
    simp only [spec_l1Rise.l0]
    rw [w64 (a := (i : Int) - 1) (by omega) (by omega), if_pos (by omega), if_pos (by omega), if_pos (by omega), if_pos (by omega), w64 (a := (i : Int) + 1) (by omega) (by omega), show (i : Int) + 1 = ((i + 1 : Nat) : Int) by omega, show (i : Int) - 1 = ((i - 1 : Nat) : Int) by omega]
    by_cases h : rd xs ((i - 1 : Nat) : Int) ≥ rd xs (i : Int)
    · rw [if_pos h]
      exact ⟨false, rfl, ⟨fun g => absurd g Bool.false_ne_true, fun g => by have := g i (by omega) (by omega); omega⟩⟩
    · rw [if_neg h]
      obtain ⟨b, h1, h2⟩ := ih k (i + 1) (by omega) (by omega) (by omega)
      refine ⟨b, h1, h2.trans ⟨fun g j hj hl => ?_, fun g j hj hl => g j (by omega) hl⟩⟩
      by_cases e : j = i
      · subst e; omega
      · exact g j (by omega) hl
theorem rise_s (xs : List Int) (k : Nat) (hn : xs.length ≤ 4611686018427387904) (hk : xs.length < k) : ∃ b, spec_l1Rise.f k xs = some b ∧ (b = true ↔ Rise xs) := by
  obtain ⟨b, h1, h2⟩ := rise_l0 xs hn (xs.length - 1) k 1 (by omega) (by omega) (by omega)
  exact ⟨b, h1, h2⟩
theorem ascends_l0 (xs : List Int) (lo hi : Int) (hn : xs.length ≤ 4611686018427387904) : ∀ (d k i : Nat), xs.length - i = d → i ≤ xs.length → d < k → ∃ b, impl_ascends.l0 k xs lo hi xs (xs.length : Int) (i : Int) = some b ∧ (b = true ↔ (∀ j : Nat, i ≤ j → j < xs.length → lo ≤ rd xs (j : Int) ∧ rd xs (j : Int) ≤ hi) ∧ ∀ j : Nat, i ≤ j → 1 ≤ j → j < xs.length → rd xs ((j - 1 : Nat) : Int) < rd xs (j : Int)) := by
  intro d
  induction d with
  | zero =>
    intro k i hd hi' hk
    obtain ⟨k, rfl⟩ : ∃ m, k = m + 1 := ⟨k - 1, by omega⟩
    simp only [impl_ascends.l0]
    rw [if_neg (by omega)]
    exact ⟨true, rfl, ⟨fun _ => ⟨fun j h1 h2 => by omega, fun j h1 h2 h3 => by omega⟩, fun _ => rfl⟩⟩
  | succ d ih =>
    intro k i hd hi' hk
    obtain ⟨k, rfl⟩ : ∃ m, k = m + 1 := ⟨k - 1, by omega⟩
    simp only [impl_ascends.l0, in_i, Option.bind_some]
    rw [if_pos (by omega), if_pos (by omega), if_pos (by omega), w64 (a := (i : Int) + 1) (by omega) (by omega), show (i : Int) + 1 = ((i + 1 : Nat) : Int) by omega, ← Bool.decide_and]
    by_cases h : lo ≤ rd xs (i : Int) ∧ rd xs (i : Int) ≤ hi
    · rw [decide_eq_true h, if_pos rfl]
      obtain ⟨b, h1, h2⟩ := ih k (i + 1) (by omega) (by omega) (by omega)
      by_cases hp : (i : Int) > 0
      · rw [if_pos hp, w64 (a := (i : Int) - 1) (by omega) (by omega), if_pos (by omega), if_pos (by omega), show (i : Int) - 1 = ((i - 1 : Nat) : Int) by omega]
        by_cases hr : rd xs ((i - 1 : Nat) : Int) ≥ rd xs (i : Int)
        · rw [if_pos hr]
          exact ⟨false, rfl, ⟨fun g => absurd g Bool.false_ne_true, fun g => by have := g.2 i (by omega) (by omega) (by omega); omega⟩⟩
        · rw [if_neg hr]
          refine ⟨b, h1, h2.trans ⟨fun g => ⟨fun j hj hl => ?_, fun j hj h1j hl => ?_⟩, fun g => ⟨fun j hj hl => g.1 j (by omega) hl, fun j hj h1j hl => g.2 j (by omega) h1j hl⟩⟩⟩
          · by_cases e : j = i
            · subst e; exact h
            · exact g.1 j (by omega) hl
          · by_cases e : j = i
            · subst e; omega
            · exact g.2 j (by omega) h1j hl
      · rw [if_neg hp]
        refine ⟨b, h1, h2.trans ⟨fun g => ⟨fun j hj hl => ?_, fun j hj h1j hl => ?_⟩, fun g => ⟨fun j hj hl => g.1 j (by omega) hl, fun j hj h1j hl => g.2 j (by omega) h1j hl⟩⟩⟩
        · by_cases e : j = i
          · subst e; exact h
          · exact g.1 j (by omega) hl
        · exact g.2 j (by omega) h1j hl
    · rw [decide_eq_false h, if_neg (by decide)]
      exact ⟨false, rfl, ⟨fun g => absurd g Bool.false_ne_true, fun g => absurd (g.1 i (by omega) (by omega)) h⟩⟩
theorem ascends_i (xs : List Int) (lo hi : Int) (k : Nat) (hn : xs.length ≤ 4611686018427387904) (hk : xs.length < k) : ∃ b, impl_ascends.f k xs lo hi = some b ∧ (b = true ↔ Rise xs ∧ All xs lo hi) := by
  obtain ⟨b, h1, h2⟩ := ascends_l0 xs lo hi hn xs.length k 0 (by omega) (by omega) hk
  exact ⟨b, h1, h2.trans ⟨fun g => ⟨fun j h1 hl => g.2 j (by omega) h1 hl, fun j hl => g.1 j (by omega) hl⟩, fun g => ⟨fun j _ hl => g.2 j hl, fun j _ h1 hl => g.1 j h1 hl⟩⟩⟩
theorem laws_toIntS_l0 (x0 : List Int) (hn : x0.length ≤ 4611686018427387904) : ∀ (d k i : Nat) (x3 : List Int), x0.length - i = d → i ≤ x0.length → d < k → x3.length = x0.length → (∀ j, j < i → x3[j]? = x0[j]?) → laws_toIntS.l0 k x0 x3 (i : Int) = some x0 := by
  intro d
  induction d with
  | zero =>
    intro k i x3 hd hi hk hl hj
    obtain ⟨k, rfl⟩ : ∃ m, k = m + 1 := ⟨k - 1, by omega⟩
    simp only [laws_toIntS.l0]
    rw [if_neg (by omega)]
    congr 1
    apply List.ext_getElem?
    intro j
    by_cases h : j < i
    · exact hj j h
    · rw [List.getElem?_eq_none (by omega), List.getElem?_eq_none (by omega)]
  | succ d ih =>
    intro k i x3 hd hi hk hl hj
    obtain ⟨k, rfl⟩ : ∃ m, k = m + 1 := ⟨k - 1, by omega⟩
    have hlt : i < x0.length := by omega
    simp only [laws_toIntS.l0]
    rw [if_pos (by omega), if_pos (by omega), if_pos (by omega), w64 (a := (i : Int) + 1) (by omega) (by omega), show (i : Int) + 1 = ((i + 1 : Nat) : Int) by omega]
    refine ih k (i + 1) _ (by omega) (by omega) (by omega) (by simpa using hl) ?_
    intro j hj'
    have hr : rd x0 (i : Int) = x0[i] := by
      show x0.getD (i : Int).toNat 0 = _
      rw [Int.toNat_natCast, List.getD_eq_getElem?_getD, List.getElem?_eq_getElem hlt]; rfl
    simp only [Int.toNat_natCast, hr]
    by_cases e : j = i
    · subst e
      rw [List.getElem?_set_self (by omega), List.getElem?_eq_getElem hlt]
    · rw [List.getElem?_set_ne (fun h => e h.symm)]
      exact hj j (by omega)
theorem laws_toIntS_eq (x0 : List Int) (k : Nat) (hn : x0.length ≤ 35184372088832) (hk : x0.length < k) : laws_toIntS.f k x0 = some x0 := by
  unfold laws_toIntS.f
  rw [if_pos (by omega), if_pos (by rw [Int.toNat_natCast]; omega), Int.toNat_natCast]
  exact laws_toIntS_l0 x0 (by omega) x0.length k 0 _ (by omega) (by omega) hk (by simp) (fun j hj => by omega)

theorem laws_eqIntS_l0 (x0 : List Int) (hn : x0.length ≤ 4611686018427387904) : ∀ (d k i : Nat), x0.length - i = d → i ≤ x0.length → d < k → laws_eqIntS.l0 k x0 x0 (i : Int) = some true := by
  intro d
  induction d with
  | zero =>
    intro k i hd hi hk
    obtain ⟨k, rfl⟩ : ∃ m, k = m + 1 := ⟨k - 1, by omega⟩
    simp only [laws_eqIntS.l0]
    rw [if_neg (by omega)]
  | succ d ih =>
    intro k i hd hi hk
    obtain ⟨k, rfl⟩ : ∃ m, k = m + 1 := ⟨k - 1, by omega⟩
    simp only [laws_eqIntS.l0]
    rw [if_pos (by omega), if_pos (by omega), if_pos (by omega), w64 (a := (i : Int) + 1) (by omega) (by omega), show (i : Int) + 1 = ((i + 1 : Nat) : Int) by omega]
    rw [if_pos trivial]
    exact ih k (i + 1) (by omega) (by omega) (by omega)
theorem laws_eqIntS_eq (x0 : List Int) (k : Nat) (hn : x0.length ≤ 4611686018427387904) (hk : x0.length < k) : laws_eqIntS.f k x0 x0 = some true := by
  unfold laws_eqIntS.f
  rw [if_pos rfl]
  exact laws_eqIntS_l0 x0 hn x0.length k 0 (by omega) (by omega) hk

def GainGood (l m : List Int) : Prop := (2 ≤ (l.length : Int) ∧ (l.length : Int) ≤ 8) ∧ (m.length : Int) = (l.length : Int) ∧ Rise l ∧ All l 0 1000 ∧ All m 0 1000
theorem gainOk (l m : List Int) (k : Nat) (hn : l.length + m.length ≤ 4611686018427387904) (hk : l.length + m.length < k) : ∃ b, spec_GainOk.f k l m = some b ∧ impl_GainOk.f k l m = some b ∧ (b = true ↔ GainGood l m) := by
  obtain ⟨b1, e1, g1⟩ := all_s l 0 1000 k (by omega) (by omega)
  obtain ⟨b2, e2, g2⟩ := all_s m 0 1000 k (by omega) (by omega)
  obtain ⟨b3, e3, g3⟩ := rise_s l k (by omega) (by omega)
  obtain ⟨b4, e4, g4⟩ := ascends_i l 0 1000 k (by omega) (by omega)
  obtain ⟨b5, e5, g5⟩ := allIn_i m 0 1000 k (by omega) (by omega)
  unfold spec_GainOk.f impl_GainOk.f
  simp only [in_s, in_i, e1, e2, e3, e4, e5, Option.bind_some, ← Bool.decide_and]
  by_cases h1 : (2 : Int) ≤ (l.length : Int) ∧ (l.length : Int) ≤ 8
  · rw [decide_eq_true h1, if_pos rfl, if_pos rfl]
    by_cases h2 : (m.length : Int) = (l.length : Int)
    · rw [if_pos h2, if_pos h2]
      have e : b5 = b2 := by rw [Bool.eq_iff_iff]; exact g5.trans g2.symm
      subst e
      have e' : b4 = (b3 && b1) := by rw [Bool.eq_iff_iff, Bool.and_eq_true, g3, g1]; exact g4
      subst e'
      refine ⟨b3 && b1 && b5, ?_, ?_, ?_⟩
      · cases b3 <;> cases b1 <;> rfl
      · cases b3 <;> cases b1 <;> rfl
      · rw [Bool.and_eq_true, Bool.and_eq_true, g3, g1, g5]
        exact ⟨fun ⟨⟨a, b⟩, c⟩ => ⟨h1, h2, a, b, c⟩, fun ⟨_, _, a, b, c⟩ => ⟨⟨a, b⟩, c⟩⟩
    · rw [if_neg h2, if_neg h2]
      exact ⟨false, rfl, rfl, ⟨fun g => absurd g Bool.false_ne_true, fun g => absurd g.2.1 h2⟩⟩
  · rw [decide_eq_false h1, if_neg (by decide), if_neg (by decide)]
    exact ⟨false, rfl, rfl, ⟨fun g => absurd g Bool.false_ne_true, fun g => absurd g.1 h1⟩⟩
theorem floor_i {a b : Int} (hb : 1 ≤ b) (h1 : -4611686018427387904 ≤ a) (h2 : a ≤ 4611686018427387904) : impl_floorOver.f a b = some (a / b) := by
  have hf := floor_tdiv (a := a) hb
  have ht := tdiv_in (M := 4611686018427387904) hb h1 h2
  have w : wrap64 (a.tdiv b) = a.tdiv b := w64 (by omega) (by omega)
  have w' : wrap64 (a.tdiv b - 1) = a.tdiv b - 1 := w64 (by omega) (by omega)
  have hbn : decide (b < 0) = false := decide_eq_false (by omega)
  unfold impl_floorOver.f
  rw [if_neg (show ¬ b = 0 by omega), w, w', hbn]
  by_cases hm : a.tmod b = 0
  · rw [if_pos hm, hf.1 hm]
  · rw [if_neg hm]
    by_cases ha : a < 0
    · rw [decide_eq_true ha, if_pos (by decide), hf.2.2.1 hm ha]
    · rw [decide_eq_false ha, if_neg (by decide), hf.2.1 hm (by omega)]
theorem down_s {a b : Int} (hb : 1 ≤ b) (h1 : -4611686018427387904 ≤ a) (h2 : a ≤ 4611686018427387904) : spec_l1Down.f a b = some (a / b) := by
  have hf := floor_tdiv (a := a) hb
  have ht := tdiv_in (M := 4611686018427387904) hb h1 h2
  have w : wrap64 (a.tdiv b) = a.tdiv b := w64 (by omega) (by omega)
  have w' : wrap64 (a.tdiv b - 1) = a.tdiv b - 1 := w64 (by omega) (by omega)
  unfold spec_l1Down.f
  rw [if_neg (show ¬ b = 0 by omega), w, w']
  by_cases hm : a.tmod b < 0
  · rw [if_pos hm, hf.2.2.1 (hf.2.2.2.1 hm).1 (hf.2.2.2.1 hm).2]
  · rw [if_neg hm]
    by_cases hz : a.tmod b = 0
    · rw [hf.1 hz]
    · rw [hf.2.1 hz (by have := hf.2.2.2; by_cases ha : a < 0; exact absurd (this.2 ⟨hz, ha⟩) hm; omega)]
theorem piece_low (k : Nat) (l : List Int) (x i : Int) : impl_piece.l0 k l x i = spec_l1Low.l0 k l x i := by
  induction k generalizing i with
  | zero => rfl
  | succ k ih => simp only [impl_piece.l0, spec_l1Low.l0, ih]
theorem low_some (l : List Int) (x : Int) (hn : l.length ≤ 4611686018427387904) : ∀ (d k i : Nat), l.length - 1 - i = d → i + 1 < l.length → d < k → ∃ r : Nat, spec_l1Low.l0 k l x (i : Int) = some (r : Int) ∧ r + 1 < l.length := by
  intro d
  induction d with
  | zero =>
    intro k i hd hi hk
    omega
  | succ d ih =>
    intro k i hd hi hk
    obtain ⟨k, rfl⟩ : ∃ m, k = m + 1 := ⟨k - 1, by omega⟩
    simp only [spec_l1Low.l0]
    rw [w64 (a := (i : Int) + 2) (by omega) (by omega), w64 (a := (i : Int) + 1) (by omega) (by omega)]
    by_cases h : (i : Int) + 2 < (l.length : Int)
    · rw [if_pos h, if_pos (by omega), if_pos (by omega)]
      split
      · rw [show (i : Int) + 1 = ((i + 1 : Nat) : Int) by omega]
        exact ih k (i + 1) (by omega) (by omega) (by omega)
      · exact ⟨i, rfl, hi⟩
    · rw [if_neg h]
      exact ⟨i, rfl, hi⟩
/-- What GainAt tells of a good gain: a value between two neighbours, down. -/
def gainVal (l m : List Int) (x : Int) (r : Nat) : Int := (rd m (r : Int) * (rd l ((r + 1 : Nat) : Int) - rd l (r : Int)) + (rd m ((r + 1 : Nat) : Int) - rd m (r : Int)) * (x - rd l (r : Int))) / (rd l ((r + 1 : Nat) : Int) - rd l (r : Int))
theorem gain_arith {a b c d x : Int} (h1 : 0 ≤ a) (h2 : a < b) (h3 : b ≤ 1000) (h4 : 0 ≤ c) (h5 : c ≤ 1000) (h6 : 0 ≤ d) (h7 : d ≤ 1000) (h8 : 0 ≤ x) (h9 : x ≤ 1000) : wrap64 (b - a) = b - a ∧ wrap64 (d - c) = d - c ∧ wrap64 (x - a) = x - a ∧ wrap64 (c * (b - a)) = c * (b - a) ∧ wrap64 ((d - c) * (x - a)) = (d - c) * (x - a) ∧ wrap64 (c * (b - a) + (d - c) * (x - a)) = c * (b - a) + (d - c) * (x - a) ∧ 1 ≤ b - a ∧ -4611686018427387904 ≤ c * (b - a) + (d - c) * (x - a) ∧ c * (b - a) + (d - c) * (x - a) ≤ 4611686018427387904 := by
  have p1 := abs_mul (x := c) (y := b - a) (A := 1000) (B := 1000) (by omega) (by omega) (by omega) (by omega)
  have p2 := abs_mul (x := d - c) (y := x - a) (A := 1000) (B := 1000) (by omega) (by omega) (by omega) (by omega)
  refine ⟨w64 (by omega) (by omega), w64 (by omega) (by omega), w64 (by omega) (by omega), w64 (by omega) (by omega), w64 (by omega) (by omega), w64 (by omega) (by omega), by omega, by omega, by omega⟩
theorem clamp_s (s lo hi : Int) (h : lo ≤ hi) : (spec_l1Min.f hi s).bind (fun t => spec_l1Max.f lo t) = some (mx (mn s hi) lo) := by
  unfold spec_l1Min.f spec_l1Max.f
  by_cases c : hi < s
  · rw [if_pos c, Option.bind_some]
    by_cases c2 : lo > hi
    · omega
    · rw [if_neg c2]; congr 1; unfold mx mn; omega
  · rw [if_neg c, Option.bind_some]
    by_cases c2 : lo > s
    · rw [if_pos c2]; congr 1; unfold mx mn; omega
    · rw [if_neg c2]; congr 1; unfold mx mn; omega
theorem rise_le (l : List Int) (h : Rise l) : ∀ j : Nat, j < l.length → rd l 0 ≤ rd l (j : Int) := by
  intro j
  induction j with
  | zero => intro _; exact Int.le_refl _
  | succ j ih =>
    intro hj
    have h1 := ih (by omega)
    have h2 := h (j + 1) (by omega) hj
    rw [show j + 1 - 1 = j by omega] at h2
    omega
theorem gainAt (l m : List Int) (s : Int) (k : Nat) (hn : l.length + m.length ≤ 4611686018427387904) (hk : l.length + m.length < k) : ∃ v, spec_GainAt.f k l m s = some v ∧ impl_GainAt.f k l m s = some v ∧ (¬ GainGood l m → v = 0) ∧ (GainGood l m → ∃ r : Nat, r + 1 < l.length ∧ spec_l1Low.l0 k l (mx (mn s (rd l ((l.length - 1 : Nat) : Int))) (rd l 0)) 0 = some (r : Int) ∧ v = gainVal l m (mx (mn s (rd l ((l.length - 1 : Nat) : Int))) (rd l 0)) r) := by
  obtain ⟨b, e1, e2, e3⟩ := gainOk l m k hn hk
  by_cases hg : GainGood l m
  · obtain rfl := e3.2 hg
    obtain ⟨⟨g1, g2⟩, g3, g4, g5, g6⟩ := hg
    obtain ⟨r, hr, hr2⟩ := low_some l (mx (mn s (rd l ((l.length - 1 : Nat) : Int))) (rd l 0)) (by omega) (l.length - 1) k 0 (by omega) (by omega) (by omega)
    have hr' : spec_l1Low.l0 k l (mx (mn s (rd l ((l.length - 1 : Nat) : Int))) (rd l 0)) 0 = some (r : Int) := hr
    have hlen1 : wrap64 ((l.length : Int) - 1) = ((l.length - 1 : Nat) : Int) := by rw [w64 (by omega) (by omega)]; omega
    have hr1 : wrap64 ((r : Int) + 1) = ((r + 1 : Nat) : Int) := by rw [w64 (by omega) (by omega)]; omega
    have i0 : (0 : Int) < (l.length : Int) := by omega
    have i1 : (0 : Int) ≤ ((l.length - 1 : Nat) : Int) := by omega
    have i2 : ((l.length - 1 : Nat) : Int) < (l.length : Int) := by omega
    have i3 : (0 : Int) ≤ (r : Int) := by omega
    have i4 : (r : Int) < (l.length : Int) := by omega
    have i5 : (0 : Int) ≤ ((r + 1 : Nat) : Int) := by omega
    have i6 : ((r + 1 : Nat) : Int) < (l.length : Int) := by omega
    have i7 : (r : Int) < (m.length : Int) := by omega
    have i8 : ((r + 1 : Nat) : Int) < (m.length : Int) := by omega
    have hle : rd l 0 ≤ rd l ((l.length - 1 : Nat) : Int) := rise_le l g4 _ (by omega)
    have a0 : 0 ≤ rd l 0 ∧ rd l 0 ≤ 1000 := g5 0 (by omega)
    have aN := g5 (l.length - 1) (by omega)
    have ar := g5 r (by omega)
    have ar1 := g5 (r + 1) (by omega)
    have br := g6 r (by omega)
    have br1 := g6 (r + 1) (by omega)
    have asc := g4 (r + 1) (by omega) (by omega)
    rw [show r + 1 - 1 = r by omega] at asc
    have hx := held_in (x := s) hle
    have hsx := clamp_s s _ _ hle
    generalize hX : mx (mn s (rd l ((l.length - 1 : Nat) : Int))) (rd l 0) = x at *
    obtain ⟨t1, hs1, hs2⟩ := Option.bind_eq_some_iff.1 hsx
    obtain ⟨v1, v2, v3, v4, v5, v6, v7, v8, v9⟩ := gain_arith ar.1 asc ar1.2 br.1 br.2 br1.1 br1.2 (Int.le_trans a0.1 hx.1) (Int.le_trans hx.2 aN.2)
    refine ⟨gainVal l m x r, ?_, ?_, fun h => absurd ⟨⟨g1, g2⟩, g3, g4, g5, g6⟩ h, fun _ => ⟨r, hr2, hr', rfl⟩⟩
    · unfold spec_GainAt.f
      rw [e1, Option.bind_some, if_pos rfl, if_pos i0, hlen1, if_pos i1, if_pos i2, hs1, Option.bind_some, hs2, Option.bind_some]
      unfold spec_l1Low.f
      rw [hr', Option.bind_some, hr1, if_pos i5, if_pos i6, if_pos i3, if_pos i4, if_pos i7, if_pos i8, v1, v2, v3, v4, v5, v6, down_s v7 v8 v9]
      rfl
    · unfold impl_GainAt.f impl_held.f
      rw [e2, Option.bind_some, if_pos rfl, if_pos i0, hlen1, if_pos i1, if_pos i2, Option.bind_some, hX]
      unfold impl_piece.f
      rw [piece_low, hr', Option.bind_some, hr1, if_pos i3, if_pos i4, if_pos i5, if_pos i6, if_pos i7, if_pos i8]
      unfold impl_between.f
      rw [v1, v2, v3, v4, v5, v6, Option.bind_some, floor_i v7 v8 v9]
      rfl
  · have hb : b = false := by cases b; rfl; exact absurd (e3.1 rfl) hg
    subst hb
    refine ⟨0, ?_, ?_, fun _ => rfl, fun h => absurd h hg⟩
    · unfold spec_GainAt.f; rw [e1]; rfl
    · unfold impl_GainAt.f; rw [e2]; rfl
theorem toGain (l m : List Int) (k : Nat) (hn : l.length + m.length ≤ 1048576) (hk : l.length + m.length < k) : laws_toGain.f k l m = some (l, m) := by
  unfold laws_toGain.f
  rw [laws_toIntS_eq l _ (by omega) (by omega), laws_toIntS_eq m _ (by omega) (by omega)]; rfl
theorem eqGain (l m : List Int) (k : Nat) (hn : l.length + m.length ≤ 1048576) (hk : l.length + m.length < k) : laws_eqGain.f k l m l m = some true := by
  unfold laws_eqGain.f
  rw [laws_eqIntS_eq l _ (by omega) (by omega), laws_eqIntS_eq m _ (by omega) (by omega)]; rfl
theorem szGain (l m : List Int) (hl : l.length ≤ maxLen) (hm : m.length ≤ maxLen) : (∃ t, laws_szGain.f l m 1048576 = some t ∧ t < 0) ∨ (∃ t, laws_szGain.f l m 1048576 = some t ∧ ¬ t < 0 ∧ l.length + m.length ≤ 1048576) := by
  have hl' : l.length ≤ 9223372036854775807 := hl
  have hm' : m.length ≤ 9223372036854775807 := hm
  unfold laws_szGain.f laws_szIntS.f
  rw [w64 (a := 1048576 - (l.length : Int)) (by omega) (by omega)]
  by_cases h : (1048576 : Int) - (l.length : Int) < 0
  · rw [if_pos h]; exact .inl ⟨_, rfl, by omega⟩
  · rw [if_neg h, Option.bind_some, if_neg h, w64 (a := 1048576 - (l.length : Int) - (m.length : Int)) (by omega) (by omega)]
    by_cases h2 : (1048576 : Int) - (l.length : Int) - (m.length : Int) < 0
    · rw [if_pos h2]; exact .inl ⟨_, rfl, by omega⟩
    · rw [if_neg h2, Option.bind_some, if_neg h2]
      exact .inr ⟨_, rfl, h2, by omega⟩
/-- What is told ahead of the limits. -/
def told (mode load want now : Int) : Int := if mode = 0 then (if load > 250 then mn want now else if load < -100 then mx want now else want) else want
/-- What is told in the end, and whether it is what was wanted. -/
def fin (want t lo hi step now : Int) : Int × Int :=
  (mx (mn (mx (mn t hi) lo) (now + step)) (now - step), if mx (mn (mx (mn t hi) lo) (now + step)) (now - step) = want then 0 else 2)
theorem fin_i (k : Nat) (now want t lo hi step : Int) (h1 : -10000 ≤ lo) (h2 : lo ≤ hi) (h3 : hi ≤ 10000) (h4 : 1 ≤ step) (h5 : step ≤ 10000) (h6 : lo ≤ now) (h7 : now ≤ hi) : impl_Law.j5 (k + 1) now want t lo hi step = some (fin want t lo hi step now) := by
  simp only [impl_Law.j5, impl_held.f, Option.bind_some]
  rw [w64 (a := now - step) (by omega) (by omega), w64 (a := now + step) (by omega) (by omega)]
  unfold fin
  split <;> rfl
theorem fin_s (k : Nat) (now want t lo hi step : Int) (h1 : -10000 ≤ lo) (h2 : lo ≤ hi) (h3 : hi ≤ 10000) (h4 : 1 ≤ step) (h5 : step ≤ 10000) (h6 : lo ≤ now) (h7 : now ≤ hi) : spec_Law.j3 (k + 1) now want t lo hi step = some (fin want t lo hi step now) := by
  have hh : ∀ x a b : Int, a ≤ b → spec_l9Held.f x a b = some (mx (mn x b) a) := by
    intro x a b hab
    obtain ⟨t, e1, e2⟩ := Option.bind_eq_some_iff.1 (clamp_s x a b hab)
    unfold spec_l9Held.f
    rw [e1, Option.bind_some, e2, Option.bind_some]
  simp only [spec_Law.j3]
  rw [w64 (a := now - step) (by omega) (by omega), w64 (a := now + step) (by omega) (by omega), hh _ _ _ h2, Option.bind_some, hh _ _ _ (by omega), Option.bind_some]
  unfold fin
  split <;> rfl
theorem told_i (k : Nat) (mode now want a b c load lo hi step : Int) : impl_Law.j1 (k + 5) mode now want a b c load lo hi step = impl_Law.j5 (k + 1) now want (told mode load want now) lo hi step := by
  unfold told
  simp only [impl_Law.j1]
  by_cases hm : mode = 0
  · rw [if_pos hm, if_pos hm]
    by_cases hl : load > 250
    · rw [if_pos hl, decide_eq_true hl]
      simp only [impl_Law.j2, impl_Law.j3, if_true]
      rw [if_pos hm, decide_eq_false (show ¬ load < -100 by omega)]
      simp only [impl_Law.j4, Bool.false_eq_true, if_false]
    · rw [if_neg hl, decide_eq_false hl]
      simp only [impl_Law.j2, impl_Law.j3, Bool.false_eq_true, if_false]
      rw [if_pos hm]
      by_cases hl2 : load < -100
      · rw [if_pos hl2, decide_eq_true hl2]
        simp only [impl_Law.j4, if_true]
      · rw [if_neg hl2, decide_eq_false hl2]
        simp only [impl_Law.j4, Bool.false_eq_true, if_false]
  · rw [if_neg hm, if_neg hm]
    simp only [impl_Law.j2, impl_Law.j3, Bool.false_eq_true, if_false]
    rw [if_neg hm]
    simp only [impl_Law.j4, Bool.false_eq_true, if_false]
theorem told_s (k : Nat) (mode now want a b c load lo hi step : Int) : spec_Law.j1 (k + 3) mode now want a b c load lo hi step = spec_Law.j3 (k + 1) now want (told mode load want now) lo hi step := by
  unfold told
  simp only [spec_Law.j1]
  by_cases hm : mode = 0
  · rw [if_pos hm, if_pos hm]
    by_cases hl : load > 250
    · rw [if_pos hl, if_pos hl, if_neg (show ¬ load < -100 by omega)]
      by_cases hw : want > now
      · rw [if_pos hw]
        simp only [spec_Law.j2, if_true]
        congr 1; unfold mn; omega
      · rw [if_neg hw]
        simp only [spec_Law.j2, Bool.false_eq_true, if_false]
        congr 1; unfold mn; omega
    · rw [if_neg hl, if_neg hl]
      by_cases hl2 : load < -100
      · rw [if_pos hl2, if_pos hl2]
        by_cases hw : want < now
        · rw [decide_eq_true hw]
          simp only [spec_Law.j2, if_true]
          congr 1; unfold mx; omega
        · rw [decide_eq_false hw]
          simp only [spec_Law.j2, Bool.false_eq_true, if_false]
          congr 1; unfold mx; omega
      · rw [if_neg hl2, if_neg hl2]
        simp only [spec_Law.j2, Bool.false_eq_true, if_false]
  · rw [if_neg hm, if_neg hm]
    simp only [spec_Law.j2, Bool.false_eq_true, if_false]
def LimGood (lo hi step : Int) : Prop := -10000 ≤ lo ∧ lo ≤ hi ∧ hi ≤ 10000 ∧ 1 ≤ step ∧ step ≤ 10000
theorem lim_i (lo hi step : Int) : ∃ b, impl_limitsOk.f lo hi step = some b ∧ (b = true ↔ LimGood lo hi step) := by
  unfold impl_limitsOk.f LimGood
  simp only [in_i, Option.bind_some, ites]
  by_cases h : lo ≤ hi
  · rw [if_pos h]
    exact ⟨_, rfl, by simp; omega⟩
  · rw [if_neg h]
    exact ⟨_, rfl, by simp; omega⟩
theorem lim_s (lo hi step : Int) : ∃ b, spec_l9Limits.f lo hi step = some b ∧ (b = true ↔ LimGood lo hi step) := by
  unfold spec_l9Limits.f LimGood
  simp only [in_s, Option.bind_some, ites]
  by_cases h : hi ≤ 10000
  · rw [if_pos h, ites]
    exact ⟨_, rfl, by simp; omega⟩
  · rw [if_neg h]
    exact ⟨false, by cases (decide (-10000 ≤ lo) && decide (lo ≤ hi)) <;> rfl, by simp; omega⟩
theorem law_eq (n : Nat) (mode : Int) (l m : List Int) (ask rate speed load lo hi step now : Int) (hn : l.length + m.length ≤ 1048576) (hk : l.length + m.length ≤ n) : ∃ r, spec_Law.f (n + 8) mode l m ask rate speed load lo hi step now = some r ∧ impl_Law.f (n + 8) mode l m ask rate speed load lo hi step now = some r := by
  obtain ⟨b, e1, e2, e3⟩ := gainOk l m (n + 8) (by omega) (by omega)
  obtain ⟨bi, f1, f2⟩ := lim_i lo hi step
  obtain ⟨bs, g1, g2⟩ := lim_s lo hi step
  have hbs : bs = bi := by rw [Bool.eq_iff_iff]; exact g2.trans f2.symm
  subst hbs
  have hst : spec_l9Stick.f ask rate speed load = impl_stickOk.f ask rate speed load := rfl
  obtain ⟨c, hc⟩ : ∃ c, impl_stickOk.f ask rate speed load = some c := by
    unfold impl_stickOk.f
    simp only [in_i, Option.bind_some, ites]
    exact ⟨_, rfl⟩
  unfold spec_Law.f impl_Law.f
  rw [in_s, in_i, Option.bind_some, Option.bind_some, e1, e2, hst, hc, g1, f1, in_s, in_i]
  simp only [Option.bind_some]
  have bad : ∃ r, spec_Law.j0 (n + 8) mode now true l m ask rate speed load lo hi step = some r ∧ impl_Law.j0 (n + 8) mode now true l m ask rate speed load lo hi step = some r := ⟨(now, 1), rfl, rfl⟩
  by_cases h0 : (decide (0 ≤ mode) && decide (mode ≤ 2)) = true
  · rw [if_pos h0, if_pos h0]
    cases b
    · exact bad
    · cases c
      · exact bad
      · cases bs
        · exact bad
        · simp only [if_true]
          by_cases hw : lo ≤ now ∧ now ≤ hi
          · rw [decide_eq_true hw.1, decide_eq_true hw.2]
            obtain ⟨q1, q2, q3, q4, q5⟩ := f2.1 rfl
            simp only [Bool.and_self, Bool.not_true, spec_Law.j0, impl_Law.j0, Bool.false_eq_true, if_false]
            by_cases hm : mode = 2
            · rw [if_pos hm, if_pos hm, told_i, told_s, fin_i _ _ _ _ _ _ _ q1 q2 q3 q4 q5 hw.1 hw.2, fin_s _ _ _ _ _ _ _ q1 q2 q3 q4 q5 hw.1 hw.2]
              exact ⟨_, rfl, rfl⟩
            · obtain ⟨v, v1, v2, _⟩ := gainAt l m speed (n + 7) (by omega) (by omega)
              rw [if_neg hm, if_neg hm, v1, v2, Option.bind_some, Option.bind_some, told_i, told_s, fin_i _ _ _ _ _ _ _ q1 q2 q3 q4 q5 hw.1 hw.2, fin_s _ _ _ _ _ _ _ q1 q2 q3 q4 q5 hw.1 hw.2]
              exact ⟨_, rfl, rfl⟩
          · have : (decide (lo ≤ now) && decide (now ≤ hi)) = false := by
              rw [← Bool.decide_and]; exact decide_eq_false hw
            rw [this]
            exact bad
  · rw [if_neg h0, if_neg h0]
    exact bad
theorem FnExactLaw : laws_FnExactLaw.Pure := by
  intro mode l m ask rate speed load lo hi step now _ ⟨hl, _⟩ ⟨hm, _⟩ _ _ _ _ _ _ _ _
  refine ⟨(l.length + m.length) + 8, ?_⟩
  unfold laws_FnExactLaw.f
  rcases szGain l m hl hm with ⟨t, ht, h⟩ | ⟨t, ht, h, hn⟩
  · rw [ht, Option.bind_some, if_pos h]
  · rw [ht, Option.bind_some, if_neg h]
    obtain ⟨r, hs, hi⟩ := law_eq (l.length + m.length) mode l m ask rate speed load lo hi step now hn (by omega)
    simp only [laws_toStick.f, laws_toLimits.f, toGain l m (l.length + m.length + 8) hn (by omega), hs, hi, Option.bind_some, if_true, bne_self_eq_false, laws_FnExactLaw.j0, Bool.false_eq_true, if_false, toGain l m (l.length + m.length + 7) hn (by omega), eqGain l m (l.length + m.length + 7) hn (by omega)]
end Go.Proofs.Ytifcfkoohfbfoaa.Pure.FnExactLaw
namespace Go.Proofs.Ytifcfkoohfbfoaa.Pure
theorem FnExactLaw : Go.Proofs.Ytifcfkoohfbfoaa.PFnExactLaw.laws_FnExactLaw.Pure := FnExactLaw.FnExactLaw
end Go.Proofs.Ytifcfkoohfbfoaa.Pure
