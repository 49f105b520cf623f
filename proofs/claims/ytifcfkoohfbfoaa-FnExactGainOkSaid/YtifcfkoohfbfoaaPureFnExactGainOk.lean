/- For every Gain the program's GainOk answers what the reference's answers (FnExactGainOk returns true); no condition. -/
import Derived.Test.YtifcfkoohfbfoaaAskFnExactGainOk
import Derived.Test.YtifcfkoohfbfoaaNum
namespace Go.Proofs.Ytifcfkoohfbfoaa.Pure.FnExactGainOk
open Go.RowKit Go.Proofs.Ytifcfkoohfbfoaa.PFnExactGainOk Go.Proofs.YtifcfkoohfbfoaaW.PrintWords Go.Proofs.YtifcfkoohfbfoaaW.PrintLast Go.Proofs.YtifcfkoohfbfoaaW.PrintMore Go.Proofs.Ytifcfkoohfbfoaa.Num
set_option linter.unusedVariables false
set_option linter.unusedSimpArgs false
theorem in_s (a b c : Int) : spec_l1In.f a b c = some (decide (b ≤ a) && decide (a ≤ c)) := by
  unfold spec_l1In.f
  by_cases h : a ≥ b
  · rw [if_pos h, decide_eq_true (show b ≤ a from h)]; rfl
  · rw [if_neg h, decide_eq_false (show ¬ b ≤ a from h)]; rfl
theorem in_i (a b c : Int) : impl_in.f a b c = some (decide (b ≤ a) && decide (a ≤ c)) := by
  unfold impl_in.f
  by_cases h : a ≥ b
  · rw [if_pos h, decide_eq_true (show b ≤ a from h)]; rfl
  · rw [if_neg h, decide_eq_false (show ¬ b ≤ a from h)]; rfl
/-- All numbers are in bounds. -/
def All (xs : List Int) (lo hi : Int) : Prop := ∀ j : Nat, j < xs.length → lo ≤ rd xs (j : Int) ∧ rd xs (j : Int) ≤ hi
/-- Each number is above the one ahead. -/
def Rise (xs : List Int) : Prop := ∀ j : Nat, 1 ≤ j → j < xs.length → rd xs ((j - 1 : Nat) : Int) < rd xs (j : Int)
theorem allIn_l0 (xs : List Int) (lo hi : Int) (hn : xs.length ≤ 4611686018427387904) : ∀ (d k i : Nat), xs.length - i = d → i ≤ xs.length → d < k → ∃ b, impl_allIn.l0 k lo hi xs (xs.length : Int) (i : Int) = some b ∧ (b = true ↔ ∀ j : Nat, i ≤ j → j < xs.length → lo ≤ rd xs (j : Int) ∧ rd xs (j : Int) ≤ hi) := by
  intro d
  induction d with
  | zero =>
    intro k i hd hi' hk
    obtain ⟨k, rfl⟩ : ∃ m, k = m + 1 := ⟨k - 1, by omega⟩
    simp only [impl_allIn.l0]
    rw [if_neg (by omega)]
    exact ⟨true, rfl, by simp; intro j h1 h2; omega⟩
  | succ d ih =>
    intro k i hd hi' hk
    obtain ⟨k, rfl⟩ : ∃ m, k = m + 1 := ⟨k - 1, by omega⟩
    simp only [impl_allIn.l0, in_i, Option.bind_some]
    rw [if_pos (by omega), if_pos (by omega), if_pos (by omega), w64 (a := (i : Int) + 1) (by omega) (by omega), show (i : Int) + 1 = ((i + 1 : Nat) : Int) by omega, ← Bool.decide_and]
    by_cases h : lo ≤ rd xs (i : Int) ∧ rd xs (i : Int) ≤ hi
    · rw [decide_eq_true h, if_pos rfl]
      obtain ⟨b, h1, h2⟩ := ih k (i + 1) (by omega) (by omega) (by omega)
      refine ⟨b, h1, h2.trans ⟨fun g j hj hl => ?_, fun g j hj hl => g j (by omega) hl⟩⟩
      by_cases e : j = i
      · subst e; exact h
      · exact g j (by omega) hl
    · rw [decide_eq_false h, if_neg (by decide)]
      exact ⟨false, rfl, ⟨fun g => absurd g Bool.false_ne_true, fun g => absurd (g i (by omega) (by omega)) h⟩⟩
theorem allIn_i (xs : List Int) (lo hi : Int) (k : Nat) (hn : xs.length ≤ 4611686018427387904) (hk : xs.length < k) : ∃ b, impl_allIn.f k xs lo hi = some b ∧ (b = true ↔ All xs lo hi) := by
  obtain ⟨b, h1, h2⟩ := allIn_l0 xs lo hi hn xs.length k 0 (by omega) (by omega) hk
  exact ⟨b, h1, h2.trans ⟨fun g j hl => g j (by omega) hl, fun g j _ hl => g j hl⟩⟩
theorem l1All_l0 (xs : List Int) (lo hi : Int) (hn : xs.length ≤ 4611686018427387904) : ∀ (d k i : Nat), xs.length - i = d → i ≤ xs.length → d < k → ∃ b, spec_l1All.l0 k xs lo hi (i : Int) = some b ∧ (b = true ↔ ∀ j : Nat, i ≤ j → j < xs.length → lo ≤ rd xs (j : Int) ∧ rd xs (j : Int) ≤ hi) := by
  intro d
  induction d with
  | zero =>
    intro k i hd hi' hk
    obtain ⟨k, rfl⟩ : ∃ m, k = m + 1 := ⟨k - 1, by omega⟩
    simp only [spec_l1All.l0]
    rw [if_neg (by omega)]
    exact ⟨true, rfl, by simp; intro j h1 h2; omega⟩
  | succ d ih =>
    intro k i hd hi' hk
    obtain ⟨k, rfl⟩ : ∃ m, k = m + 1 := ⟨k - 1, by omega⟩
    simp only [spec_l1All.l0, in_s, Option.bind_some]
    rw [if_pos (by omega), if_pos (by omega), w64 (a := (i : Int) + 1) (by omega) (by omega), show (i : Int) + 1 = ((i + 1 : Nat) : Int) by omega, ← Bool.decide_and]
    by_cases h : lo ≤ rd xs (i : Int) ∧ rd xs (i : Int) ≤ hi
    · rw [decide_eq_true h, if_pos rfl]
      obtain ⟨b, h1, h2⟩ := ih k (i + 1) (by omega) (by omega) (by omega)
      refine ⟨b, h1, h2.trans ⟨fun g j hj hl => ?_, fun g j hj hl => g j (by omega) hl⟩⟩
      by_cases e : j = i
      · subst e; exact h
      · exact g j (by omega) hl
    · rw [decide_eq_false h, if_neg (by decide)]
      exact ⟨false, rfl, ⟨fun g => absurd g Bool.false_ne_true, fun g => absurd (g i (by omega) (by omega)) h⟩⟩
theorem all_s (xs : List Int) (lo hi : Int) (k : Nat) (hn : xs.length ≤ 4611686018427387904) (hk : xs.length < k) : ∃ b, spec_l1All.f k xs lo hi = some b ∧ (b = true ↔ All xs lo hi) := by
  obtain ⟨b, h1, h2⟩ := l1All_l0 xs lo hi hn xs.length k 0 (by omega) (by omega) hk
  exact ⟨b, h1, h2.trans ⟨fun g j hl => g j (by omega) hl, fun g j _ hl => g j hl⟩⟩
theorem rise_l0 (xs : List Int) (hn : xs.length ≤ 4611686018427387904) : ∀ (d k i : Nat), xs.length - i = d → 1 ≤ i → d < k → ∃ b, spec_l1Rise.l0 k xs (i : Int) = some b ∧ (b = true ↔ ∀ j : Nat, i ≤ j → j < xs.length → rd xs ((j - 1 : Nat) : Int) < rd xs (j : Int)) := by
  intro d
  induction d with
  | zero =>
    intro k i hd hi' hk
    obtain ⟨k, rfl⟩ : ∃ m, k = m + 1 := ⟨k - 1, by omega⟩
    simp only [spec_l1Rise.l0]
    rw [if_neg (by omega)]
    exact ⟨true, rfl, by simp; intro j h1 h2; omega⟩
  | succ d ih =>
    intro k i hd hi' hk
    obtain ⟨k, rfl⟩ : ∃ m, k = m + 1 := ⟨k - 1, by omega⟩
    simp only [spec_l1Rise.l0]
    rw [w64 (a := (i : Int) - 1) (by omega) (by omega), if_pos (by omega), if_pos (by omega), if_pos (by omega), if_pos (by omega), w64 (a := (i : Int) + 1) (by omega) (by omega), show (i : Int) + 1 = ((i + 1 : Nat) : Int) by omega, show (i : Int) - 1 = ((i - 1 : Nat) : Int) by omega]
    by_cases h : rd xs ((i - 1 : Nat) : Int) ≥ rd xs (i : Int)
    · rw [if_pos h]
      exact ⟨false, rfl, ⟨fun g => absurd g Bool.false_ne_true, fun g => by have := g i (by omega) (by omega); omega⟩⟩
    · rw [if_neg h]
      obtain ⟨b, h1, h2⟩ := ih k (i + 1) (by omega) (by omega) (by omega)
      refine ⟨b, h1, h2.trans ⟨fun g j hj hl => ?_, fun g j hj hl => g j (by omega) hl⟩⟩
      by_cases e : j = i
      · subst e; omega
      · exact g j (by omega) hl
theorem rise_s (xs : List Int) (k : Nat) (hn : xs.length ≤ 4611686018427387904) (hk : xs.length < k) : ∃ b, spec_l1Rise.f k xs = some b ∧ (b = true ↔ Rise xs) := by
  obtain ⟨b, h1, h2⟩ := rise_l0 xs hn (xs.length - 1) k 1 (by omega) (by omega) (by omega)
  exact ⟨b, h1, h2⟩
theorem ascends_l0 (xs : List Int) (lo hi : Int) (hn : xs.length ≤ 4611686018427387904) : ∀ (d k i : Nat), xs.length - i = d → i ≤ xs.length → d < k → ∃ b, impl_ascends.l0 k xs lo hi xs (xs.length : Int) (i : Int) = some b ∧ (b = true ↔ (∀ j : Nat, i ≤ j → j < xs.length → lo ≤ rd xs (j : Int) ∧ rd xs (j : Int) ≤ hi) ∧ ∀ j : Nat, i ≤ j → 1 ≤ j → j < xs.length → rd xs ((j - 1 : Nat) : Int) < rd xs (j : Int)) := by
  intro d
  induction d with
  | zero =>
    intro k i hd hi' hk
    obtain ⟨k, rfl⟩ : ∃ m, k = m + 1 := ⟨k - 1, by omega⟩
    simp only [impl_ascends.l0]
    rw [if_neg (by omega)]
    exact ⟨true, rfl, ⟨fun _ => ⟨fun j h1 h2 => by omega, fun j h1 h2 h3 => by omega⟩, fun _ => rfl⟩⟩
  | succ d ih =>
    intro k i hd hi' hk
    obtain ⟨k, rfl⟩ : ∃ m, k = m + 1 := ⟨k - 1, by omega⟩
    simp only [impl_ascends.l0, in_i, Option.bind_some]
    rw [if_pos (by omega), if_pos (by omega), if_pos (by omega), w64 (a := (i : Int) + 1) (by omega) (by omega), show (i : Int) + 1 = ((i + 1 : Nat) : Int) by omega, ← Bool.decide_and]
    by_cases h : lo ≤ rd xs (i : Int) ∧ rd xs (i : Int) ≤ hi
    · rw [decide_eq_true h, if_pos rfl]
      obtain ⟨b, h1, h2⟩ := ih k (i + 1) (by omega) (by omega) (by omega)
      by_cases hp : (i : Int) > 0
      · rw [if_pos hp, w64 (a := (i : Int) - 1) (by omega) (by omega), if_pos (by omega), if_pos (by omega), show (i : Int) - 1 = ((i - 1 : Nat) : Int) by omega]
        by_cases hr : rd xs ((i - 1 : Nat) : Int) ≥ rd xs (i : Int)
        · rw [if_pos hr]
          exact ⟨false, rfl, ⟨fun g => absurd g Bool.false_ne_true, fun g => by have := g.2 i (by omega) (by omega) (by omega); omega⟩⟩
        · rw [if_neg hr]
          refine ⟨b, h1, h2.trans ⟨fun g => ⟨fun j hj hl => ?_, fun j hj h1j hl => ?_⟩, fun g => ⟨fun j hj hl => g.1 j (by omega) hl, fun j hj h1j hl => g.2 j (by omega) h1j hl⟩⟩⟩
          · by_cases e : j = i
            · subst e; exact h
            · exact g.1 j (by omega) hl
          · by_cases e : j = i
            · subst e; omega
            · exact g.2 j (by omega) h1j hl
      · rw [if_neg hp]
        refine ⟨b, h1, h2.trans ⟨fun g => ⟨fun j hj hl => ?_, fun j hj h1j hl => ?_⟩, fun g => ⟨fun j hj hl => g.1 j (by omega) hl, fun j hj h1j hl => g.2 j (by omega) h1j hl⟩⟩⟩
        · by_cases e : j = i
          · subst e; exact h
          · exact g.1 j (by omega) hl
        · exact g.2 j (by omega) h1j hl
    · rw [decide_eq_false h, if_neg (by decide)]
      exact ⟨false, rfl, ⟨fun g => absurd g Bool.false_ne_true, fun g => absurd (g.1 i (by omega) (by omega)) h⟩⟩
theorem ascends_i (xs : List Int) (lo hi : Int) (k : Nat) (hn : xs.length ≤ 4611686018427387904) (hk : xs.length < k) : ∃ b, impl_ascends.f k xs lo hi = some b ∧ (b = true ↔ Rise xs ∧ All xs lo hi) := by
  obtain ⟨b, h1, h2⟩ := ascends_l0 xs lo hi hn xs.length k 0 (by omega) (by omega) hk
  exact ⟨b, h1, h2.trans ⟨fun g => ⟨fun j h1 hl => g.2 j (by omega) h1 hl, fun j hl => g.1 j (by omega) hl⟩, fun g => ⟨fun j _ hl => g.2 j hl, fun j _ h1 hl => g.1 j h1 hl⟩⟩⟩
theorem laws_toIntS_l0 (x0 : List Int) (hn : x0.length ≤ 4611686018427387904) : ∀ (d k i : Nat) (x3 : List Int), x0.length - i = d → i ≤ x0.length → d < k → x3.length = x0.length → (∀ j, j < i → x3[j]? = x0[j]?) → laws_toIntS.l0 k x0 x3 (i : Int) = some x0 := by
  intro d
  induction d with
  | zero =>
    intro k i x3 hd hi hk hl hj
    obtain ⟨k, rfl⟩ : ∃ m, k = m + 1 := ⟨k - 1, by omega⟩
    simp only [laws_toIntS.l0]
    rw [if_neg (by omega)]
    congr 1
    apply List.ext_getElem?
    intro j
    by_cases h : j < i
    · exact hj j h
    · rw [List.getElem?_eq_none (by omega), List.getElem?_eq_none (by omega)]
  | succ d ih =>
    intro k i x3 hd hi hk hl hj
    obtain ⟨k, rfl⟩ : ∃ m, k = m + 1 := ⟨k - 1, by omega⟩
    have hlt : i < x0.length := by omega
    simp only [laws_toIntS.l0]
    rw [if_pos (by omega), if_pos (by omega), if_pos (by omega), w64 (a := (i : Int) + 1) (by omega) (by omega), show (i : Int) + 1 = ((i + 1 : Nat) : Int) by omega]
    refine ih k (i + 1) _ (by omega) (by omega) (by omega) (by simpa using hl) ?_
    intro j hj'
    have hr : rd x0 (i : Int) = x0[i] := by
      show x0.getD (i : Int).toNat 0 = _
      rw [Int.toNat_natCast, List.getD_eq_getElem?_getD, List.getElem?_eq_getElem hlt]; rfl
    simp only [Int.toNat_natCast, hr]
    by_cases e : j = i
    · subst e
      rw [List.getElem?_set_self (by omega), List.getElem?_eq_getElem hlt]
    · rw [List.getElem?_set_ne (fun h => e h.symm)]
      exact hj j (by omega)
theorem laws_toIntS_eq (x0 : List Int) (k : Nat) (hn : x0.length ≤ 35184372088832) (hk : x0.length < k) : laws_toIntS.f k x0 = some x0 := by
  unfold laws_toIntS.f
  rw [if_pos (by omega), if_pos (by rw [Int.toNat_natCast]; omega), Int.toNat_natCast]
  exact laws_toIntS_l0 x0 (by omega) x0.length k 0 _ (by omega) (by omega) hk (by simp) (fun j hj => by omega)

theorem laws_eqIntS_l0 (x0 : List Int) (hn : x0.length ≤ 4611686018427387904) : ∀ (d k i : Nat), x0.length - i = d → i ≤ x0.length → d < k → laws_eqIntS.l0 k x0 x0 (i : Int) = some true := by
  intro d
  induction d with
  | zero =>
    intro k i hd hi hk
    obtain ⟨k, rfl⟩ : ∃ m, k = m + 1 := ⟨k - 1, by omega⟩
    simp only [laws_eqIntS.l0]
    rw [if_neg (by omega)]
  | succ d ih =>
    intro k i hd hi hk
    obtain ⟨k, rfl⟩ : ∃ m, k = m + 1 := ⟨k - 1, by omega⟩
    simp only [laws_eqIntS.l0]
    rw [if_pos (by omega), if_pos (by omega), if_pos (by omega), w64 (a := (i : Int) + 1) (by omega) (by omega), show (i : Int) + 1 = ((i + 1 : Nat) : Int) by omega]
    rw [if_pos trivial]
    exact ih k (i + 1) (by omega) (by omega) (by omega)
theorem laws_eqIntS_eq (x0 : List Int) (k : Nat) (hn : x0.length ≤ 4611686018427387904) (hk : x0.length < k) : laws_eqIntS.f k x0 x0 = some true := by
  unfold laws_eqIntS.f
  rw [if_pos rfl]
  exact laws_eqIntS_l0 x0 hn x0.length k 0 (by omega) (by omega) hk

def GainGood (l m : List Int) : Prop := (2 ≤ (l.length : Int) ∧ (l.length : Int) ≤ 8) ∧ (m.length : Int) = (l.length : Int) ∧ Rise l ∧ All l 0 1000 ∧ All m 0 1000
theorem gainOk (l m : List Int) (k : Nat) (hn : l.length + m.length ≤ 4611686018427387904) (hk : l.length + m.length < k) : ∃ b, spec_GainOk.f k l m = some b ∧ impl_GainOk.f k l m = some b ∧ (b = true ↔ GainGood l m) := by
  obtain ⟨b1, e1, g1⟩ := all_s l 0 1000 k (by omega) (by omega)
  obtain ⟨b2, e2, g2⟩ := all_s m 0 1000 k (by omega) (by omega)
  obtain ⟨b3, e3, g3⟩ := rise_s l k (by omega) (by omega)
  obtain ⟨b4, e4, g4⟩ := ascends_i l 0 1000 k (by omega) (by omega)
  obtain ⟨b5, e5, g5⟩ := allIn_i m 0 1000 k (by omega) (by omega)
  unfold spec_GainOk.f impl_GainOk.f
  simp only [in_s, in_i, e1, e2, e3, e4, e5, Option.bind_some, ← Bool.decide_and]
  by_cases h1 : (2 : Int) ≤ (l.length : Int) ∧ (l.length : Int) ≤ 8
  · rw [decide_eq_true h1, if_pos rfl, if_pos rfl]
    by_cases h2 : (m.length : Int) = (l.length : Int)
    · rw [if_pos h2, if_pos h2]
      have e : b5 = b2 := by rw [Bool.eq_iff_iff]; exact g5.trans g2.symm
      subst e
      have e' : b4 = (b3 && b1) := by rw [Bool.eq_iff_iff, Bool.and_eq_true, g3, g1]; exact g4
      subst e'
      refine ⟨b3 && b1 && b5, ?_, ?_, ?_⟩
      · cases b3 <;> cases b1 <;> rfl
      · cases b3 <;> cases b1 <;> rfl
      · rw [Bool.and_eq_true, Bool.and_eq_true, g3, g1, g5]
        exact ⟨fun ⟨⟨a, b⟩, c⟩ => ⟨h1, h2, a, b, c⟩, fun ⟨_, _, a, b, c⟩ => ⟨⟨a, b⟩, c⟩⟩
    · rw [if_neg h2, if_neg h2]
      exact ⟨false, rfl, rfl, ⟨fun g => absurd g Bool.false_ne_true, fun g => absurd g.2.1 h2⟩⟩
  · rw [decide_eq_false h1, if_neg (by decide), if_neg (by decide)]
    exact ⟨false, rfl, rfl, ⟨fun g => absurd g Bool.false_ne_true, fun g => absurd g.1 h1⟩⟩
theorem FnExactGainOk : laws_FnExactGainOk.Pure := by
  intro l m ⟨hl, _⟩ ⟨hm, _⟩
  have hl' : l.length ≤ 9223372036854775807 := hl
  have hm' : m.length ≤ 9223372036854775807 := hm
  refine ⟨l.length + m.length + 1, ?_⟩
  unfold laws_FnExactGainOk.f laws_szGain.f laws_szIntS.f
  rw [w64 (a := 1048576 - (l.length : Int)) (by omega) (by omega)]
  by_cases h : (1048576 : Int) - (l.length : Int) < 0
  · rw [if_pos h]; rfl
  · rw [if_neg h, Option.bind_some, if_neg h, w64 (a := 1048576 - (l.length : Int) - (m.length : Int)) (by omega) (by omega)]
    by_cases h2 : (1048576 : Int) - (l.length : Int) - (m.length : Int) < 0
    · rw [if_pos h2]; rfl
    · rw [if_neg h2, Option.bind_some, if_neg h2, Option.bind_some, if_neg h2]
      have ht : laws_toGain.f (l.length + m.length + 1) l m = some (l, m) := by
        unfold laws_toGain.f
        rw [laws_toIntS_eq l _ (by omega) (by omega), laws_toIntS_eq m _ (by omega) (by omega)]; rfl
      obtain ⟨b, hs, hi, _⟩ := gainOk l m (l.length + m.length + 1) (by omega) (by omega)
      have he : laws_eqGain.f (l.length + m.length + 1) l m l m = some true := by
        unfold laws_eqGain.f
        rw [laws_eqIntS_eq l _ (by omega) (by omega), laws_eqIntS_eq m _ (by omega) (by omega)]; rfl
      simp only [ht, hs, hi, he, Option.bind_some, if_true, bne_self_eq_false, Bool.false_eq_true, if_false]
end Go.Proofs.Ytifcfkoohfbfoaa.Pure.FnExactGainOk
namespace Go.Proofs.Ytifcfkoohfbfoaa.Pure
theorem FnExactGainOk : Go.Proofs.Ytifcfkoohfbfoaa.PFnExactGainOk.laws_FnExactGainOk.Pure := FnExactGainOk.FnExactGainOk
end Go.Proofs.Ytifcfkoohfbfoaa.Pure
