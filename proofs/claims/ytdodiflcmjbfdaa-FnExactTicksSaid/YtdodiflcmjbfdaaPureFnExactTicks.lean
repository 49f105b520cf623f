/- For every Pilot and list of drifts the program's Ticks answers what the reference's answers, keeps nothing and writes nothing (FnExactTicks returns true); no condition. -/
import Derived.Test.YtdodiflcmjbfdaaAskFnExactTicks
import Derived.Test.YtdodiflcmjbfdaaNum
namespace Go.Proofs.Ytdodiflcmjbfdaa.Pure.FnExactTicks
open Go.RowKit Go.Proofs.Ytdodiflcmjbfdaa.PFnExactTicks Go.Proofs.YtdodiflcmjbfdaaW.PrintWords Go.Proofs.YtdodiflcmjbfdaaW.PrintLast Go.Proofs.YtdodiflcmjbfdaaW.PrintMore Go.Proofs.Ytdodiflcmjbfdaa.Num
set_option linter.unusedVariables false
set_option linter.unusedSimpArgs false
theorem in_s (a b c : Int) : spec_l1In.f a b c = some (decide (b ≤ a) && decide (a ≤ c)) := by
  unfold spec_l1In.f
  by_cases h : a ≥ b
  · rw [if_pos h, decide_eq_true (show b ≤ a from h)]; rfl
  · rw [if_neg h, decide_eq_false (show ¬ b ≤ a from h)]; rfl
theorem in_i (a b c : Int) : impl_in.f a b c = some (decide (b ≤ a) && decide (a ≤ c)) := by
  unfold impl_in.f
  by_cases h : a ≥ b
  · rw [if_pos h, decide_eq_true (show b ≤ a from h)]; rfl
  · rw [if_neg h, decide_eq_false (show ¬ b ≤ a from h)]; rfl
/-- All numbers are in bounds. -/
def All (xs : List Int) (lo hi : Int) : Prop := ∀ j : Nat, j < xs.length → lo ≤ rd xs (j : Int) ∧ rd xs (j : Int) ≤ hi
/-- Each number is above the one ahead. -/
def Rise (xs : List Int) : Prop := ∀ j : Nat, 1 ≤ j → j < xs.length → rd xs ((j - 1 : Nat) : Int) < rd xs (j : Int)
theorem l1All_l0 (xs : List Int) (lo hi : Int) (hn : xs.length ≤ 4611686018427387904) : ∀ (d k i : Nat), xs.length - i = d → i ≤ xs.length → d < k → ∃ b, spec_l1All.l0 k xs lo hi (i : Int) = some b ∧ (b = true ↔ ∀ j : Nat, i ≤ j → j < xs.length → lo ≤ rd xs (j : Int) ∧ rd xs (j : Int) ≤ hi) := by
  intro d
  induction d with
  | zero =>
    intro k i hd hi' hk
    obtain ⟨k, rfl⟩ : ∃ m, k = m + 1 := ⟨k - 1, by omega⟩
    simp only [spec_l1All.l0]
    rw [if_neg (by omega)]
    exact ⟨true, rfl, by simp; intro j h1 h2; omega⟩
  | succ d ih =>
    intro k i hd hi' hk
    obtain ⟨k, rfl⟩ : ∃ m, k = m + 1 := ⟨k - 1, by omega⟩
    simp only [spec_l1All.l0, in_s, Option.bind_some]
    rw [if_pos (by omega), if_pos (by omega), w64 (a := (i : Int) + 1) (by omega) (by omega), show (i : Int) + 1 = ((i + 1 : Nat) : Int) by omega, ← Bool.decide_and]
    by_cases h : lo ≤ rd xs (i : Int) ∧ rd xs (i : Int) ≤ hi
    · rw [decide_eq_true h, if_pos rfl]
      obtain ⟨b, h1, h2⟩ := ih k (i + 1) (by omega) (by omega) (by omega)
      refine ⟨b, h1, h2.trans ⟨fun g j hj hl => ?_, fun g j hj hl => g j (by omega) hl⟩⟩
      by_cases e : j = i
      · subst e; exact h
      · exact g j (by omega) hl
    · rw [decide_eq_false h, if_neg (by decide)]
      exact ⟨false, rfl, ⟨fun g => absurd g Bool.false_ne_true, fun g => absurd (g i (by omega) (by omega)) h⟩⟩
theorem all_s (xs : List Int) (lo hi : Int) (k : Nat) (hn : xs.length ≤ 4611686018427387904) (hk : xs.length < k) : ∃ b, spec_l1All.f k xs lo hi = some b ∧ (b = true ↔ All xs lo hi) := by
  obtain ⟨b, h1, h2⟩ := l1All_l0 xs lo hi hn xs.length k 0 (by omega) (by omega) hk
  exact ⟨b, h1, h2.trans ⟨fun g j hl => g j (by omega) hl, fun g j _ hl => g j hl⟩⟩
theorem laws_toIntS_l0 (x0 : List Int) (hn : x0.length ≤ 4611686018427387904) : ∀ (d k i : Nat) (x3 : List Int), x0.length - i = d → i ≤ x0.length → d < k → x3.length = x0.length → (∀ j, j < i → x3[j]? = x0[j]?) → laws_toIntS.l0 k x0 x3 (i : Int) = some x0 := by
  intro d
  induction d with
  | zero =>
    intro k i x3 hd hi hk hl hj
    obtain ⟨k, rfl⟩ : ∃ m, k = m + 1 := ⟨k - 1, by omega⟩
    simp only [laws_toIntS.l0]
    rw [if_neg (by omega)]
    congr 1
    apply List.ext_getElem?
    intro j
    by_cases h : j < i
    · exact hj j h
    · rw [List.getElem?_eq_none (by omega), List.getElem?_eq_none (by omega)]
  | succ d ih =>
    intro k i x3 hd hi hk hl hj
    obtain ⟨k, rfl⟩ : ∃ m, k = m + 1 := ⟨k - 1, by omega⟩
    have hlt : i < x0.length := by omega
    simp only [laws_toIntS.l0]
    rw [if_pos (by omega), if_pos (by omega), if_pos (by omega), w64 (a := (i : Int) + 1) (by omega) (by omega), show (i : Int) + 1 = ((i + 1 : Nat) : Int) by omega]
    refine ih k (i + 1) _ (by omega) (by omega) (by omega) (by simpa using hl) ?_
    intro j hj'
    have hr : rd x0 (i : Int) = x0[i] := by
      show x0.getD (i : Int).toNat 0 = _
      rw [Int.toNat_natCast, List.getD_eq_getElem?_getD, List.getElem?_eq_getElem hlt]; rfl
    simp only [Int.toNat_natCast, hr]
    by_cases e : j = i
    · subst e
      rw [List.getElem?_set_self (by omega), List.getElem?_eq_getElem hlt]
    · rw [List.getElem?_set_ne (fun h => e h.symm)]
      exact hj j (by omega)
theorem laws_toIntS_eq (x0 : List Int) (k : Nat) (hn : x0.length ≤ 35184372088832) (hk : x0.length < k) : laws_toIntS.f k x0 = some x0 := by
  unfold laws_toIntS.f
  rw [if_pos (by omega), if_pos (by rw [Int.toNat_natCast]; omega), Int.toNat_natCast]
  exact laws_toIntS_l0 x0 (by omega) x0.length k 0 _ (by omega) (by omega) hk (by simp) (fun j hj => by omega)

theorem laws_eqIntS_l0 (x0 : List Int) (hn : x0.length ≤ 4611686018427387904) : ∀ (d k i : Nat), x0.length - i = d → i ≤ x0.length → d < k → laws_eqIntS.l0 k x0 x0 (i : Int) = some true := by
  intro d
  induction d with
  | zero =>
    intro k i hd hi hk
    obtain ⟨k, rfl⟩ : ∃ m, k = m + 1 := ⟨k - 1, by omega⟩
    simp only [laws_eqIntS.l0]
    rw [if_neg (by omega)]
  | succ d ih =>
    intro k i hd hi hk
    obtain ⟨k, rfl⟩ : ∃ m, k = m + 1 := ⟨k - 1, by omega⟩
    simp only [laws_eqIntS.l0]
    rw [if_pos (by omega), if_pos (by omega), if_pos (by omega), w64 (a := (i : Int) + 1) (by omega) (by omega), show (i : Int) + 1 = ((i + 1 : Nat) : Int) by omega]
    rw [if_pos trivial]
    exact ih k (i + 1) (by omega) (by omega) (by omega)
theorem laws_eqIntS_eq (x0 : List Int) (k : Nat) (hn : x0.length ≤ 4611686018427387904) (hk : x0.length < k) : laws_eqIntS.f k x0 x0 = some true := by
  unfold laws_eqIntS.f
  rw [if_pos rfl]
  exact laws_eqIntS_l0 x0 hn x0.length k 0 (by omega) (by omega) hk

theorem laws_eqPilotS_l0 (x0 : List S25) (hn : x0.length ≤ 4611686018427387904) : ∀ (d k i : Nat), x0.length - i = d → i ≤ x0.length → d < k → laws_eqPilotS.l0 k x0 x0 (i : Int) = some true := by
  intro d
  induction d with
  | zero =>
    intro k i hd hi hk
    obtain ⟨k, rfl⟩ : ∃ m, k = m + 1 := ⟨k - 1, by omega⟩
    simp only [laws_eqPilotS.l0]
    rw [if_neg (by omega)]
  | succ d ih =>
    intro k i hd hi hk
    obtain ⟨k, rfl⟩ : ∃ m, k = m + 1 := ⟨k - 1, by omega⟩
    simp only [laws_eqPilotS.l0, laws_eqPilot.f, if_true, bne_self_eq_false, Bool.false_eq_true, if_false, Option.bind_some]
    rw [if_pos (by omega), if_pos (by omega), if_pos (by omega), w64 (a := (i : Int) + 1) (by omega) (by omega), show (i : Int) + 1 = ((i + 1 : Nat) : Int) by omega]
    exact ih k (i + 1) (by omega) (by omega) (by omega)
theorem laws_eqPilotS_eq (x0 : List S25) (k : Nat) (hn : x0.length ≤ 4611686018427387904) (hk : x0.length < k) : laws_eqPilotS.f k x0 x0 = some true := by
  unfold laws_eqPilotS.f
  rw [if_pos rfl]
  exact laws_eqPilotS_l0 x0 hn x0.length k 0 (by omega) (by omega) hk

theorem laws_markPilotS_rs (x : List S25) (i : Nat) (v : S25) (h : i < x.length) : rd_T25 (x.set (i : Int).toNat v) (i : Int) = v := by
  show (x.set (i : Int).toNat v).getD (i : Int).toNat z25 = _
  rw [Int.toNat_natCast, List.getD_eq_getElem?_getD, List.getElem?_set_self h]; rfl
theorem laws_markPilotS_l0 (m : Int) (n : Nat) (hm : 0 ≤ m) (hn : m + 9 * n ≤ 4611686018427387904) : ∀ (d k i : Nat) (x0 : List S25), x0.length = n → n - i = d → i ≤ n → d < k → (∀ j : Nat, j < i → x0[j]? = some (⟨m + 9 * (j : Int), m + 9 * (j : Int) + 1, m + 9 * (j : Int) + 1 + 1, m + 9 * (j : Int) + 1 + 1 + 1, m + 9 * (j : Int) + 1 + 1 + 1 + 1, m + 9 * (j : Int) + 1 + 1 + 1 + 1 + 1, m + 9 * (j : Int) + 1 + 1 + 1 + 1 + 1 + 1, m + 9 * (j : Int) + 1 + 1 + 1 + 1 + 1 + 1 + 1, (Int.tmod (m + 9 * (j : Int) + 1 + 1 + 1 + 1 + 1 + 1 + 1 + 1) 3 == 0)⟩ : S25)) → ∃ x, laws_markPilotS.l0 k x0 (m + 9 * (i : Int)) (i : Int) = some (m + 9 * n, x) ∧ x.length = n ∧ ∀ j : Nat, j < n → x[j]? = some (⟨m + 9 * (j : Int), m + 9 * (j : Int) + 1, m + 9 * (j : Int) + 1 + 1, m + 9 * (j : Int) + 1 + 1 + 1, m + 9 * (j : Int) + 1 + 1 + 1 + 1, m + 9 * (j : Int) + 1 + 1 + 1 + 1 + 1, m + 9 * (j : Int) + 1 + 1 + 1 + 1 + 1 + 1, m + 9 * (j : Int) + 1 + 1 + 1 + 1 + 1 + 1 + 1, (Int.tmod (m + 9 * (j : Int) + 1 + 1 + 1 + 1 + 1 + 1 + 1 + 1) 3 == 0)⟩ : S25) := by
  intro d
  induction d with
  | zero =>
    intro k i x0 hl hd hi hk hj
    obtain ⟨k, rfl⟩ : ∃ m, k = m + 1 := ⟨k - 1, by omega⟩
    obtain rfl : i = n := by omega
    simp only [laws_markPilotS.l0]
    rw [if_neg (by omega)]
    exact ⟨x0, rfl, hl, hj⟩
  | succ d ih =>
    intro k i x0 hl hd hi hk hj
    obtain ⟨k, rfl⟩ : ∃ m, k = m + 1 := ⟨k - 1, by omega⟩
    have hlt : i < x0.length := by omega
    have rs : ∀ v, rd_T25 (x0.set (i : Int).toNat v) (i : Int) = v := fun v => laws_markPilotS_rs x0 i v hlt
    simp only [laws_markPilotS.l0, Option.bind_some, rs, List.set_set]
    rw [if_pos (by omega), if_pos (by omega), w64 (a := (i : Int) + 1) (by omega) (by omega), w64 (a := m + 9 * (i : Int) + 1) (by omega) (by omega), w64 (a := m + 9 * (i : Int) + 1 + 1) (by omega) (by omega), w64 (a := m + 9 * (i : Int) + 1 + 1 + 1) (by omega) (by omega), w64 (a := m + 9 * (i : Int) + 1 + 1 + 1 + 1) (by omega) (by omega), w64 (a := m + 9 * (i : Int) + 1 + 1 + 1 + 1 + 1) (by omega) (by omega), w64 (a := m + 9 * (i : Int) + 1 + 1 + 1 + 1 + 1 + 1) (by omega) (by omega), w64 (a := m + 9 * (i : Int) + 1 + 1 + 1 + 1 + 1 + 1 + 1) (by omega) (by omega), w64 (a := m + 9 * (i : Int) + 1 + 1 + 1 + 1 + 1 + 1 + 1 + 1) (by omega) (by omega), w64 (a := m + 9 * (i : Int) + 1 + 1 + 1 + 1 + 1 + 1 + 1 + 1 + 1) (by omega) (by omega), show (i : Int) + 1 = ((i + 1 : Nat) : Int) by omega, show m + 9 * (i : Int) + 1 + 1 + 1 + 1 + 1 + 1 + 1 + 1 + 1 = m + 9 * ((i + 1 : Nat) : Int) by omega]
    refine ih k (i + 1) _ (by simpa using hl) (by omega) (by omega) (by omega) ?_
    intro j hj'
    rw [Int.toNat_natCast]
    by_cases e : j = i
    · subst e
      rw [List.getElem?_set_self (by omega)]
    · rw [List.getElem?_set_ne (fun h => e h.symm)]
      exact hj j (by omega)
theorem laws_heldPilotS_l0 (m : Int) (n : Nat) (hm : 0 ≤ m) (hn : m + 9 * n ≤ 4611686018427387904) (x : List S25) (hl : x.length = n) (hx : ∀ j : Nat, j < n → x[j]? = some (⟨m + 9 * (j : Int), m + 9 * (j : Int) + 1, m + 9 * (j : Int) + 1 + 1, m + 9 * (j : Int) + 1 + 1 + 1, m + 9 * (j : Int) + 1 + 1 + 1 + 1, m + 9 * (j : Int) + 1 + 1 + 1 + 1 + 1, m + 9 * (j : Int) + 1 + 1 + 1 + 1 + 1 + 1, m + 9 * (j : Int) + 1 + 1 + 1 + 1 + 1 + 1 + 1, (Int.tmod (m + 9 * (j : Int) + 1 + 1 + 1 + 1 + 1 + 1 + 1 + 1) 3 == 0)⟩ : S25)) : ∀ (d k i : Nat), n - i = d → i ≤ n → d < k → laws_heldPilotS.l0 k x (m + 9 * (i : Int)) (i : Int) = some (m + 9 * n) := by
  intro d
  induction d with
  | zero =>
    intro k i hd hi hk
    obtain ⟨k, rfl⟩ : ∃ m, k = m + 1 := ⟨k - 1, by omega⟩
    obtain rfl : i = n := by omega
    simp only [laws_heldPilotS.l0]
    rw [if_neg (by omega)]
  | succ d ih =>
    intro k i hd hi hk
    obtain ⟨k, rfl⟩ : ∃ m, k = m + 1 := ⟨k - 1, by omega⟩
    have hr : rd_T25 x (i : Int) = (⟨m + 9 * (i : Int), m + 9 * (i : Int) + 1, m + 9 * (i : Int) + 1 + 1, m + 9 * (i : Int) + 1 + 1 + 1, m + 9 * (i : Int) + 1 + 1 + 1 + 1, m + 9 * (i : Int) + 1 + 1 + 1 + 1 + 1, m + 9 * (i : Int) + 1 + 1 + 1 + 1 + 1 + 1, m + 9 * (i : Int) + 1 + 1 + 1 + 1 + 1 + 1 + 1, (Int.tmod (m + 9 * (i : Int) + 1 + 1 + 1 + 1 + 1 + 1 + 1 + 1) 3 == 0)⟩ : S25) := by
      show x.getD (i : Int).toNat z25 = _
      rw [Int.toNat_natCast, List.getD_eq_getElem?_getD, hx i (by omega)]; rfl
    have wi : wrap64 ((i : Int) + 1) = ((i + 1 : Nat) : Int) := by rw [w64 (by omega) (by omega)]; omega
    have w1 : wrap64 (m + 9 * (i : Int) + 1) = m + 9 * (i : Int) + 1 := w64 (by omega) (by omega)
    have w2 : wrap64 (m + 9 * (i : Int) + 1 + 1) = m + 9 * (i : Int) + 1 + 1 := w64 (by omega) (by omega)
    have w3 : wrap64 (m + 9 * (i : Int) + 1 + 1 + 1) = m + 9 * (i : Int) + 1 + 1 + 1 := w64 (by omega) (by omega)
    have w4 : wrap64 (m + 9 * (i : Int) + 1 + 1 + 1 + 1) = m + 9 * (i : Int) + 1 + 1 + 1 + 1 := w64 (by omega) (by omega)
    have w5 : wrap64 (m + 9 * (i : Int) + 1 + 1 + 1 + 1 + 1) = m + 9 * (i : Int) + 1 + 1 + 1 + 1 + 1 := w64 (by omega) (by omega)
    have w6 : wrap64 (m + 9 * (i : Int) + 1 + 1 + 1 + 1 + 1 + 1) = m + 9 * (i : Int) + 1 + 1 + 1 + 1 + 1 + 1 := w64 (by omega) (by omega)
    have w7 : wrap64 (m + 9 * (i : Int) + 1 + 1 + 1 + 1 + 1 + 1 + 1) = m + 9 * (i : Int) + 1 + 1 + 1 + 1 + 1 + 1 + 1 := w64 (by omega) (by omega)
    have w8 : wrap64 (m + 9 * (i : Int) + 1 + 1 + 1 + 1 + 1 + 1 + 1 + 1) = m + 9 * (i : Int) + 1 + 1 + 1 + 1 + 1 + 1 + 1 + 1 := w64 (by omega) (by omega)
    have w9 : wrap64 (m + 9 * (i : Int) + 1 + 1 + 1 + 1 + 1 + 1 + 1 + 1 + 1) = m + 9 * (i : Int) + 1 + 1 + 1 + 1 + 1 + 1 + 1 + 1 + 1 := w64 (by omega) (by omega)
    have wn : m + 9 * (i : Int) + 1 + 1 + 1 + 1 + 1 + 1 + 1 + 1 + 1 = m + 9 * ((i + 1 : Nat) : Int) := by omega
    simp only [laws_heldPilotS.l0, hr, wi, w1, w2, w3, w4, w5, w6, w7, w8, w9, if_true, bne_self_eq_false, Bool.false_eq_true, if_false]
    rw [if_pos (by omega), if_pos (by omega), wn]
    exact ih k (i + 1) (by omega) (by omega) (by omega)
theorem marked (l : List S25) (m : Int) (hm : 0 ≤ m) (hn : m + 9 * l.length ≤ 4611686018427387904) : ∃ x, (∀ k, l.length < k → laws_markPilotS.f k l m = some (m + 9 * l.length, x)) ∧ x.length = l.length ∧ ∀ k', l.length < k' → laws_heldPilotS.f k' x m = some (m + 9 * l.length) := by
  have hz : m + 9 * ((0 : Nat) : Int) = m := by omega
  obtain ⟨x, h1, h2, h3⟩ := laws_markPilotS_l0 m l.length hm hn l.length (l.length + 1) 0 l rfl (by omega) (by omega) (by omega) (fun j hj => by omega)
  refine ⟨x, fun k hk => ?_, h2, fun k' hk' => ?_⟩
  · obtain ⟨y, g1, g2, g3⟩ := laws_markPilotS_l0 m l.length hm hn l.length k 0 l rfl (by omega) (by omega) hk (fun j hj => by omega)
    have e : y = x := by
      apply List.ext_getElem?
      intro j
      by_cases h : j < l.length
      · rw [g3 j h, h3 j h]
      · rw [List.getElem?_eq_none (by omega), List.getElem?_eq_none (by omega)]
    unfold laws_markPilotS.f
    rw [hz] at g1
    rw [← e]; exact g1
  · unfold laws_heldPilotS.f
    have := laws_heldPilotS_l0 m l.length hm hn x h2 h3 l.length k' 0 (by omega) (by omega) hk'
    rwa [hz] at this

theorem laws_markIntS_l0 (m : Int) (n : Nat) (hm : 0 ≤ m) (hn : m + n ≤ 4611686018427387904) : ∀ (d k i : Nat) (x0 : List Int), x0.length = n → n - i = d → i ≤ n → d < k → (∀ j, j < i → x0[j]? = some (m + (j : Int))) → ∃ x, laws_markIntS.l0 k x0 (m + i) (i : Int) = some (m + n, x) ∧ x.length = n ∧ ∀ j, j < n → x[j]? = some (m + (j : Int)) := by
  intro d
  induction d with
  | zero =>
    intro k i x0 hl hd hi hk hj
    obtain ⟨k, rfl⟩ : ∃ m, k = m + 1 := ⟨k - 1, by omega⟩
    obtain rfl : i = n := by omega
    simp only [laws_markIntS.l0]
    rw [if_neg (by omega)]
    exact ⟨x0, rfl, hl, hj⟩
  | succ d ih =>
    intro k i x0 hl hd hi hk hj
    obtain ⟨k, rfl⟩ : ∃ m, k = m + 1 := ⟨k - 1, by omega⟩
    simp only [laws_markIntS.l0]
    rw [if_pos (by omega), if_pos (by omega), w64 (a := (i : Int) + 1) (by omega) (by omega), w64 (a := m + (i : Int) + 1) (by omega) (by omega), show (i : Int) + 1 = ((i + 1 : Nat) : Int) by omega, show m + (i : Int) + 1 = m + ((i + 1 : Nat) : Int) by omega]
    refine ih k (i + 1) _ (by simpa using hl) (by omega) (by omega) (by omega) ?_
    intro j hj'
    rw [Int.toNat_natCast]
    by_cases e : j = i
    · subst e
      rw [List.getElem?_set_self (by omega)]
    · rw [List.getElem?_set_ne (fun h => e h.symm)]
      exact hj j (by omega)
theorem mark_int (l : List Int) (m : Int) (hm : 0 ≤ m) (hn : m + l.length ≤ 4611686018427387904) (k : Nat) (hk : l.length < k) : ∃ x, laws_markIntS.f k l m = some (m + l.length, x) ∧ x.length = l.length := by
  obtain ⟨x, h1, h2, h3⟩ := laws_markIntS_l0 m l.length hm hn l.length k 0 l rfl (by omega) (by omega) hk (fun j hj => by omega)
  refine ⟨x, ?_, h2⟩
  · unfold laws_markIntS.f
    have := h1
    rwa [show m + ((0 : Nat) : Int) = m by omega] at this

def POk (a b c d e f g h : Int) : Prop := (0 ≤ a ∧ a ≤ 4) ∧ (0 ≤ b ∧ b ≤ 3) ∧ (0 ≤ c ∧ c ≤ 60000) ∧ (0 ≤ d ∧ d ≤ 60000) ∧ (-100 ≤ e ∧ e ≤ 100) ∧ (0 ≤ f ∧ f ≤ 359) ∧ (0 ≤ g ∧ g ≤ 359) ∧ (-10000 ≤ h ∧ h ≤ 10000)
theorem pilotOk (a b c d e f g h : Int) (i : Bool) : ∃ r, spec_PilotOk.f a b c d e f g h i = some r ∧ (∀ k, 0 < k → impl_PilotOk.f k a b c d e f g h i = some r) ∧ (r = true ↔ POk a b c d e f g h) := by
  refine ⟨(decide (0 ≤ a) && decide (a ≤ 4)) && ((decide (0 ≤ b) && decide (b ≤ 3)) && ((decide (0 ≤ c) && decide (c ≤ 60000)) && ((decide (0 ≤ d) && decide (d ≤ 60000)) && ((decide (-100 ≤ e) && decide (e ≤ 100)) && ((decide (0 ≤ f) && decide (f ≤ 359)) && ((decide (0 ≤ g) && decide (g ≤ 359)) && (decide (-10000 ≤ h) && decide (h ≤ 10000)))))))), ?_, fun k hk => ?_, ?_⟩
  · simp only [spec_PilotOk.f, in_s, Option.bind_some, ites]
  · obtain ⟨k, rfl⟩ : ∃ m, k = m + 1 := ⟨k - 1, by omega⟩
    simp only [impl_PilotOk.f, impl_PilotOk.j0, in_i, Option.bind_some, ites]
    generalize (decide (0 ≤ a) && decide (a ≤ 4)) = x1
    generalize (decide (0 ≤ b) && decide (b ≤ 3)) = x2
    generalize (decide (0 ≤ c) && decide (c ≤ 60000)) = x3
    generalize (decide (0 ≤ d) && decide (d ≤ 60000)) = x4
    generalize (decide (-100 ≤ e) && decide (e ≤ 100)) = x5
    generalize (decide (0 ≤ f) && decide (f ≤ 359)) = x6
    generalize (decide (0 ≤ g) && decide (g ≤ 359)) = x7
    generalize (decide (-10000 ≤ h) && decide (h ≤ 10000)) = x8
    cases x1 <;> cases x2 <;> cases x3 <;> cases x4 <;> cases x5 <;> rfl
  · simp only [Bool.and_eq_true, decide_eq_true_eq]
    exact Iff.rfl
theorem min_s (a b : Int) : spec_l1Min.f b a = some (mn a b) := by
  unfold spec_l1Min.f mn
  by_cases h : b < a
  · rw [if_pos h, if_pos h]
  · rw [if_neg h, if_neg h]
theorem max_s (a b : Int) : spec_l1Max.f b a = some (mx a b) := by
  unfold spec_l1Max.f mx
  by_cases h : b > a
  · rw [if_pos h, if_pos h]
  · rw [if_neg h, if_neg h]
theorem abs_both (a : Int) (h1 : -1000000 ≤ a) (h2 : a ≤ 1000000) : ∃ z, spec_l1Abs.f a = some z ∧ impl_size.f a = some z ∧ (0 ≤ a → z = a) ∧ (a < 0 → z = -a) := by
  unfold spec_l1Abs.f impl_size.f
  rw [w64 (a := -a) (by omega) (by omega)]
  by_cases h : a < 0
  · refine ⟨-a, by rw [if_pos h], ?_, fun _ => by omega, fun _ => rfl⟩
    congr 1; unfold mx; rw [if_pos (by omega)]
  · refine ⟨a, by rw [if_neg h], ?_, fun _ => rfl, fun _ => by omega⟩
    congr 1; unfold mx; rw [if_neg (by omega)]
theorem climb (a b c d e f g h : Int) (i : Bool) (hp : POk a b c d e f g h) (ha : a = 2) : ∃ a' c' e', spec_l10Vert.f a b c d e f g h i = some (a', b, c', d, e', f, g, h, i) ∧ (∀ k, 0 < k → impl_Pilot_climb.f k a b c d e f g h i = some (a', b, c', d, e', f, g, h, i)) ∧ POk a' b c' d e' f g h := by
  have hp0 := hp
  obtain ⟨_, _, hc, hd, he, _, _, _⟩ := hp
  subst ha
  unfold spec_l10Vert.f
  rw [if_neg (by omega), if_pos rfl]
  by_cases e0 : e = 0
  · rw [if_pos e0]
    exact ⟨_, _, _, rfl, fun k hk => by unfold impl_Pilot_climb.f; rw [if_pos e0], hp0⟩
  · rw [if_neg e0]
    have w1 : wrap64 (c + e) = c + e := w64 (by omega) (by omega)
    have w2 : wrap64 (d - (c + e)) = d - (c + e) := w64 (by omega) (by omega)
    obtain ⟨z, zs, zi, _, _⟩ := abs_both (d - (c + e)) (by omega) (by omega)
    obtain ⟨y, ys, yi, y1, y2⟩ := abs_both e (by omega) (by omega)
    have w3 : wrap64 (10 * y) = 10 * y := w64 (by omega) (by omega)
    rw [w1, w2, ys, zs]
    have key : ∃ l, spec_l10Leads.f 2 b (c + e) d e f g h i = some l ∧ (l = true → 0 ≤ c + e ∧ c + e ≤ 60000) ∧ ∀ k, 0 < k → impl_Pilot_climb.f k 2 b c d e f g h i = if l = true then (if z ≤ 10 * y then some (3, b, c + e, d, e, f, g, h, i) else some (2, b, c + e, d, e, f, g, h, i)) else some (1, b, d, d, 0, f, g, h, i) := by
      unfold spec_l10Leads.f
      have fin : ∀ (k : Nat) (t : Bool), 0 < k → impl_Pilot_climb.j0 k (d - (c + e)) t 2 b (c + e) d e f g h i = if t = true then some (1, b, d, d, 0, f, g, h, i) else (if z ≤ 10 * y then some (3, b, c + e, d, e, f, g, h, i) else some (2, b, c + e, d, e, f, g, h, i)) := by
        intro k t hk
        obtain ⟨k, rfl⟩ : ∃ m, k = m + 1 := ⟨k - 1, by omega⟩
        simp only [impl_Pilot_climb.j0, zi, yi, Option.bind_some, w3]
      by_cases p : e > 0
      · rw [if_pos p]
        by_cases q : d > c + e
        · rw [if_pos q]
          refine ⟨true, rfl, fun _ => by omega, fun k hk => ?_⟩
          unfold impl_Pilot_climb.f
          rw [w1, w2, if_neg e0, if_pos p, if_neg (by omega), if_neg (by omega), fin k _ hk]; rfl
        · rw [if_neg q, if_neg (by omega)]
          refine ⟨false, rfl, fun g => absurd g Bool.false_ne_true, fun k hk => ?_⟩
          unfold impl_Pilot_climb.f
          rw [w1, w2, if_neg e0, if_pos p, if_pos (by omega), fin k _ hk]; rfl
      · rw [if_neg p, if_pos (by omega)]
        refine ⟨_, rfl, fun g => by have := of_decide_eq_true g; omega, fun k hk => ?_⟩
        unfold impl_Pilot_climb.f
        rw [w1, w2, if_neg e0, if_neg p, if_pos (by omega), fin k _ hk]
        by_cases q : d < c + e
        · rw [decide_eq_true q, decide_eq_false (by omega)]; rfl
        · rw [decide_eq_false q, decide_eq_true (by omega)]; rfl
    obtain ⟨l, ls, lb, li⟩ := key
    rw [ls]
    simp only [Option.bind_some, w3]
    cases l
    · exact ⟨_, _, _, rfl, fun k hk => by rw [li k hk]; rfl, by unfold POk at *; omega⟩
    · simp only [if_true] at li ⊢
      by_cases q : z ≤ 10 * y
      · rw [if_pos q] at li ⊢; exact ⟨_, _, _, rfl, li, by have := lb rfl; unfold POk at *; omega⟩
      · rw [if_neg q] at li ⊢; exact ⟨_, _, _, rfl, li, by have := lb rfl; unfold POk at *; omega⟩
theorem toward (x y n : Int) (hn : 1 ≤ n) (h1 : -1000000 ≤ x) (h2 : x ≤ 1000000) (h3 : -1000000 ≤ y) (h4 : y ≤ 1000000) (h5 : n ≤ 1000) : spec_l10Toward.f x y n = some (x + mx (mn (y - x) n) (-n)) := by
  unfold spec_l10Toward.f
  rw [min_s, max_s, w64 (a := x + n) (by omega) (by omega), w64 (a := x - n) (by omega) (by omega)]
  by_cases h : x < y
  · rw [if_pos h, Option.bind_some]
    congr 1
    unfold mx mn
    by_cases p : y < x + n
    · rw [if_pos p, if_neg (by omega : ¬ n < y - x), if_neg (by omega)]; omega
    · rw [if_neg p]
      by_cases q : n < y - x
      · rw [if_pos q, if_neg (by omega)]
      · rw [if_neg q, if_neg (by omega)]; omega
  · rw [if_neg h, Option.bind_some]
    congr 1
    unfold mx mn
    rw [if_neg (by omega : ¬ n < y - x)]
    by_cases p : x - n < y
    · rw [if_pos p, if_neg (by omega)]; omega
    · rw [if_neg p]
      by_cases q : y - x < -n
      · rw [if_pos q]; omega
      · rw [if_neg q]; omega
theorem capture (a b c d e f g h : Int) (i : Bool) (hp : POk a b c d e f g h) (ha : a = 3) : ∃ a' c' e', spec_l10Vert.f a b c d e f g h i = some (a', b, c', d, e', f, g, h, i) ∧ impl_Pilot_capture.f a b c d e f g h i = some (a', b, c', d, e', f, g, h, i) ∧ POk a' b c' d e' f g h := by
  have hp0 := hp
  obtain ⟨_, _, hc, hd, he, _, _, _⟩ := hp
  subst ha
  unfold spec_l10Vert.f impl_Pilot_capture.f
  rw [if_neg (by omega), if_neg (by omega), if_pos rfl]
  obtain ⟨y, ys, yi, y1, y2⟩ := abs_both e (by omega) (by omega)
  have hy : 0 ≤ y ∧ y ≤ 100 := by omega
  have hce : impl_ceilOver.f y 2 = some ((y + 1) / 2) := by
    unfold impl_ceilOver.f impl_floorOver.f
    rw [w64 (a := -y) (by omega) (by omega), if_neg (by omega)]
    have t1 : Int.tdiv (-y) 2 = -(y / 2) := by rw [Int.neg_tdiv, Int.tdiv_eq_ediv_of_nonneg (by omega)]
    have t2 : Int.tmod (-y) 2 = -(y % 2) := by rw [Int.neg_tmod, Int.tmod_eq_emod_of_nonneg (by omega)]
    rw [t1, t2, w64 (a := -(y / 2)) (by omega) (by omega), w64 (a := -(y / 2) - 1) (by omega) (by omega)]
    by_cases p : y % 2 = 0
    · rw [if_pos (by omega), Option.bind_some, w64 (by omega) (by omega)]; congr 1; omega
    · rw [if_neg (by omega), decide_eq_true (show -y < 0 by omega), decide_eq_false (show ¬ (2 : Int) < 0 by omega), if_pos (show (true != false) = true from rfl), Option.bind_some, w64 (by omega) (by omega)]; congr 1; omega
  have hdiv : wrap64 (Int.tdiv (wrap64 (y + 1)) 2) = (y + 1) / 2 := by
    rw [w64 (a := y + 1) (by omega) (by omega), Int.tdiv_eq_ediv_of_nonneg (by omega), w64 (by omega) (by omega)]
  rw [ys, yi, Option.bind_some, Option.bind_some, hdiv, max_s, hce, Option.bind_some, Option.bind_some]
  obtain ⟨n, hn⟩ : ∃ n, mx ((y + 1) / 2) 1 = n := ⟨_, rfl⟩
  have hn1 : 1 ≤ n ∧ n ≤ 100 := by rw [← hn]; unfold mx; split <;> omega
  rw [hn, toward c d n hn1.1 (by omega) (by omega) (by omega) (by omega) (by omega), w64 (a := d - c) (by omega) (by omega), w64 (a := -n) (by omega) (by omega)]
  have hh : impl_held.f (d - c) (-n) n = some (mx (mn (d - c) n) (-n)) := rfl
  rw [hh, Option.bind_some, Option.bind_some]
  have hb := held_in (x := d - c) (lo := -n) (hi := n) (by omega)
  have hbt : 0 ≤ c + mx (mn (d - c) n) (-n) ∧ c + mx (mn (d - c) n) (-n) ≤ 60000 := by
    unfold mx mn
    repeat' split
    all_goals omega
  rw [w64 (a := c + mx (mn (d - c) n) (-n)) (by omega) (by omega)]
  generalize c + mx (mn (d - c) n) (-n) = q at *
  by_cases qd : q = d
  · rw [if_pos qd]; exact ⟨_, _, _, rfl, rfl, by unfold POk at *; omega⟩
  · rw [if_neg qd]; exact ⟨_, _, _, rfl, rfl, by unfold POk at *; omega⟩
theorem turn (f g : Int) (hf : 0 ≤ f ∧ f ≤ 359) (hg : 0 ≤ g ∧ g ≤ 359) (a b c d e h : Int) (i : Bool) : ∃ f', spec_l10Turn.f f g = some f' ∧ impl_Pilot_turn.f a b c d e f g h i = some (a, b, c, d, e, f', g, h, i) ∧ 0 ≤ f' ∧ f' ≤ 359 := by
  unfold spec_l10Turn.f impl_Pilot_turn.f
  rw [w64 (a := g - f) (by omega) (by omega), w64 (a := g - f + 360) (by omega) (by omega), w64 (a := g - f + 359) (by omega) (by omega), w64 (a := g - f + 359 + 1) (by omega) (by omega), show g - f + 359 + 1 = g - f + 360 by omega, Int.tmod_eq_emod_of_nonneg (show 0 ≤ g - f + 360 by omega)]
  obtain ⟨r, hr⟩ : ∃ r, (g - f + 360) % 360 = r := ⟨_, rfl⟩
  have hr2 : 0 ≤ r ∧ r ≤ 359 := by omega
  rw [hr, w64 (a := 360 - r) (by omega) (by omega), min_s, min_s]
  by_cases p : r > 180
  · rw [if_pos p, if_pos (by omega), Option.bind_some]
    obtain ⟨m, hm⟩ : ∃ m, mn (360 - r) 3 = m := ⟨_, rfl⟩
    have hm2 : 0 ≤ m ∧ m ≤ 3 := by rw [← hm]; unfold mn; split <;> omega
    rw [hm, w64 (a := -m) (by omega) (by omega), w64 (a := f + -m) (by omega) (by omega), w64 (a := f + -m + 359) (by omega) (by omega), w64 (a := f + -m + 359 + 1) (by omega) (by omega), w64 (a := f - m) (by omega) (by omega), w64 (a := f - m + 360) (by omega) (by omega), show f + -m + 359 + 1 = f - m + 360 by omega]
    have hm3 := Int.tmod_eq_emod_of_nonneg (a := f - m + 360) (b := 360) (by omega)
    exact ⟨_, rfl, rfl, by omega, by omega⟩
  · rw [if_neg p, if_neg (by omega), Option.bind_some]
    obtain ⟨m, hm⟩ : ∃ m, mn r 3 = m := ⟨_, rfl⟩
    have hm2 : 0 ≤ m ∧ m ≤ 3 := by rw [← hm]; unfold mn; split <;> omega
    rw [hm, w64 (a := f + m) (by omega) (by omega), w64 (a := f + m + 359) (by omega) (by omega), w64 (a := f + m + 359 + 1) (by omega) (by omega), Int.tmod_eq_emod_of_nonneg (show 0 ≤ f + m by omega), Int.tmod_eq_emod_of_nonneg (show 0 ≤ f + m + 359 + 1 by omega), show (f + m + 359 + 1) % 360 = (f + m) % 360 by omega]
    exact ⟨_, rfl, rfl, by omega, by omega⟩
/-- What the reference does beside the course. -/
def latS (a b c d e f g t : Int) (i : Bool) : Option (Int × Int × Int × Int × Int × Int × Int × Int × Bool × Bool) := (if b = 1 then ((spec_l10Turn.f f g).bind fun t233 => (if i = true then ((spec_l1Abs.f t).bind fun t234 => (if t234 ≤ 50 then (some (a, 3, c, d, e, t233, g, t, false, true)) else (some (a, b, c, d, e, t233, g, t, i, true)))) else (some (a, b, c, d, e, t233, g, t, i, true)))) else (if b = 3 then ((spec_l10Toward.f t 0 10).bind fun t235 => (if t235 = 0 then (some (a, 2, c, d, e, f, g, t235, i, true)) else (some (a, b, c, d, e, f, g, t235, i, true)))) else (if b = 2 then ((spec_l1Abs.f t).bind fun t236 => (if t236 ≤ 20 then (some (a, b, c, d, e, f, g, 0, i, true)) else (some (a, 3, c, d, e, f, g, t, i, true)))) else (some (a, b, c, d, e, f, g, t, i, true)))))
theorem lateral (a b c d e f g t : Int) (i : Bool) (hf : 0 ≤ f ∧ f ≤ 359) (hg : 0 ≤ g ∧ g ≤ 359) (ht : -10000 ≤ t ∧ t ≤ 10000) (hb3 : 0 ≤ b ∧ b ≤ 3) : ∃ b' f' t' i', latS a b c d e f g t i = some (a, b', c, d, e, f', g, t', i', true) ∧ impl_Pilot_lateral.f a b c d e f g t i = some (a, b', c, d, e, f', g, t', i') ∧ (0 ≤ b' ∧ b' ≤ 3) ∧ (0 ≤ f' ∧ f' ≤ 359) ∧ (-10000 ≤ t' ∧ t' ≤ 10000) := by
  unfold latS impl_Pilot_lateral.f
  obtain ⟨z, zs, zi, _, _⟩ := abs_both t (by omega) (by omega)
  by_cases b1 : b = 1
  · obtain ⟨f', fs, fi, ff⟩ := turn f g hf hg a b c d e t i
    rw [if_pos b1, if_pos b1, fs, fi, Option.bind_some, Option.bind_some]
    simp only [zs, zi, Option.bind_some]
    cases i
    · exact ⟨_, _, _, _, rfl, rfl, by omega, by omega, by omega⟩
    · simp only [if_true]
      by_cases q : z ≤ 50
      · rw [if_pos q, if_pos q]; exact ⟨_, _, _, _, rfl, rfl, by omega, by omega, by omega⟩
      · rw [if_neg q, if_neg q]; exact ⟨_, _, _, _, rfl, rfl, by omega, by omega, by omega⟩
  · rw [if_neg b1, if_neg b1]
    by_cases b3 : b = 3
    · rw [if_pos b3, if_pos b3, toward t 0 10 (by omega) (by omega) (by omega) (by omega) (by omega) (by omega)]
      have hh : impl_held.f t (-10) 10 = some (mx (mn t 10) (-10)) := rfl
      have hb := held_in (x := t) (lo := -10) (hi := 10) (by omega)
      have hbt : -10000 ≤ t - mx (mn t 10) (-10) ∧ t - mx (mn t 10) (-10) ≤ 10000 := by
        clear hh hb zs zi
        unfold mx mn
        repeat' split
        all_goals omega
      have he : t + mx (mn (0 - t) 10) (-10) = t - mx (mn t 10) (-10) := by
        clear hh hb zs zi
        unfold mx mn
        repeat' split
        all_goals omega
      rw [hh, Option.bind_some, Option.bind_some, he, w64 (by omega) (by omega)]
      by_cases q : t - mx (mn t 10) (-10) = 0
      · rw [if_pos q, if_pos q]; exact ⟨_, _, _, _, rfl, rfl, by omega, by omega, by omega⟩
      · rw [if_neg q, if_neg q]; exact ⟨_, _, _, _, rfl, rfl, by omega, by omega, by omega⟩
    · rw [if_neg b3, if_neg b3]
      by_cases b2 : b = 2
      · rw [if_pos b2, if_pos b2, zs, zi, Option.bind_some, Option.bind_some]
        by_cases q : z ≤ 20
        · rw [if_pos q, if_pos q]; exact ⟨_, _, _, _, rfl, rfl, by omega, by omega, by omega⟩
        · rw [if_neg q, if_neg q]; exact ⟨_, _, _, _, rfl, rfl, by omega, by omega, by omega⟩
      · rw [if_neg b2, if_neg b2]; exact ⟨_, _, _, _, rfl, rfl, by omega, by omega, by omega⟩
theorem tick (a b c d e f g h : Int) (i : Bool) (n : Int) (hp : POk a b c d e f g h) (hn : -100 ≤ n ∧ n ≤ 100) : ∃ a' b' c' e' f' t' i', POk a' b' c' d e' f' g t' ∧ ∀ k, 4 < k → spec_PilotTick.f k a b c d e f g h i n = some (a', b', c', d, e', f', g, t', i', true) ∧ impl_PilotTick.f k a b c d e f g h i n = some (a', b', c', d, e', f', g, t', i', true) := by
  obtain ⟨o, os, oi, og⟩ := pilotOk a b c d e f g h i
  unfold spec_PilotTick.f impl_PilotTick.f
  obtain rfl := og.2 hp
  · have hp' := hp
    obtain ⟨ha, hb3, hc, hd, he, hf, hg, hh⟩ := hp'
    · obtain ⟨t, ht⟩ : ∃ t, mx (mn (h + n) 10000) (-10000) = t := ⟨_, rfl⟩
      have htb : -10000 ≤ t ∧ t ≤ 10000 := by rw [← ht]; exact held_in (by omega)
      have hheld : impl_held.f (wrap64 (h + n)) (-10000) 10000 = some t := by rw [w64 (by omega) (by omega), ← ht]; rfl
      -- the height
      have vert : ∃ a' c' e', spec_l10Vert.f a b c d e f g h i = some (a', b, c', d, e', f, g, h, i) ∧ POk a' b c' d e' f g h ∧ ∀ k, 1 < k → impl_PilotTick.j0 k n false a b c d e f g h i = (impl_Pilot_lateral.f a' b c' d e' f g t i).bind fun r => some (r.1, r.2.1, r.2.2.1, r.2.2.2.1, r.2.2.2.2.1, r.2.2.2.2.2.1, r.2.2.2.2.2.2.1, r.2.2.2.2.2.2.2.1, r.2.2.2.2.2.2.2.2, true) := by
        by_cases a2 : a = 2
        · obtain ⟨a', c', e', vs, vi, vp⟩ := climb a b c d e f g h i hp a2
          refine ⟨a', c', e', vs, vp, fun k hk => ?_⟩
          obtain ⟨k, rfl⟩ : ∃ m, k = m + 1 := ⟨k - 1, by omega⟩
          simp only [impl_PilotTick.j0, if_pos a2, vi k (by omega), Option.bind_some, hheld, Bool.false_eq_true, if_false]
        · by_cases a3 : a = 3
          · obtain ⟨a', c', e', vs, vi, vp⟩ := capture a b c d e f g h i hp a3
            refine ⟨a', c', e', vs, vp, fun k hk => ?_⟩
            obtain ⟨k, rfl⟩ : ∃ m, k = m + 1 := ⟨k - 1, by omega⟩
            simp only [impl_PilotTick.j0, if_neg a2, if_pos a3, vi, Option.bind_some, hheld, Bool.false_eq_true, if_false]
          · by_cases a0 : a = 0
            · have h1 : impl_held.f (wrap64 (c + e)) 0 60000 = some (mx (mn (wrap64 (c + e)) 60000) 0) := rfl
              refine ⟨a, mx (mn (wrap64 (c + e)) 60000) 0, e, ?_, ?_, fun k hk => ?_⟩
              · unfold spec_l10Vert.f
                rw [if_pos a0, min_s, Option.bind_some, max_s, Option.bind_some]
              · have hq := held_in (x := wrap64 (c + e)) (lo := 0) (hi := 60000) (by omega)
                unfold POk at *
                omega
              · obtain ⟨k, rfl⟩ : ∃ m, k = m + 1 := ⟨k - 1, by omega⟩
                simp only [impl_PilotTick.j0, if_neg a2, if_neg a3, if_pos a0, h1, Option.bind_some, hheld, Bool.false_eq_true, if_false]
            · refine ⟨a, c, e, ?_, hp, fun k hk => ?_⟩
              · unfold spec_l10Vert.f
                rw [if_neg a0, if_neg a2, if_neg a3]
              · obtain ⟨k, rfl⟩ : ∃ m, k = m + 1 := ⟨k - 1, by omega⟩
                simp only [impl_PilotTick.j0, if_neg a2, if_neg a3, if_neg a0, Option.bind_some, hheld, Bool.false_eq_true, if_false]
      obtain ⟨a', c', e', vs, vp, vi⟩ := vert
      obtain ⟨b', f', t', i', ls, li, lb, lf, lt⟩ := lateral a' b c' d e' f g t i hf hg htb hb3
      refine ⟨a', b', c', e', f', t', i', by unfold POk at *; omega, fun k hk => ⟨?_, ?_⟩⟩
      · rw [os, Option.bind_some, if_pos rfl, in_s, ← Bool.decide_and, decide_eq_true hn, Option.bind_some]
        obtain ⟨k, rfl⟩ : ∃ m, k = m + 1 := ⟨k - 1, by omega⟩
        have hm : (spec_l1Min.f 10000 (wrap64 (h + n))).bind (fun t => spec_l1Max.f (-10000) t) = some t := by
          rw [w64 (by omega) (by omega), min_s, Option.bind_some, max_s, ht]
        obtain ⟨t1, hm1, hm2⟩ := Option.bind_eq_some_iff.1 hm
        show spec_PilotTick.j0 (k + 1) n false a b c d e f g h i = _
        obtain ⟨k, rfl⟩ : ∃ m, k = m + 2 := ⟨k - 2, by omega⟩
        simp only [spec_PilotTick.j0, vs, Option.bind_some, Bool.false_eq_true, if_false]
        simp only [spec_PilotTick.j1, hm1, hm2, Option.bind_some]
        simp only [spec_PilotTick.j2]
        exact ls
      · rw [oi k (by omega), Option.bind_some, if_pos rfl, in_i, ← Bool.decide_and, decide_eq_true hn, Option.bind_some]
        show impl_PilotTick.j0 k n false a b c d e f g h i = _
        rw [vi k (by omega), li]; rfl
theorem tick_bad (a b c d e f g h : Int) (i : Bool) (n : Int) (hp : POk a b c d e f g h) (hn : ¬ (-100 ≤ n ∧ n ≤ 100)) (k : Nat) (hk : 4 < k) : impl_PilotTick.f k a b c d e f g h i n = some (0, 0, 0, 0, 0, 0, 0, 0, false, false) := by
  obtain ⟨o, os, oi, og⟩ := pilotOk a b c d e f g h i
  obtain rfl := og.2 hp
  unfold impl_PilotTick.f
  rw [oi k (by omega), Option.bind_some, if_pos rfl, in_i, ← Bool.decide_and, decide_eq_false hn, Option.bind_some]
  obtain ⟨k, rfl⟩ : ∃ m, k = m + 1 := ⟨k - 1, by omega⟩
  rfl
theorem ticks_l (l : List Int) (hl : l.length ≤ 300) (ha : All l (-100) 100) : ∀ (d j : Nat) (x : List S25) (a b c d' e f g h : Int) (i : Bool), l.length - j = d → j ≤ l.length → x.length = j → POk a b c d' e f g h → ∃ r : List S25, r.length = l.length ∧ ∀ k, d + 5 < k → spec_Ticks.l0 k l x (j : Int) a b c d' e f g h i = some (r, true) ∧ impl_Ticks.l0 k x l (l.length : Int) (j : Int) a b c d' e f g h i = some (r, true) := by
  intro d
  induction d with
  | zero =>
    intro j x a b c d' e f g h i hd hj hx hp
    refine ⟨x, by omega, fun k hk => ?_⟩
    obtain ⟨k, rfl⟩ : ∃ m, k = m + 1 := ⟨k - 1, by omega⟩
    simp only [spec_Ticks.l0, impl_Ticks.l0]
    rw [if_neg (by omega), if_neg (by omega)]
    exact ⟨rfl, rfl⟩
  | succ d ih =>
    intro j x a b c d' e f g h i hd hj hx hp
    obtain ⟨a1, b1, c1, e1, f1, h1, i1, hp1, ht⟩ := tick a b c d' e f g h i (rd l (j : Int)) hp (ha j (by omega))
    obtain ⟨r, hr, hk1⟩ := ih (j + 1) (x ++ [⟨a1, b1, c1, d', e1, f1, g, h1, i1⟩]) a1 b1 c1 d' e1 f1 g h1 i1 (by omega) (by omega) (by simp; omega) hp1
    refine ⟨r, hr, fun k hk => ?_⟩
    obtain ⟨k, rfl⟩ : ∃ m, k = m + 1 := ⟨k - 1, by omega⟩
    obtain ⟨ts, ti⟩ := ht k (by omega)
    obtain ⟨rs, ri⟩ := hk1 k (by omega)
    have w1 : wrap64 ((j : Int) + 1) = ((j + 1 : Nat) : Int) := by rw [w64 (by omega) (by omega)]; omega
    simp only [spec_Ticks.l0, impl_Ticks.l0, ts, ti, Option.bind_some, if_true, w1, rs, ri]
    rw [if_pos (by omega), if_pos (by omega), if_pos (by omega), if_pos (by omega), if_pos (by omega), if_pos (by omega)]
    exact ⟨rfl, rfl⟩
theorem ticks_bad (l : List Int) (hl : l.length ≤ 300) (q : Nat) (hq : q < l.length) (hb : ¬ (-100 ≤ rd l (q : Int) ∧ rd l (q : Int) ≤ 100)) : ∀ (d j : Nat) (x : List S25) (a b c d' e f g h : Int) (i : Bool), q - j = d → j ≤ q → x.length = j → POk a b c d' e f g h → ∀ k, d + 6 < k → impl_Ticks.l0 k x l (l.length : Int) (j : Int) a b c d' e f g h i = some ([], false) := by
  intro d
  induction d with
  | zero =>
    intro j x a b c d' e f g h i hd hj hx hp k hk
    obtain rfl : j = q := by omega
    obtain ⟨k, rfl⟩ : ∃ m, k = m + 1 := ⟨k - 1, by omega⟩
    simp only [impl_Ticks.l0, tick_bad a b c d' e f g h i (rd l (j : Int)) hp hb k (by omega), Option.bind_some, Bool.false_eq_true, if_false]
    rw [if_pos (by omega), if_pos (by omega), if_pos (by omega)]
  | succ d ih =>
    intro j x a b c d' e f g h i hd hj hx hp k hk
    obtain ⟨k, rfl⟩ : ∃ m, k = m + 1 := ⟨k - 1, by omega⟩
    by_cases hn : -100 ≤ rd l (j : Int) ∧ rd l (j : Int) ≤ 100
    · obtain ⟨a1, b1, c1, e1, f1, h1, i1, hp1, ht⟩ := tick a b c d' e f g h i (rd l (j : Int)) hp hn
      have hi := ih (j + 1) (x ++ [⟨a1, b1, c1, d', e1, f1, g, h1, i1⟩]) a1 b1 c1 d' e1 f1 g h1 i1 (by omega) (by omega) (by simp; omega) hp1 k (by omega)
      have w1 : wrap64 ((j : Int) + 1) = ((j + 1 : Nat) : Int) := by rw [w64 (by omega) (by omega)]; omega
      simp only [impl_Ticks.l0, (ht k (by omega)).2, Option.bind_some, if_true, w1, hi]
      rw [if_pos (by omega), if_pos (by omega), if_pos (by omega), if_pos (by omega)]
    · simp only [impl_Ticks.l0, tick_bad a b c d' e f g h i (rd l (j : Int)) hp hn k (by omega), Option.bind_some, Bool.false_eq_true, if_false]
      rw [if_pos (by omega), if_pos (by omega), if_pos (by omega)]
theorem ticks (a b c d e f g h : Int) (i : Bool) (l : List Int) (hn : l.length ≤ 1048576) : ∃ r : List S25 × Bool, r.1.length ≤ 300 ∧ ∀ k, l.length + 10 < k → spec_Ticks.f k a b c d e f g h i l = some r ∧ impl_Ticks.f k a b c d e f g h i l = some r := by
  obtain ⟨o, os, oi, og⟩ := pilotOk a b c d e f g h i
  have bad : ∀ k, 0 < k → spec_Ticks.j0 k l [] true a b c d e f g h i = some ([], false) ∧ impl_Ticks.j0 k l true a b c d e f g h i = some ([], false) := by
    intro k hk
    obtain ⟨k, rfl⟩ : ∃ m, k = m + 1 := ⟨k - 1, by omega⟩
    exact ⟨rfl, rfl⟩
  unfold spec_Ticks.f impl_Ticks.f
  cases o
  · refine ⟨([], false), by simp, fun k hk => ?_⟩
    rw [os, oi k (by omega)]
    exact bad k (by omega)
  · have hp := og.1 rfl
    by_cases h3 : (l.length : Int) > 300
    · refine ⟨([], false), by simp, fun k hk => ?_⟩
      rw [os, oi k (by omega), decide_eq_true h3]
      simp only [Option.bind_some, if_true, if_pos h3]
      exact bad k (by omega)
    · have al : ∀ k, l.length < k → ∃ b, spec_l1All.f k l (-100) 100 = some b ∧ (b = true ↔ All l (-100) 100) := fun k hk => all_s l (-100) 100 k (by omega) hk
      by_cases ha : All l (-100) 100
      · obtain ⟨r, hr, hk1⟩ := ticks_l l (by omega) ha l.length 0 [] a b c d e f g h i (by omega) (by omega) rfl hp
        refine ⟨(r, true), by simp only; omega, fun k hk => ?_⟩
        obtain ⟨bb, e1, e2⟩ := al k (by omega)
        obtain rfl := e2.2 ha
        rw [os, oi k (by omega), decide_eq_false h3]
        simp only [Option.bind_some, if_true, if_neg h3, e1, Bool.not_true]
        obtain ⟨k, rfl⟩ : ∃ m, k = m + 1 := ⟨k - 1, by omega⟩
        simp only [spec_Ticks.j0, impl_Ticks.j0, Bool.false_eq_true, if_false]
        exact hk1 k (by omega)
      · refine ⟨([], false), by simp, fun k hk => ?_⟩
        obtain ⟨bb, e1, e2⟩ := al k (by omega)
        obtain rfl : bb = false := by cases bb; rfl; exact absurd (e2.1 rfl) ha
        rw [os, oi k (by omega), decide_eq_false h3]
        simp only [Option.bind_some, if_true, if_neg h3, e1, Bool.not_false]
        refine ⟨(bad k (by omega)).1, ?_⟩
        obtain ⟨q, hq, hb⟩ : ∃ q : Nat, q < l.length ∧ ¬ (-100 ≤ rd l (q : Int) ∧ rd l (q : Int) ≤ 100) := by
          refine Classical.byContradiction fun hno => ha fun j hj => Classical.byContradiction fun hc => hno ⟨j, hj, hc⟩
        obtain ⟨k, rfl⟩ : ∃ m, k = m + 1 := ⟨k - 1, by omega⟩
        simp only [impl_Ticks.j0, Bool.false_eq_true, if_false]
        exact ticks_bad l (by omega) q hq hb q 0 [] a b c d e f g h i (by omega) (by omega) rfl hp k (by omega)
theorem FnExactTicks : laws_FnExactTicks.Pure := by
  intro a b c d e f g h i l _ _ _ _ _ _ _ _ ⟨hl, _⟩
  have hl' : l.length ≤ 9223372036854775807 := hl
  obtain ⟨n, hn⟩ : ∃ n, n = l.length + 400 := ⟨_, rfl⟩
  refine ⟨n + 3, ?_⟩
  unfold laws_FnExactTicks.f
  by_cases hc : (l.length : Int) > 1048576
  · rw [if_pos hc]
  · rw [if_neg hc]
    obtain ⟨⟨r1, r2⟩, hr, hb⟩ := ticks a b c d e f g h i l (by omega)
    have hr : r1.length ≤ 300 := hr
    have ht := fun k hk => laws_toIntS_eq l k (by omega) hk
    have he := fun k hk => laws_eqIntS_eq l k (by omega) hk
    have hq := fun k hk => laws_eqPilotS_eq r1 k (by omega) hk
    obtain ⟨y, m1, m2⟩ := mark_int l 1 (by omega) (by omega) (n + 2) (by omega)
    obtain ⟨z, n1, n2, n3⟩ := marked r1 1 (by omega) (by omega)
    have hs := fun k hk => (hb k hk).1
    have hi := fun k hk => (hb k hk).2
    have hP : ∀ (a b c d e f g h : Int) (i : Bool), laws_toPilot.f a b c d e f g h i = some (a, b, c, d, e, f, g, h, i) := fun _ _ _ _ _ _ _ _ _ => rfl
    have j2 : laws_FnExactTicks.j2 (n + 1) z (1 + 9 * (r1.length : Int)) false = some true := by
      simp only [laws_FnExactTicks.j2, Bool.false_eq_true, if_false, n3 n (by omega), Option.bind_some]
      rw [if_neg (by omega), if_pos trivial]
    have j1 : laws_FnExactTicks.j1 (n + 2) l r1 r2 r1 false a b c d e f g h i = some true := by
      simp only [laws_FnExactTicks.j1, Bool.false_eq_true, if_false, n1 (n + 1) (by omega), n3 (n + 1) (by omega), Option.bind_some, hP, ht (n + 1) (by omega), hi (n + 1) (by omega), hq (n + 1) (by omega), if_true, bne_self_eq_false, j2]
      rw [if_neg (by omega)]
    have j0 : laws_FnExactTicks.j0 (n + 3) l r1 r2 l r1 r2 false a b c d e f g h i = some true := by
      simp only [laws_FnExactTicks.j0, Bool.false_eq_true, if_false, ht (n + 2) (by omega), he (n + 2) (by omega), m1, hq (n + 2) (by omega), Option.bind_some, if_true, bne_self_eq_false, j1]
      rw [if_neg (by omega)]
    simp only [hP, ht (n + 3) (by omega), Option.bind_some, hs (n + 3) (by omega), hi (n + 3) (by omega), hq (n + 3) (by omega), if_true, bne_self_eq_false, j0]
end Go.Proofs.Ytdodiflcmjbfdaa.Pure.FnExactTicks
namespace Go.Proofs.Ytdodiflcmjbfdaa.Pure
theorem FnExactTicks : Go.Proofs.Ytdodiflcmjbfdaa.PFnExactTicks.laws_FnExactTicks.Pure := FnExactTicks.FnExactTicks
end Go.Proofs.Ytdodiflcmjbfdaa.Pure
