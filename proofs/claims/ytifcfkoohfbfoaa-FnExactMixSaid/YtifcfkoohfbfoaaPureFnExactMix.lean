/- For every Mixer, pitch, roll and Limits the program's Mix answers what the reference's answers, in new memory (FnExactMix returns true); no condition. -/
import Derived.Test.YtifcfkoohfbfoaaAskFnExactMix
import Derived.Test.YtifcfkoohfbfoaaNum
namespace Go.Proofs.Ytifcfkoohfbfoaa.Pure.FnExactMix
open Go.RowKit Go.Proofs.Ytifcfkoohfbfoaa.PFnExactMix Go.Proofs.YtifcfkoohfbfoaaW.PrintWords Go.Proofs.YtifcfkoohfbfoaaW.PrintLast Go.Proofs.YtifcfkoohfbfoaaW.PrintMore Go.Proofs.Ytifcfkoohfbfoaa.Num
set_option linter.unusedVariables false
set_option linter.unusedSimpArgs false
theorem in_s (a b c : Int) : spec_l1In.f a b c = some (decide (b ≤ a) && decide (a ≤ c)) := by
  unfold spec_l1In.f
  by_cases h : a ≥ b
  · rw [if_pos h, decide_eq_true (show b ≤ a from h)]; rfl
  · rw [if_neg h, decide_eq_false (show ¬ b ≤ a from h)]; rfl
theorem in_i (a b c : Int) : impl_in.f a b c = some (decide (b ≤ a) && decide (a ≤ c)) := by
  unfold impl_in.f
  by_cases h : a ≥ b
  · rw [if_pos h, decide_eq_true (show b ≤ a from h)]; rfl
  · rw [if_neg h, decide_eq_false (show ¬ b ≤ a from h)]; rfl
/-- All numbers are in bounds. -/
def All (xs : List Int) (lo hi : Int) : Prop := ∀ j : Nat, j < xs.length → lo ≤ rd xs (j : Int) ∧ rd xs (j : Int) ≤ hi
/-- Each number is above the one ahead. -/
def Rise (xs : List Int) : Prop := ∀ j : Nat, 1 ≤ j → j < xs.length → rd xs ((j - 1 : Nat) : Int) < rd xs (j : Int)
theorem allIn_l0 (xs : List Int) (lo hi : Int) (hn : xs.length ≤ 4611686018427387904) : ∀ (d k i : Nat), xs.length - i = d → i ≤ xs.length → d < k → ∃ b, impl_allIn.l0 k lo hi xs (xs.length : Int) (i : Int) = some b ∧ (b = true ↔ ∀ j : Nat, i ≤ j → j < xs.length → lo ≤ rd xs (j : Int) ∧ rd xs (j : Int) ≤ hi) := by
  intro d
  induction d with
  | zero =>
    intro k i hd hi' hk
    obtain ⟨k, rfl⟩ : ∃ m, k = m + 1 := ⟨k - 1, by omega⟩
    simp only [impl_allIn.l0]
    rw [if_neg (by omega)]
    exact ⟨true, rfl, by simp; intro j h1 h2; omega⟩
  | succ d ih =>
    intro k i hd hi' hk
    obtain ⟨k, rfl⟩ : ∃ m, k = m + 1 := ⟨k - 1, by omega⟩
    simp only [impl_allIn.l0, in_i, Option.bind_some]
    rw [if_pos (by omega), if_pos (by omega), if_pos (by omega), w64 (a := (i : Int) + 1) (by omega) (by omega), show (i : Int) + 1 = ((i + 1 : Nat) : Int) by omega, ← Bool.decide_and]
    by_cases h : lo ≤ rd xs (i : Int) ∧ rd xs (i : Int) ≤ hi
    · rw [decide_eq_true h, if_pos rfl]
      obtain ⟨b, h1, h2⟩ := ih k (i + 1) (by omega) (by omega) (by omega)
      refine ⟨b, h1, h2.trans ⟨fun g j hj hl => ?_, fun g j hj hl => g j (by omega) hl⟩⟩
      by_cases e : j = i
      · subst e; exact h
      · exact g j (by omega) hl
    · rw [decide_eq_false h, if_neg (by decide)]
      exact ⟨false, rfl, ⟨fun g => absurd g Bool.false_ne_true, fun g => absurd (g i (by omega) (by omega)) h⟩⟩
theorem allIn_i (xs : List Int) (lo hi : Int) (k : Nat) (hn : xs.length ≤ 4611686018427387904) (hk : xs.length < k) : ∃ b, impl_allIn.f k xs lo hi = some b ∧ (b = true ↔ All xs lo hi) := by
  obtain ⟨b, h1, h2⟩ := allIn_l0 xs lo hi hn xs.length k 0 (by omega) (by omega) hk
  exact ⟨b, h1, h2.trans ⟨fun g j hl => g j (by omega) hl, fun g j _ hl => g j hl⟩⟩
theorem l1All_l0 (xs : List Int) (lo hi : Int) (hn : xs.length ≤ 4611686018427387904) : ∀ (d k i : Nat), xs.length - i = d → i ≤ xs.length → d < k → ∃ b, spec_l1All.l0 k xs lo hi (i : Int) = some b ∧ (b = true ↔ ∀ j : Nat, i ≤ j → j < xs.length → lo ≤ rd xs (j : Int) ∧ rd xs (j : Int) ≤ hi) := by
  intro d
  induction d with
  | zero =>
    intro k i hd hi' hk
    obtain ⟨k, rfl⟩ : ∃ m, k = m + 1 := ⟨k - 1, by omega⟩
    simp only [spec_l1All.l0]
    rw [if_neg (by omega)]
    exact ⟨true, rfl, by simp; intro j h1 h2; omega⟩
  | succ d ih =>
    intro k i hd hi' hk
    obtain ⟨k, rfl⟩ : ∃ m, k = m + 1 := ⟨k - 1, by omega⟩
    simp only [spec_l1All.l0, in_s, Option.bind_some]
    rw [if_pos (by omega), if_pos (by omega), w64 (a := (i : Int) + 1) (by omega) (by omega), show (i : Int) + 1 = ((i + 1 : Nat) : Int) by omega, ← Bool.decide_and]
    by_cases h : lo ≤ rd xs (i : Int) ∧ rd xs (i : Int) ≤ hi
    · rw [decide_eq_true h, if_pos rfl]
      obtain ⟨b, h1, h2⟩ := ih k (i + 1) (by omega) (by omega) (by omega)
      refine ⟨b, h1, h2.trans ⟨fun g j hj hl => ?_, fun g j hj hl => g j (by omega) hl⟩⟩
      by_cases e : j = i
      · subst e; exact h
      · exact g j (by omega) hl
    · rw [decide_eq_false h, if_neg (by decide)]
      exact ⟨false, rfl, ⟨fun g => absurd g Bool.false_ne_true, fun g => absurd (g i (by omega) (by omega)) h⟩⟩
theorem all_s (xs : List Int) (lo hi : Int) (k : Nat) (hn : xs.length ≤ 4611686018427387904) (hk : xs.length < k) : ∃ b, spec_l1All.f k xs lo hi = some b ∧ (b = true ↔ All xs lo hi) := by
  obtain ⟨b, h1, h2⟩ := l1All_l0 xs lo hi hn xs.length k 0 (by omega) (by omega) hk
  exact ⟨b, h1, h2.trans ⟨fun g j hl => g j (by omega) hl, fun g j _ hl => g j hl⟩⟩
theorem laws_toIntS_l0 (x0 : List Int) (hn : x0.length ≤ 4611686018427387904) : ∀ (d k i : Nat) (x3 : List Int), x0.length - i = d → i ≤ x0.length → d < k → x3.length = x0.length → (∀ j, j < i → x3[j]? = x0[j]?) → laws_toIntS.l0 k x0 x3 (i : Int) = some x0 := by
  intro d
  induction d with
  | zero =>
    intro k i x3 hd hi hk hl hj
    obtain ⟨k, rfl⟩ : ∃ m, k = m + 1 := ⟨k - 1, by omega⟩
    simp only [laws_toIntS.l0]
    rw [if_neg (by omega)]
    congr 1
    apply List.ext_getElem?
    intro j
    by_cases h : j < i
    · exact hj j h
    · rw [List.getElem?_eq_none (by omega), List.getElem?_eq_none (by omega)]
  | succ d ih =>
    intro k i x3 hd hi hk hl hj
    obtain ⟨k, rfl⟩ : ∃ m, k = m + 1 := ⟨k - 1, by omega⟩
    have hlt : i < x0.length := by omega
    simp only [laws_toIntS.l0]
    rw [if_pos (by omega), if_pos (by omega), if_pos (by omega), w64 (a := (i : Int) + 1) (by omega) (by omega), show (i : Int) + 1 = ((i + 1 : Nat) : Int) by omega]
    refine ih k (i + 1) _ (by omega) (by omega) (by omega) (by simpa using hl) ?_
    intro j hj'
    have hr : rd x0 (i : Int) = x0[i] := by
      show x0.getD (i : Int).toNat 0 = _
      rw [Int.toNat_natCast, List.getD_eq_getElem?_getD, List.getElem?_eq_getElem hlt]; rfl
    simp only [Int.toNat_natCast, hr]
    by_cases e : j = i
    · subst e
      rw [List.getElem?_set_self (by omega), List.getElem?_eq_getElem hlt]
    · rw [List.getElem?_set_ne (fun h => e h.symm)]
      exact hj j (by omega)
theorem laws_toIntS_eq (x0 : List Int) (k : Nat) (hn : x0.length ≤ 35184372088832) (hk : x0.length < k) : laws_toIntS.f k x0 = some x0 := by
  unfold laws_toIntS.f
  rw [if_pos (by omega), if_pos (by rw [Int.toNat_natCast]; omega), Int.toNat_natCast]
  exact laws_toIntS_l0 x0 (by omega) x0.length k 0 _ (by omega) (by omega) hk (by simp) (fun j hj => by omega)

theorem laws_eqIntS_l0 (x0 : List Int) (hn : x0.length ≤ 4611686018427387904) : ∀ (d k i : Nat), x0.length - i = d → i ≤ x0.length → d < k → laws_eqIntS.l0 k x0 x0 (i : Int) = some true := by
  intro d
  induction d with
  | zero =>
    intro k i hd hi hk
    obtain ⟨k, rfl⟩ : ∃ m, k = m + 1 := ⟨k - 1, by omega⟩
    simp only [laws_eqIntS.l0]
    rw [if_neg (by omega)]
  | succ d ih =>
    intro k i hd hi hk
    obtain ⟨k, rfl⟩ : ∃ m, k = m + 1 := ⟨k - 1, by omega⟩
    simp only [laws_eqIntS.l0]
    rw [if_pos (by omega), if_pos (by omega), if_pos (by omega), w64 (a := (i : Int) + 1) (by omega) (by omega), show (i : Int) + 1 = ((i + 1 : Nat) : Int) by omega]
    rw [if_pos trivial]
    exact ih k (i + 1) (by omega) (by omega) (by omega)
theorem laws_eqIntS_eq (x0 : List Int) (k : Nat) (hn : x0.length ≤ 4611686018427387904) (hk : x0.length < k) : laws_eqIntS.f k x0 x0 = some true := by
  unfold laws_eqIntS.f
  rw [if_pos rfl]
  exact laws_eqIntS_l0 x0 hn x0.length k 0 (by omega) (by omega) hk

theorem laws_markIntS_l0 (m : Int) (n : Nat) (hm : 0 ≤ m) (hn : m + n ≤ 4611686018427387904) : ∀ (d k i : Nat) (x0 : List Int), x0.length = n → n - i = d → i ≤ n → d < k → (∀ j, j < i → x0[j]? = some (m + (j : Int))) → ∃ x, laws_markIntS.l0 k x0 (m + i) (i : Int) = some (m + n, x) ∧ x.length = n ∧ ∀ j, j < n → x[j]? = some (m + (j : Int)) := by
  intro d
  induction d with
  | zero =>
    intro k i x0 hl hd hi hk hj
    obtain ⟨k, rfl⟩ : ∃ m, k = m + 1 := ⟨k - 1, by omega⟩
    obtain rfl : i = n := by omega
    simp only [laws_markIntS.l0]
    rw [if_neg (by omega)]
    exact ⟨x0, rfl, hl, hj⟩
  | succ d ih =>
    intro k i x0 hl hd hi hk hj
    obtain ⟨k, rfl⟩ : ∃ m, k = m + 1 := ⟨k - 1, by omega⟩
    simp only [laws_markIntS.l0]
    rw [if_pos (by omega), if_pos (by omega), w64 (a := (i : Int) + 1) (by omega) (by omega), w64 (a := m + (i : Int) + 1) (by omega) (by omega), show (i : Int) + 1 = ((i + 1 : Nat) : Int) by omega, show m + (i : Int) + 1 = m + ((i + 1 : Nat) : Int) by omega]
    refine ih k (i + 1) _ (by simpa using hl) (by omega) (by omega) (by omega) ?_
    intro j hj'
    rw [Int.toNat_natCast]
    by_cases e : j = i
    · subst e
      rw [List.getElem?_set_self (by omega)]
    · rw [List.getElem?_set_ne (fun h => e h.symm)]
      exact hj j (by omega)
theorem laws_heldIntS_l0 (m : Int) (n : Nat) (hm : 0 ≤ m) (hn : m + n ≤ 4611686018427387904) (x : List Int) (hl : x.length = n) (hx : ∀ j, j < n → x[j]? = some (m + (j : Int))) : ∀ (d k i : Nat), n - i = d → i ≤ n → d < k → laws_heldIntS.l0 k x (m + i) (i : Int) = some (m + n) := by
  intro d
  induction d with
  | zero =>
    intro k i hd hi hk
    obtain ⟨k, rfl⟩ : ∃ m, k = m + 1 := ⟨k - 1, by omega⟩
    obtain rfl : i = n := by omega
    simp only [laws_heldIntS.l0]
    rw [if_neg (by omega)]
  | succ d ih =>
    intro k i hd hi hk
    obtain ⟨k, rfl⟩ : ∃ m, k = m + 1 := ⟨k - 1, by omega⟩
    simp only [laws_heldIntS.l0]
    have hr : rd x (i : Int) = (m + (i : Int)) := by
      show x.getD (i : Int).toNat 0 = _
      rw [Int.toNat_natCast, List.getD_eq_getElem?_getD, hx i (by omega)]; rfl
    rw [if_pos (by omega), if_pos (by omega), if_pos hr, w64 (a := (i : Int) + 1) (by omega) (by omega), w64 (a := m + (i : Int) + 1) (by omega) (by omega), show (i : Int) + 1 = ((i + 1 : Nat) : Int) by omega, show m + (i : Int) + 1 = m + ((i + 1 : Nat) : Int) by omega]
    exact ih k (i + 1) (by omega) (by omega) (by omega)
theorem mark_int (l : List Int) (m : Int) (hm : 0 ≤ m) (hn : m + l.length ≤ 4611686018427387904) (k : Nat) (hk : l.length < k) : ∃ x, laws_markIntS.f k l m = some (m + l.length, x) ∧ x.length = l.length ∧ ∀ k', l.length < k' → laws_heldIntS.f k' x m = some (m + l.length) := by
  obtain ⟨x, h1, h2, h3⟩ := laws_markIntS_l0 m l.length hm hn l.length k 0 l rfl (by omega) (by omega) hk (fun j hj => by omega)
  refine ⟨x, ?_, h2, fun k' hk' => ?_⟩
  · unfold laws_markIntS.f
    have := h1
    rwa [show m + ((0 : Nat) : Int) = m by omega] at this
  · unfold laws_heldIntS.f
    have := laws_heldIntS_l0 m l.length hm hn x h2 h3 l.length k' 0 (by omega) (by omega) hk'
    rwa [show m + ((0 : Nat) : Int) = m by omega] at this

def LimGood (lo hi step : Int) : Prop := -10000 ≤ lo ∧ lo ≤ hi ∧ hi ≤ 10000 ∧ 1 ≤ step ∧ step ≤ 10000
theorem lim_i (lo hi step : Int) : ∃ b, impl_limitsOk.f lo hi step = some b ∧ (b = true ↔ LimGood lo hi step) := by
  unfold impl_limitsOk.f LimGood
  simp only [in_i, Option.bind_some, ites]
  by_cases h : lo ≤ hi
  · rw [if_pos h]
    exact ⟨_, rfl, by simp; omega⟩
  · rw [if_neg h]
    exact ⟨_, rfl, by simp; omega⟩
theorem lim_s (lo hi step : Int) : ∃ b, spec_l9Limits.f lo hi step = some b ∧ (b = true ↔ LimGood lo hi step) := by
  unfold spec_l9Limits.f LimGood
  simp only [in_s, Option.bind_some, ites]
  by_cases h : hi ≤ 10000
  · rw [if_pos h, ites]
    exact ⟨_, rfl, by simp; omega⟩
  · rw [if_neg h]
    exact ⟨false, by cases (decide (-10000 ≤ lo) && decide (lo ≤ hi)) <;> rfl, by simp; omega⟩
theorem clamp_s (s lo hi : Int) (h : lo ≤ hi) : (spec_l1Min.f hi s).bind (fun t => spec_l1Max.f lo t) = some (mx (mn s hi) lo) := by
  unfold spec_l1Min.f spec_l1Max.f
  by_cases c : hi < s
  · rw [if_pos c, Option.bind_some]
    by_cases c2 : lo > hi
    · omega
    · rw [if_neg c2]; congr 1; unfold mx mn; omega
  · rw [if_neg c, Option.bind_some]
    by_cases c2 : lo > s
    · rw [if_pos c2]; congr 1; unfold mx mn; omega
    · rw [if_neg c2]; congr 1; unfold mx mn; omega
/-- What a surface is asked, and where it is held. -/
def mixAsk (A B : List Int) (p r : Int) (i : Nat) : Int := wrap64 (Int.tdiv (wrap64 (wrap64 (rd A (i : Int) * p) + wrap64 (rd B (i : Int) * r))) 100)
def mixOut (A B : List Int) (p r lo hi : Int) (i : Nat) : Int := mx (mn (mixAsk A B p r i) hi) lo
def mixCh (A B : List Int) (p r lo hi : Int) : Nat → Int
  | 0 => 0
  | i + 1 => if mixOut A B p r lo hi i = mixAsk A B p r i then mixCh A B p r lo hi i else mixCh A B p r lo hi i + 1
theorem mixCh_succ (A B : List Int) (p r lo hi : Int) (i : Nat) : mixCh A B p r lo hi (i + 1) = if mixOut A B p r lo hi i = mixAsk A B p r i then mixCh A B p r lo hi i else mixCh A B p r lo hi i + 1 := rfl
theorem mixCh_in (A B : List Int) (p r lo hi : Int) : ∀ i : Nat, 0 ≤ mixCh A B p r lo hi i ∧ mixCh A B p r lo hi i ≤ (i : Int)
  | 0 => ⟨Int.le_refl _, Int.le_refl _⟩
  | i + 1 => by
    have := mixCh_in A B p r lo hi i
    unfold mixCh
    split <;> omega
def mixList (A B : List Int) (p r lo hi : Int) (n : Nat) : List Int := (List.range n).map (mixOut A B p r lo hi)
theorem mixList_succ (A B : List Int) (p r lo hi : Int) (n : Nat) : mixList A B p r lo hi n ++ [mixOut A B p r lo hi n] = mixList A B p r lo hi (n + 1) := by
  unfold mixList
  rw [List.range_succ, List.map_append]; rfl
theorem mix_l0 (A B : List Int) (p r lo hi st : Int) (hn : A.length ≤ 12) (hB : B.length = A.length) : ∀ (d k i : Nat), A.length - i = d → i ≤ A.length → d < k → impl_Mix.l0 k p r (mixList A B p r lo hi i) (mixCh A B p r lo hi i) A (A.length : Int) (i : Int) A B lo hi st = some (mixList A B p r lo hi A.length, mixCh A B p r lo hi A.length, true) := by
  intro d
  induction d with
  | zero =>
    intro k i hd hi' hk
    obtain ⟨k, rfl⟩ : ∃ m, k = m + 1 := ⟨k - 1, by omega⟩
    obtain rfl : i = A.length := by omega
    simp only [impl_Mix.l0]
    rw [if_neg (by omega)]
  | succ d ih =>
    intro k i hd hi' hk
    obtain ⟨k, rfl⟩ : ∃ m, k = m + 1 := ⟨k - 1, by omega⟩
    have hc := mixCh_in A B p r lo hi i
    have hl : (mixList A B p r lo hi i).length = i := by simp [mixList]
    simp only [impl_Mix.l0, impl_held.f, Option.bind_some]
    rw [w64 (a := (i : Int) + 1) (by omega) (by omega), w64 (a := mixCh A B p r lo hi i + 1) (by omega) (by omega), if_pos (by omega), if_pos (by omega), if_pos (by omega), if_pos (by omega), if_pos (show (mixList A B p r lo hi i).length < 17592186044416 by omega), if_pos (show (mixList A B p r lo hi i).length < 17592186044416 by omega), show (i : Int) + 1 = ((i + 1 : Nat) : Int) by omega]
    have ih' := ih k (i + 1) (by omega) (by omega) (by omega)
    rw [← mixList_succ, mixCh_succ] at ih'
    by_cases c : mixOut A B p r lo hi i = mixAsk A B p r i
    · rw [if_pos c] at ih'
      exact (if_pos c).trans ih'
    · rw [if_neg c] at ih'
      exact (if_neg c).trans ih'
def MixGood (A B : List Int) (p r lo hi st : Int) : Prop := (A.length : Int) ≤ 12 ∧ (B.length : Int) = (A.length : Int) ∧ All A (-100) 100 ∧ All B (-100) 100 ∧ LimGood lo hi st ∧ (-10000 ≤ p ∧ p ≤ 10000) ∧ (-10000 ≤ r ∧ r ≤ 10000)
theorem mix_i (A B : List Int) (p r lo hi st : Int) (hA : A.length ≤ 4611686018427387904) (hB : B.length ≤ 4611686018427387904) (k : Nat) (hk : A.length + B.length + 5 < k) : (MixGood A B p r lo hi st → impl_Mix.f k A B p r lo hi st = some (mixList A B p r lo hi A.length, mixCh A B p r lo hi A.length, true)) ∧ (¬ MixGood A B p r lo hi st → impl_Mix.f k A B p r lo hi st = some ([], 0, false)) := by
  obtain ⟨k, rfl⟩ : ∃ m, k = m + 2 := ⟨k - 2, by omega⟩
  obtain ⟨a, ea, ga⟩ := allIn_i A (-100) 100 (k + 2) hA (by omega)
  obtain ⟨b, eb, gb⟩ := allIn_i B (-100) 100 (k + 2) hB (by omega)
  obtain ⟨c, ec, gc⟩ := lim_i lo hi st
  have bad : ∀ x, x = false → impl_Mix.j0 (k + 2) p r x A B lo hi st = some ([], 0, false) := by
    rintro x rfl; rfl
  unfold MixGood impl_Mix.f
  rw [ea, eb, Option.bind_some, Option.bind_some]
  by_cases h1 : (A.length : Int) ≤ 12
  · rw [if_pos h1]
    by_cases h2 : (B.length : Int) = (A.length : Int)
    · rw [if_pos h2]
      by_cases h3 : All A (-100) 100
      · rw [if_pos (ga.2 h3)]
        by_cases h4 : All B (-100) 100
        · obtain rfl := gb.2 h4
          simp only [impl_Mix.j0, if_true, ec, in_i, Option.bind_some]
          by_cases h5 : LimGood lo hi st
          · rw [if_pos (gc.2 h5)]
            by_cases h6 : -10000 ≤ p ∧ p ≤ 10000
            · rw [decide_eq_true h6.1, decide_eq_true h6.2]
              by_cases h7 : -10000 ≤ r ∧ r ≤ 10000
              · rw [decide_eq_true h7.1, decide_eq_true h7.2]
                refine ⟨fun _ => ?_, fun h => absurd ⟨h1, h2, h3, h4, h5, h6, h7⟩ h⟩
                simp only [Bool.and_self, if_true, Bool.not_true, impl_Mix.j1, Bool.false_eq_true, if_false]
                exact mix_l0 A B p r lo hi st (by omega) (by omega) A.length k 0 (by omega) (by omega) (by omega)
              · refine ⟨fun h => absurd h.2.2.2.2.2.2 h7, fun _ => ?_⟩
                have : (decide (-10000 ≤ r) && decide (r ≤ 10000)) = false := by
                  rw [← Bool.decide_and]; exact decide_eq_false h7
                rw [this]; rfl
            · refine ⟨fun h => absurd h.2.2.2.2.2.1 h6, fun _ => ?_⟩
              have : (decide (-10000 ≤ p) && decide (p ≤ 10000)) = false := by
                rw [← Bool.decide_and]; exact decide_eq_false h6
              rw [this]; rfl
          · refine ⟨fun h => absurd h.2.2.2.2.1 h5, fun _ => ?_⟩
            rw [if_neg (fun e => h5 (gc.1 e))]; rfl
        · refine ⟨fun h => absurd h.2.2.2.1 h4, fun _ => bad _ ?_⟩
          cases b
          · rfl
          · exact absurd (gb.1 rfl) h4
      · refine ⟨fun h => absurd h.2.2.1 h3, fun _ => ?_⟩
        rw [if_neg (fun e => h3 (ga.1 e))]; rfl
    · refine ⟨fun h => absurd h.2.1 h2, fun _ => ?_⟩
      rw [if_neg h2]; rfl
  · refine ⟨fun h => absurd h.1 h1, fun _ => ?_⟩
    rw [if_neg h1]; rfl
theorem held_s (x a b : Int) (h : a ≤ b) : spec_l9Held.f x a b = some (mx (mn x b) a) := by
  obtain ⟨t, e1, e2⟩ := Option.bind_eq_some_iff.1 (clamp_s x a b h)
  unfold spec_l9Held.f
  rw [e1, Option.bind_some, e2, Option.bind_some]
theorem mix_s_l0 (A B : List Int) (p r lo hi st : Int) (hlh : lo ≤ hi) (hn : A.length ≤ 12) (hB : B.length = A.length) : ∀ (d k i : Nat), A.length - i = d → i ≤ A.length → d < k → spec_Mix.l0 k p r (mixList A B p r lo hi i) (mixCh A B p r lo hi i) (i : Int) A B lo hi st = some (mixList A B p r lo hi A.length, mixCh A B p r lo hi A.length, true) := by
  intro d
  induction d with
  | zero =>
    intro k i hd hi' hk
    obtain ⟨k, rfl⟩ : ∃ m, k = m + 1 := ⟨k - 1, by omega⟩
    obtain rfl : i = A.length := by omega
    simp only [spec_Mix.l0]
    rw [if_neg (by omega)]
  | succ d ih =>
    intro k i hd hi' hk
    obtain ⟨k, rfl⟩ : ∃ m, k = m + 1 := ⟨k - 1, by omega⟩
    have hc := mixCh_in A B p r lo hi i
    have hl : (mixList A B p r lo hi i).length = i := by simp [mixList]
    simp only [spec_Mix.l0]
    rw [held_s _ _ _ hlh, Option.bind_some, w64 (a := (i : Int) + 1) (by omega) (by omega), w64 (a := mixCh A B p r lo hi i + 1) (by omega) (by omega), if_pos (by omega), if_pos (by omega), if_pos (by omega), if_pos (show (mixList A B p r lo hi i).length < 17592186044416 by omega), if_pos (show (mixList A B p r lo hi i).length < 17592186044416 by omega), show (i : Int) + 1 = ((i + 1 : Nat) : Int) by omega]
    have ih' := ih k (i + 1) (by omega) (by omega) (by omega)
    rw [← mixList_succ, mixCh_succ] at ih'
    by_cases c : mixOut A B p r lo hi i = mixAsk A B p r i
    · rw [if_pos c] at ih'
      exact (if_pos c.symm).trans ih'
    · rw [if_neg c] at ih'
      exact (if_neg (fun e => c e.symm)).trans ih'
theorem mix_s (A B : List Int) (p r lo hi st : Int) (hA : A.length ≤ 4611686018427387904) (hB : B.length ≤ 4611686018427387904) (k : Nat) (hk : A.length + B.length + 5 < k) : (MixGood A B p r lo hi st → spec_Mix.f k A B p r lo hi st = some (mixList A B p r lo hi A.length, mixCh A B p r lo hi A.length, true)) ∧ (¬ MixGood A B p r lo hi st → spec_Mix.f k A B p r lo hi st = some ([], 0, false)) := by
  obtain ⟨k, rfl⟩ : ∃ m, k = m + 2 := ⟨k - 2, by omega⟩
  obtain ⟨a, ea, ga⟩ := all_s A (-100) 100 (k + 2) hA (by omega)
  obtain ⟨b, eb, gb⟩ := all_s B (-100) 100 (k + 2) hB (by omega)
  obtain ⟨c, ec, gc⟩ := lim_s lo hi st
  unfold MixGood spec_Mix.f
  simp only [ea, eb, ec, in_s, Option.bind_some]
  by_cases h1 : (A.length : Int) ≤ 12
  · rw [if_neg (show ¬ (A.length : Int) > 12 by omega)]
    by_cases h2 : (B.length : Int) = (A.length : Int)
    · rw [if_pos h2.symm]
      by_cases h3 : All A (-100) 100
      · rw [if_pos (ga.2 h3)]
        by_cases h4 : All B (-100) 100
        · rw [if_pos (gb.2 h4)]
          by_cases h5 : LimGood lo hi st
          · rw [if_pos (gc.2 h5)]
            by_cases h6 : -10000 ≤ p ∧ p ≤ 10000
            · rw [decide_eq_true h6.1, decide_eq_true h6.2]
              by_cases h7 : -10000 ≤ r ∧ r ≤ 10000
              · rw [decide_eq_true h7.1, decide_eq_true h7.2]
                refine ⟨fun _ => ?_, fun h => absurd ⟨h1, h2, h3, h4, h5, h6, h7⟩ h⟩
                simp only [Bool.and_self, if_true, Bool.not_true, spec_Mix.j0, Bool.false_eq_true, if_false]
                exact mix_s_l0 A B p r lo hi st h5.2.1 (by omega) (by omega) A.length (k + 1) 0 (by omega) (by omega) (by omega)
              · refine ⟨fun h => absurd h.2.2.2.2.2.2 h7, fun _ => ?_⟩
                have : (decide (-10000 ≤ r) && decide (r ≤ 10000)) = false := by
                  rw [← Bool.decide_and]; exact decide_eq_false h7
                rw [this]; rfl
            · refine ⟨fun h => absurd h.2.2.2.2.2.1 h6, fun _ => ?_⟩
              have : (decide (-10000 ≤ p) && decide (p ≤ 10000)) = false := by
                rw [← Bool.decide_and]; exact decide_eq_false h6
              rw [this]; rfl
          · refine ⟨fun h => absurd h.2.2.2.2.1 h5, fun _ => ?_⟩
            rw [if_neg (fun e => h5 (gc.1 e))]; rfl
        · refine ⟨fun h => absurd h.2.2.2.1 h4, fun _ => ?_⟩
          rw [if_neg (fun e => h4 (gb.1 e))]; rfl
      · refine ⟨fun h => absurd h.2.2.1 h3, fun _ => ?_⟩
        rw [if_neg (fun e => h3 (ga.1 e))]; rfl
    · refine ⟨fun h => absurd h.2.1 h2, fun _ => ?_⟩
      rw [if_neg (fun e => h2 e.symm)]; rfl
  · refine ⟨fun h => absurd h.1 h1, fun _ => ?_⟩
    rw [if_pos (show (A.length : Int) > 12 by omega)]; rfl
theorem FnExactMix : laws_FnExactMix.Pure := by
  intro A B p r lo hi st ⟨hA, _⟩ ⟨hB, _⟩ _ _ _ _ _
  have hA' : A.length ≤ 9223372036854775807 := hA
  have hB' : B.length ≤ 9223372036854775807 := hB
  refine ⟨A.length + B.length + 20, ?_⟩
  unfold laws_FnExactMix.f laws_szMixer.f laws_szIntS.f
  rw [w64 (a := 1048576 - (A.length : Int)) (by omega) (by omega)]
  by_cases h : (1048576 : Int) - (A.length : Int) < 0
  · rw [if_pos h]; rfl
  · rw [if_neg h, Option.bind_some, if_neg h, w64 (a := 1048576 - (A.length : Int) - (B.length : Int)) (by omega) (by omega)]
    by_cases h2 : (1048576 : Int) - (A.length : Int) - (B.length : Int) < 0
    · rw [if_pos h2]; rfl
    · rw [if_neg h2, Option.bind_some, if_neg h2, Option.bind_some, if_neg h2]
      have hn : A.length + B.length ≤ 1048576 := by omega
      have ht : ∀ k, A.length + B.length < k → laws_toMixer.f k A B = some (A, B) := by
        intro k hk
        unfold laws_toMixer.f
        rw [laws_toIntS_eq A _ (by omega) (by omega), laws_toIntS_eq B _ (by omega) (by omega)]; rfl
      have he : ∀ k, A.length + B.length < k → laws_eqMixer.f k A B A B = some true := by
        intro k hk
        unfold laws_eqMixer.f
        rw [laws_eqIntS_eq A _ (by omega) (by omega), laws_eqIntS_eq B _ (by omega) (by omega)]; rfl
      obtain ⟨A', m1, _, _⟩ := mark_int A 1 (by omega) (by omega) (A.length + B.length + 19) (by omega)
      obtain ⟨B', m2, _, _⟩ := mark_int B (1 + A.length) (by omega) (by omega) (A.length + B.length + 19) (by omega)
      have hm : laws_markMixer.f (A.length + B.length + 19) A B 1 = some ((1 : Int) + A.length + B.length, A', B') := by
        unfold laws_markMixer.f
        rw [m1, Option.bind_some, m2, Option.bind_some]
      have hm0 : ¬ ((1 : Int) + A.length + B.length < 0) := by omega
      have hr : ∃ out ch ok, out.length ≤ A.length ∧ ∀ k, A.length + B.length + 5 < k → spec_Mix.f k A B p r lo hi st = some (out, ch, ok) ∧ impl_Mix.f k A B p r lo hi st = some (out, ch, ok) := by
        by_cases hg : MixGood A B p r lo hi st
        · exact ⟨_, _, _, by simp [mixList], fun k hk => ⟨(mix_s A B p r lo hi st (by omega) (by omega) k hk).1 hg, (mix_i A B p r lo hi st (by omega) (by omega) k hk).1 hg⟩⟩
        · exact ⟨_, _, _, by simp, fun k hk => ⟨(mix_s A B p r lo hi st (by omega) (by omega) k hk).2 hg, (mix_i A B p r lo hi st (by omega) (by omega) k hk).2 hg⟩⟩
      obtain ⟨out, ch, ok, ho, hf⟩ := hr
      have heo : ∀ k, A.length + B.length < k → laws_eqIntS.f k out out = some true := fun k hk => laws_eqIntS_eq out k (by omega) (by omega)
      obtain ⟨o', n1, n2, n3⟩ := mark_int out 1 (by omega) (by omega) (A.length + B.length + 18) (by omega)
      have hn0 : ¬ ((1 : Int) + out.length < 0) := by omega
      simp only [laws_toLimits.f, ht _ (show A.length + B.length < A.length + B.length + 20 by omega), (hf (A.length + B.length + 20) (by omega)).1, (hf (A.length + B.length + 20) (by omega)).2, Option.bind_some, heo (A.length + B.length + 20) (by omega), if_true, bne_self_eq_false,
        laws_FnExactMix.j0, Bool.false_eq_true, if_false, ht (A.length + B.length + 19) (by omega), he (A.length + B.length + 19) (by omega), hm, hm0, heo (A.length + B.length + 19) (by omega),
        laws_FnExactMix.j1, n1, n3 (A.length + B.length + 18) (by omega), hn0, ht (A.length + B.length + 18) (by omega), (hf (A.length + B.length + 18) (by omega)).2, heo (A.length + B.length + 18) (by omega),
        laws_FnExactMix.j2, n3 (A.length + B.length + 17) (by omega)]
end Go.Proofs.Ytifcfkoohfbfoaa.Pure.FnExactMix
namespace Go.Proofs.Ytifcfkoohfbfoaa.Pure
theorem FnExactMix : Go.Proofs.Ytifcfkoohfbfoaa.PFnExactMix.laws_FnExactMix.Pure := FnExactMix.FnExactMix
end Go.Proofs.Ytifcfkoohfbfoaa.Pure
