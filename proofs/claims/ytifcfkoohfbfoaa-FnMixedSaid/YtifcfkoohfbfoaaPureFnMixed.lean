/- For every code the law FnMixed returns true: surfaces that are mixed stay within limits and are those of each weight where nothing is changed; a trim goes one way in ten ticks by one. No condition. -/
import Derived.Test.YtifcfkoohfbfoaaPFnMixedx3
import Derived.Test.YtifcfkoohfbfoaaNum
namespace Go.Proofs.Ytifcfkoohfbfoaa.Pure.FnMixed
open Go.RowKit Go.Proofs.Ytifcfkoohfbfoaa.PFnMixed Go.Proofs.YtifcfkoohfbfoaaW.PrintWords Go.Proofs.YtifcfkoohfbfoaaW.PrintLast Go.Proofs.YtifcfkoohfbfoaaW.PrintMore Go.Proofs.Ytifcfkoohfbfoaa.Num
set_option linter.unusedVariables false
set_option linter.unusedSimpArgs false
theorem in_i (a b c : Int) : impl_in.f a b c = some (decide (b ≤ a) && decide (a ≤ c)) := by
  unfold impl_in.f
  by_cases h : a ≥ b
  · rw [if_pos h, decide_eq_true (show b ≤ a from h)]; rfl
  · rw [if_neg h, decide_eq_false (show ¬ b ≤ a from h)]; rfl
/-- All numbers are in bounds. -/
def All (xs : List Int) (lo hi : Int) : Prop := ∀ j : Nat, j < xs.length → lo ≤ rd xs (j : Int) ∧ rd xs (j : Int) ≤ hi
/-- Each number is above the one ahead. -/
def Rise (xs : List Int) : Prop := ∀ j : Nat, 1 ≤ j → j < xs.length → rd xs ((j - 1 : Nat) : Int) < rd xs (j : Int)
theorem allIn_l0 (xs : List Int) (lo hi : Int) (hn : xs.length ≤ 4611686018427387904) : ∀ (d k i : Nat), xs.length - i = d → i ≤ xs.length → d < k → ∃ b, impl_allIn.l0 k lo hi xs (xs.length : Int) (i : Int) = some b ∧ (b = true ↔ ∀ j : Nat, i ≤ j → j < xs.length → lo ≤ rd xs (j : Int) ∧ rd xs (j : Int) ≤ hi) := by
  intro d
  induction d with
  | zero =>
    intro k i hd hi' hk
    obtain ⟨k, rfl⟩ : ∃ m, k = m + 1 := ⟨k - 1, by omega⟩
    simp only [impl_allIn.l0]
    rw [if_neg (by omega)]
    exact ⟨true, rfl, by simp; intro j h1 h2; omega⟩
  | succ d ih =>
    intro k i hd hi' hk
    obtain ⟨k, rfl⟩ : ∃ m, k = m + 1 := ⟨k - 1, by omega⟩
    simp only [impl_allIn.l0, in_i, Option.bind_some]
    rw [if_pos (by omega), if_pos (by omega), if_pos (by omega), w64 (a := (i : Int) + 1) (by omega) (by omega), show (i : Int) + 1 = ((i + 1 : Nat) : Int) by omega, ← Bool.decide_and]
    by_cases h : lo ≤ rd xs (i : Int) ∧ rd xs (i : Int) ≤ hi
    · rw [decide_eq_true h, if_pos rfl]
      obtain ⟨b, h1, h2⟩ := ih k (i + 1) (by omega) (by omega) (by omega)
      refine ⟨b, h1, h2.trans ⟨fun g j hj hl => ?_, fun g j hj hl => g j (by omega) hl⟩⟩
      by_cases e : j = i
      · subst e; exact h
      · exact g j (by omega) hl
    · rw [decide_eq_false h, if_neg (by decide)]
      exact ⟨false, rfl, ⟨fun g => absurd g Bool.false_ne_true, fun g => absurd (g i (by omega) (by omega)) h⟩⟩
theorem allIn_i (xs : List Int) (lo hi : Int) (k : Nat) (hn : xs.length ≤ 4611686018427387904) (hk : xs.length < k) : ∃ b, impl_allIn.f k xs lo hi = some b ∧ (b = true ↔ All xs lo hi) := by
  obtain ⟨b, h1, h2⟩ := allIn_l0 xs lo hi hn xs.length k 0 (by omega) (by omega) hk
  exact ⟨b, h1, h2.trans ⟨fun g j hl => g j (by omega) hl, fun g j _ hl => g j hl⟩⟩
def LimGood (lo hi step : Int) : Prop := -10000 ≤ lo ∧ lo ≤ hi ∧ hi ≤ 10000 ∧ 1 ≤ step ∧ step ≤ 10000
theorem lim_i (lo hi step : Int) : ∃ b, impl_limitsOk.f lo hi step = some b ∧ (b = true ↔ LimGood lo hi step) := by
  unfold impl_limitsOk.f LimGood
  simp only [in_i, Option.bind_some, ites]
  by_cases h : lo ≤ hi
  · rw [if_pos h]
    exact ⟨_, rfl, by simp; omega⟩
  · rw [if_neg h]
    exact ⟨_, rfl, by simp; omega⟩
/-- What a surface is asked, and where it is held. -/
def mixAsk (A B : List Int) (p r : Int) (i : Nat) : Int := wrap64 (Int.tdiv (wrap64 (wrap64 (rd A (i : Int) * p) + wrap64 (rd B (i : Int) * r))) 100)
def mixOut (A B : List Int) (p r lo hi : Int) (i : Nat) : Int := mx (mn (mixAsk A B p r i) hi) lo
def mixCh (A B : List Int) (p r lo hi : Int) : Nat → Int
  | 0 => 0
  | i + 1 => if mixOut A B p r lo hi i = mixAsk A B p r i then mixCh A B p r lo hi i else mixCh A B p r lo hi i + 1
theorem mixCh_succ (A B : List Int) (p r lo hi : Int) (i : Nat) : mixCh A B p r lo hi (i + 1) = if mixOut A B p r lo hi i = mixAsk A B p r i then mixCh A B p r lo hi i else mixCh A B p r lo hi i + 1 := rfl
theorem mixCh_in (A B : List Int) (p r lo hi : Int) : ∀ i : Nat, 0 ≤ mixCh A B p r lo hi i ∧ mixCh A B p r lo hi i ≤ (i : Int)
  | 0 => ⟨Int.le_refl _, Int.le_refl _⟩
  | i + 1 => by
    have := mixCh_in A B p r lo hi i
    unfold mixCh
    split <;> omega
def mixList (A B : List Int) (p r lo hi : Int) (n : Nat) : List Int := (List.range n).map (mixOut A B p r lo hi)
theorem mixList_succ (A B : List Int) (p r lo hi : Int) (n : Nat) : mixList A B p r lo hi n ++ [mixOut A B p r lo hi n] = mixList A B p r lo hi (n + 1) := by
  unfold mixList
  rw [List.range_succ, List.map_append]; rfl
theorem mix_l0 (A B : List Int) (p r lo hi st : Int) (hn : A.length ≤ 12) (hB : B.length = A.length) : ∀ (d k i : Nat), A.length - i = d → i ≤ A.length → d < k → impl_Mix.l0 k p r (mixList A B p r lo hi i) (mixCh A B p r lo hi i) A (A.length : Int) (i : Int) A B lo hi st = some (mixList A B p r lo hi A.length, mixCh A B p r lo hi A.length, true) := by
  intro d
  induction d with
  | zero =>
    intro k i hd hi' hk
    obtain ⟨k, rfl⟩ : ∃ m, k = m + 1 := ⟨k - 1, by omega⟩
    obtain rfl : i = A.length := by omega
    simp only [impl_Mix.l0]
    rw [if_neg (by omega)]
  | succ d ih =>
    intro k i hd hi' hk
    obtain ⟨k, rfl⟩ : ∃ m, k = m + 1 := ⟨k - 1, by omega⟩
    have hc := mixCh_in A B p r lo hi i
    have hl : (mixList A B p r lo hi i).length = i := by simp [mixList]
    simp only [impl_Mix.l0, impl_held.f, Option.bind_some]
    rw [w64 (a := (i : Int) + 1) (by omega) (by omega), w64 (a := mixCh A B p r lo hi i + 1) (by omega) (by omega), if_pos (by omega), if_pos (by omega), if_pos (by omega), if_pos (by omega), if_pos (show (mixList A B p r lo hi i).length < 17592186044416 by omega), if_pos (show (mixList A B p r lo hi i).length < 17592186044416 by omega), show (i : Int) + 1 = ((i + 1 : Nat) : Int) by omega]
    have ih' := ih k (i + 1) (by omega) (by omega) (by omega)
    rw [← mixList_succ, mixCh_succ] at ih'
    by_cases c : mixOut A B p r lo hi i = mixAsk A B p r i
    · rw [if_pos c] at ih'
      exact (if_pos c).trans ih'
    · rw [if_neg c] at ih'
      exact (if_neg c).trans ih'
def MixGood (A B : List Int) (p r lo hi st : Int) : Prop := (A.length : Int) ≤ 12 ∧ (B.length : Int) = (A.length : Int) ∧ All A (-100) 100 ∧ All B (-100) 100 ∧ LimGood lo hi st ∧ (-10000 ≤ p ∧ p ≤ 10000) ∧ (-10000 ≤ r ∧ r ≤ 10000)
theorem mix_i (A B : List Int) (p r lo hi st : Int) (hA : A.length ≤ 4611686018427387904) (hB : B.length ≤ 4611686018427387904) (k : Nat) (hk : A.length + B.length + 5 < k) : (MixGood A B p r lo hi st → impl_Mix.f k A B p r lo hi st = some (mixList A B p r lo hi A.length, mixCh A B p r lo hi A.length, true)) ∧ (¬ MixGood A B p r lo hi st → impl_Mix.f k A B p r lo hi st = some ([], 0, false)) := by
  obtain ⟨k, rfl⟩ : ∃ m, k = m + 2 := ⟨k - 2, by omega⟩
  obtain ⟨a, ea, ga⟩ := allIn_i A (-100) 100 (k + 2) hA (by omega)
  obtain ⟨b, eb, gb⟩ := allIn_i B (-100) 100 (k + 2) hB (by omega)
  obtain ⟨c, ec, gc⟩ := lim_i lo hi st
  have bad : ∀ x, x = false → impl_Mix.j0 (k + 2) p r x A B lo hi st = some ([], 0, false) := by
    rintro x rfl; rfl
  unfold MixGood impl_Mix.f
  rw [ea, eb, Option.bind_some, Option.bind_some]
  by_cases h1 : (A.length : Int) ≤ 12
  · rw [if_pos h1]
    by_cases h2 : (B.length : Int) = (A.length : Int)
    · rw [if_pos h2]
      by_cases h3 : All A (-100) 100
      · rw [if_pos (ga.2 h3)]
        by_cases h4 : All B (-100) 100
        · obtain rfl := gb.2 h4
          simp only [impl_Mix.j0, if_true, ec, in_i, Option.bind_some]
          by_cases h5 : LimGood lo hi st
          · rw [if_pos (gc.2 h5)]
            by_cases h6 : -10000 ≤ p ∧ p ≤ 10000
            · rw [decide_eq_true h6.1, decide_eq_true h6.2]
              by_cases h7 : -10000 ≤ r ∧ r ≤ 10000
              · rw [decide_eq_true h7.1, decide_eq_true h7.2]
                refine ⟨fun _ => ?_, fun h => absurd ⟨h1, h2, h3, h4, h5, h6, h7⟩ h⟩
                simp only [Bool.and_self, if_true, Bool.not_true, impl_Mix.j1, Bool.false_eq_true, if_false]
                exact mix_l0 A B p r lo hi st (by omega) (by omega) A.length k 0 (by omega) (by omega) (by omega)
              · refine ⟨fun h => absurd h.2.2.2.2.2.2 h7, fun _ => ?_⟩
                have : (decide (-10000 ≤ r) && decide (r ≤ 10000)) = false := by
                  rw [← Bool.decide_and]; exact decide_eq_false h7
                rw [this]; rfl
            · refine ⟨fun h => absurd h.2.2.2.2.2.1 h6, fun _ => ?_⟩
              have : (decide (-10000 ≤ p) && decide (p ≤ 10000)) = false := by
                rw [← Bool.decide_and]; exact decide_eq_false h6
              rw [this]; rfl
          · refine ⟨fun h => absurd h.2.2.2.2.1 h5, fun _ => ?_⟩
            rw [if_neg (fun e => h5 (gc.1 e))]; rfl
        · refine ⟨fun h => absurd h.2.2.2.1 h4, fun _ => bad _ ?_⟩
          cases b
          · rfl
          · exact absurd (gb.1 rfl) h4
      · refine ⟨fun h => absurd h.2.2.1 h3, fun _ => ?_⟩
        rw [if_neg (fun e => h3 (ga.1 e))]; rfl
    · refine ⟨fun h => absurd h.2.1 h2, fun _ => ?_⟩
      rw [if_neg h2]; rfl
  · refine ⟨fun h => absurd h.1 h1, fun _ => ?_⟩
    rw [if_neg h1]; rfl
theorem at_in (l : List Int) (hl : l.length ≤ 1048576) (hu : ∀ x ∈ l, (Lit.int .u8 x).wf = true) (i : Int) (h0 : 0 ≤ i) (h1 : i ≤ 1000000) : ∃ v, laws_at.f l i = some v ∧ 0 ≤ v ∧ v ≤ 255 := by
  unfold laws_at.f
  by_cases h : i < (l.length : Int)
  · rw [if_pos h, if_pos h0]
    have hi : i.toNat < l.length := by omega
    have hr : rd l i = l[i.toNat] := by
      show l.getD i.toNat 0 = _
      rw [List.getD_eq_getElem?_getD, List.getElem?_eq_getElem hi]; rfl
    have hb := wfu8 (hu _ (List.getElem_mem hi))
    rw [hr, w64 (by omega) (by omega)]
    exact ⟨_, rfl, hb.1, hb.2⟩
  · rw [if_neg h]
    refine ⟨_, rfl, ?_⟩
    rw [w64 (a := i * 7) (by omega) (by omega), w64 (by omega) (by omega), Int.tmod_eq_emod_of_nonneg (by omega)]
    omega
theorem big_f (l : List Int) (h : l.length ≤ 1048576) : laws_big.f l = some false := by
  unfold laws_big.f
  rw [decide_eq_false (by omega)]
theorem big_t (l : List Int) (h : ¬ l.length ≤ 1048576) : laws_big.f l = some true := by
  unfold laws_big.f
  rw [decide_eq_true (by omega)]
theorem trim_up (k : Nat) (held hold : Int) (h1 : 1 ≤ held) (h2 : held ≤ 1000) (h3 : 0 ≤ hold) (h4 : hold < 9) : impl_TrimTick.f (k + 1) 0 held hold = some (0, hold + 1, true) := by
  unfold impl_TrimTick.f
  simp only [in_i, Option.bind_some, impl_TrimTick.j0]
  rw [decide_eq_true (show (-1000 : Int) ≤ 0 by omega), decide_eq_true (show (0 : Int) ≤ 1000 by omega), decide_eq_true (show (-1000 : Int) ≤ held by omega), decide_eq_true h2, decide_eq_true h3, decide_eq_true (show hold ≤ 9 by omega)]
  simp only [Bool.and_self, if_true, Bool.not_true, Bool.false_eq_true, if_false]
  rw [if_neg (show ¬ held = 0 by omega), if_pos h4, w64 (by omega) (by omega)]
theorem trim_end (k : Nat) (held : Int) (h1 : 1 ≤ held) (h2 : held ≤ 1000) : impl_TrimTick.f (k + 1) 0 held 9 = some (1, 0, true) := by
  unfold impl_TrimTick.f
  simp only [in_i, Option.bind_some, impl_TrimTick.j0]
  rw [decide_eq_true (show (-1000 : Int) ≤ 0 by omega), decide_eq_true (show (0 : Int) ≤ 1000 by omega), decide_eq_true (show (-1000 : Int) ≤ held by omega), decide_eq_true h2, decide_eq_true (show (0 : Int) ≤ 9 by omega), decide_eq_true (show (9 : Int) ≤ 9 by omega)]
  simp only [Bool.and_self, if_true, Bool.not_true, Bool.false_eq_true, if_false]
  rw [if_neg (show ¬ held = 0 by omega), if_neg (show ¬ (9 : Int) < 9 by omega), if_pos (show held > 0 by omega), w64 (a := (0 : Int) + 1) (by omega) (by omega)]
  rfl
section
variable (l : List Int) (hl : l.length ≤ 1048576) (hu : ∀ x ∈ l, (Lit.int .u8 x).wf = true)
include hl hu
omit hl hu in
theorem l2_end (k : Nat) (c : Int) : laws_FnMixed.l2 (k + 1) l c c 1 0 10 = some true := by
  simp only [laws_FnMixed.l2]
  rw [if_neg (by omega), if_pos trivial, if_pos trivial]
  rfl
theorem l2_round (c : Int) : ∀ (d k : Nat) (i : Int), 0 ≤ i → i ≤ 9 → 9 - i = d → d + 3 < k → laws_FnMixed.l2 k l c c 0 i i = some true := by
  intro d
  induction d with
  | zero =>
    intro k i h0 h9 hd hk
    obtain ⟨k, rfl⟩ : ∃ m, k = m + 1 := ⟨k - 1, by omega⟩
    obtain rfl : i = 9 := by omega
    obtain ⟨v, e, v0, v1⟩ := at_in l hl hu 44 (by omega) (by omega)
    simp only [laws_FnMixed.l2]
    obtain ⟨k, rfl⟩ : ∃ m, k = m + 1 := ⟨k - 1, by omega⟩
    rw [if_pos (by omega), e, Option.bind_some, w64 (a := 1 + v) (by omega) (by omega), trim_end _ _ (by omega) (by omega), Option.bind_some, if_pos rfl, w64 (by omega) (by omega)]
    exact l2_end l _ _
  | succ d ih =>
    intro k i h0 h9 hd hk
    obtain ⟨k, rfl⟩ : ∃ m, k = m + 1 := ⟨k - 1, by omega⟩
    obtain ⟨v, e, v0, v1⟩ := at_in l hl hu 44 (by omega) (by omega)
    simp only [laws_FnMixed.l2]
    obtain ⟨k, rfl⟩ : ∃ m, k = m + 1 := ⟨k - 1, by omega⟩
    rw [if_pos (by omega), e, Option.bind_some, w64 (a := 1 + v) (by omega) (by omega), trim_up _ _ _ (by omega) (by omega) h0 (by omega), Option.bind_some, if_pos rfl, w64 (by omega) (by omega)]
    exact ih (k + 1) (i + 1) (by omega) (by omega) (by omega) (by omega)
theorem l1_round (A B : List Int) (p r lo hi st : Int) (hlh : lo ≤ hi) (hn : A.length ≤ 8) (hB : B.length = A.length) : ∀ (d k i : Nat), A.length - i = d → i ≤ A.length → 2 * d + 20 < k →
    laws_FnMixed.l1 k l p r (mixList A B p r lo hi A.length) (mixCh A B p r lo hi A.length) (mixCh A B p r lo hi i) (i : Int) A B lo hi st = some true := by
  intro d
  induction d with
  | zero =>
    intro k i hd hi' hk
    obtain ⟨k, rfl⟩ : ∃ m, k = m + 1 := ⟨k - 1, by omega⟩
    obtain rfl : i = A.length := by omega
    have hl' : (mixList A B p r lo hi A.length).length = A.length := by simp [mixList]
    simp only [laws_FnMixed.l1]
    rw [if_neg (by omega)]
    exact l2_round l hl hu _ 9 k 0 (by omega) (by omega) (by omega) (by omega)
  | succ d ih =>
    intro k i hd hi' hk
    obtain ⟨k, rfl⟩ : ∃ m, k = m + 2 := ⟨k - 2, by omega⟩
    have hl' : (mixList A B p r lo hi A.length).length = A.length := by simp [mixList]
    have hc := mixCh_in A B p r lo hi i
    have hr : rd (mixList A B p r lo hi A.length) (i : Int) = mixOut A B p r lo hi i := by
      show (mixList A B p r lo hi A.length).getD (i : Int).toNat 0 = _
      rw [Int.toNat_natCast, List.getD_eq_getElem?_getD]
      simp only [mixList, List.getElem?_map]
      rw [List.getElem?_range (by omega)]; rfl
    have hin : lo ≤ mixOut A B p r lo hi i ∧ mixOut A B p r lo hi i ≤ hi := held_in hlh
    have hout : mixOut A B p r lo hi i ≠ mixAsk A B p r i → mixOut A B p r lo hi i = lo ∨ mixOut A B p r lo hi i = hi := by
      unfold mixOut mx mn; omega
    have ih' := ih k (i + 1) (by omega) (by omega) (by omega)
    rw [mixCh_succ] at ih'
    simp only [laws_FnMixed.l1]
    rw [if_pos (by omega), if_pos (by omega), if_pos (by omega), if_pos (by omega), hr, if_neg (by omega), decide_eq_false (by omega)]
    simp only [laws_FnMixed.j3, Bool.false_eq_true, if_false]
    rw [if_pos (by omega), if_pos (by omega), hr, w64 (a := (i : Int) + 1) (by omega) (by omega), w64 (a := mixCh A B p r lo hi i + 1) (by omega) (by omega), show (i : Int) + 1 = ((i + 1 : Nat) : Int) by omega]
    by_cases c : mixOut A B p r lo hi i = mixAsk A B p r i
    · rw [if_pos c] at ih'
      exact (if_pos c.symm).trans ih'
    · rw [if_neg c] at ih'
      refine (if_neg (fun e => c e.symm)).trans ?_
      by_cases c2 : mixOut A B p r lo hi i = lo
      · exact (if_pos c2).trans ih'
      · exact (if_neg c2).trans ((if_pos ((hout c).resolve_left c2)).trans ih')
theorem l0_round (n : Int) (hn : ∃ t, laws_at.f l 0 = some t ∧ wrap64 (1 + Int.tmod t 8) = n) (hn1 : n ≤ 8) : ∀ (d k i : Nat) (A B : List Int), n - i = d → (i : Int) ≤ n → d + 60 < k → A.length = i → B.length = i → All A (-100) 100 → All B (-100) 100 → laws_FnMixed.l0 k l (i : Int) A B = some true := by
  obtain ⟨t, et, en⟩ := hn
  have snoc : ∀ (A : List Int) (v : Int), All A (-100) 100 → -100 ≤ v → v ≤ 100 → All (A ++ [v]) (-100) 100 := by
    intro A v hA h1 h2 j hj
    rw [List.length_append] at hj
    have hr : rd (A ++ [v]) (j : Int) = if j < A.length then rd A (j : Int) else v := by
      show (A ++ [v]).getD (j : Int).toNat 0 = _
      rw [Int.toNat_natCast, List.getD_eq_getElem?_getD]
      by_cases c : j < A.length
      · rw [if_pos c, List.getElem?_append_left c]
        show _ = A.getD (j : Int).toNat 0
        rw [Int.toNat_natCast, List.getD_eq_getElem?_getD]
      · rw [if_neg c, List.getElem?_append_right (by omega), show j - A.length = 0 by simp at hj; omega]; rfl
    rw [hr]
    split
    · exact hA j (by assumption)
    · exact ⟨h1, h2⟩
  intro d
  induction d with
  | zero =>
    intro k i A B hd hi hk hA hB gA gB
    obtain ⟨k, rfl⟩ : ∃ m, k = m + 2 := ⟨k - 2, by omega⟩
    obtain ⟨a, ea, a0, a1⟩ := at_in l hl hu 40 (by omega) (by omega)
    obtain ⟨b, eb, b0, b1⟩ := at_in l hl hu 41 (by omega) (by omega)
    obtain ⟨c, ec, c0, c1⟩ := at_in l hl hu 42 (by omega) (by omega)
    obtain ⟨e, ee, e0, e1⟩ := at_in l hl hu 43 (by omega) (by omega)
    simp only [laws_FnMixed.l0]
    rw [et, Option.bind_some, en, if_neg (by omega), ea, Option.bind_some, eb, Option.bind_some, ec, Option.bind_some, ee, Option.bind_some]
    rw [w64 (a := c * 4) (by omega) (by omega), w64 (a := c * 4 - 500) (by omega) (by omega), w64 (a := e * 4) (by omega) (by omega), w64 (a := e * 4 - 500) (by omega) (by omega), w64 (a := -a) (by omega) (by omega)]
    have hg : MixGood A B (c * 4 - 500) (e * 4 - 500) (-a) b 5 := ⟨by omega, by omega, gA, gB, ⟨by omega, by omega, by omega, by omega, by omega⟩, ⟨by omega, by omega⟩, ⟨by omega, by omega⟩⟩
    rw [(mix_i A B _ _ _ _ _ (by omega) (by omega) (k + 1) (by omega)).1 hg, Option.bind_some, if_pos rfl]
    have hlen : (((mixList A B (c * 4 - 500) (e * 4 - 500) (-a) b A.length).length : Int) != (A.length : Int)) = false := by simp [mixList]
    rw [hlen]
    simp only [laws_FnMixed.j1, Bool.false_eq_true, if_false]
    exact l1_round l hl hu A B _ _ _ _ _ (by omega) (by omega) (by omega) A.length k 0 (by omega) (by omega) (by omega)
  | succ d ih =>
    intro k i A B hd hi hk hA hB gA gB
    obtain ⟨k, rfl⟩ : ∃ m, k = m + 1 := ⟨k - 1, by omega⟩
    simp only [laws_FnMixed.l0]
    rw [et, Option.bind_some, en, if_pos (by omega), w64 (a := (i : Int) + 1) (by omega) (by omega), w64 (a := (i : Int) + 20) (by omega) (by omega)]
    obtain ⟨a, ea, a0, a1⟩ := at_in l hl hu ((i : Int) + 1) (by omega) (by omega)
    obtain ⟨b, eb, b0, b1⟩ := at_in l hl hu ((i : Int) + 20) (by omega) (by omega)
    rw [ea, Option.bind_some, if_pos (by omega), eb, Option.bind_some, if_pos (by omega), Int.tmod_eq_emod_of_nonneg a0, Int.tmod_eq_emod_of_nonneg b0, w64 (a := a % 201 - 100) (by omega) (by omega), w64 (a := b % 201 - 100) (by omega) (by omega), show (i : Int) + 1 = ((i + 1 : Nat) : Int) by omega]
    exact ih k (i + 1) _ _ (by omega) (by omega) (by omega) (by simp; omega) (by simp; omega) (snoc _ _ gA (by omega) (by omega)) (snoc _ _ gB (by omega) (by omega))
end
theorem FnMixed : laws_FnMixed.Pure := by
  intro l _ _ hu
  refine ⟨100, ?_⟩
  unfold laws_FnMixed.f
  by_cases hl : l.length ≤ 1048576
  · rw [big_f l hl, Option.bind_some, if_neg (by decide)]
    obtain ⟨t, et, t0, t1⟩ := at_in l hl hu 0 (by omega) (by omega)
    have hw : wrap64 (1 + Int.tmod t 8) = 1 + t % 8 := by rw [Int.tmod_eq_emod_of_nonneg t0, w64 (by omega) (by omega)]
    exact l0_round l hl hu (1 + t % 8) ⟨t, et, hw⟩ (by omega) (1 + t % 8).toNat 100 0 [] [] (by omega) (by omega) (by omega) rfl rfl (fun j h => by simp at h) (fun j h => by simp at h)
  · rw [big_t l hl]; rfl
end Go.Proofs.Ytifcfkoohfbfoaa.Pure.FnMixed
namespace Go.Proofs.Ytifcfkoohfbfoaa.Pure
theorem FnMixed : Go.Proofs.Ytifcfkoohfbfoaa.PFnMixed.laws_FnMixed.Pure := FnMixed.FnMixed
end Go.Proofs.Ytifcfkoohfbfoaa.Pure
