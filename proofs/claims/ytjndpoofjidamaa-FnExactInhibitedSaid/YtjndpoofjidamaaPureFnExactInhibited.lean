/- For every list of WarnRules and every phase the program's Inhibited answers what the reference's answers, writes into nothing, keeps nothing, and owns its answer (FnExactInhibited returns true); no condition. -/
import Derived.Test.YtjndpoofjidamaaAskFnExactInhibited
import Derived.Test.YtjndpoofjidamaaNum
namespace Go.Proofs.Ytjndpoofjidamaa.Pure.FnExactInhibited
open Go.RowKit Go.Proofs.Ytjndpoofjidamaa.PFnExactInhibited Go.Proofs.YtjndpoofjidamaaW.PrintWords Go.Proofs.YtjndpoofjidamaaW.PrintLast Go.Proofs.YtjndpoofjidamaaW.PrintMore Go.Proofs.Ytjndpoofjidamaa.Num
set_option linter.unusedVariables false
set_option linter.unusedSimpArgs false
theorem in_s (a b c : Int) : spec_l1In.f a b c = some (decide (b ≤ a) && decide (a ≤ c)) := by
  unfold spec_l1In.f
  by_cases h : a ≥ b
  · rw [if_pos h, decide_eq_true (show b ≤ a from h)]; rfl
  · rw [if_neg h, decide_eq_false (show ¬ b ≤ a from h)]; rfl
theorem in_i (a b c : Int) : impl_in.f a b c = some (decide (b ≤ a) && decide (a ≤ c)) := by
  unfold impl_in.f
  by_cases h : a ≥ b
  · rw [if_pos h, decide_eq_true (show b ≤ a from h)]; rfl
  · rw [if_neg h, decide_eq_false (show ¬ b ≤ a from h)]; rfl
/-- From some count of rounds on it answers r. -/
def Ev {α : Type} (F : Nat → Option α) (r : α) : Prop := ∃ K, ∀ k, K ≤ k → F k = some r
theorem ev_step {α : Type} {F G : Nat → Option α} {r : α} (h : Ev G r) (e : ∀ k, F (k + 1) = G k) : Ev F r := by
  obtain ⟨K, h⟩ := h
  refine ⟨K + 1, fun k hk => ?_⟩
  obtain ⟨m, rfl⟩ : ∃ m, k = m + 1 := ⟨k - 1, by omega⟩
  rw [e m]; exact h m (by omega)
theorem ev_now {α : Type} {F : Nat → Option α} {r : α} (e : ∀ k, F (k + 1) = some r) : Ev F r :=
  ⟨1, fun k hk => by obtain ⟨m, rfl⟩ : ∃ m, k = m + 1 := ⟨k - 1, by omega⟩; exact e m⟩
theorem ev_const {α : Type} {o : Option α} {r : α} (e : o = some r) : Ev (fun _ => o) r := ⟨0, fun _ _ => e⟩
theorem ev_bind {α β : Type} {F : Nat → Option α} {G : Nat → α → Option β} {a : α} {r : β} (h : Ev F a) (g : Ev (fun k => G k a) r) : Ev (fun k => (F k).bind (G k)) r := by
  obtain ⟨K, h⟩ := h
  obtain ⟨L, g⟩ := g
  exact ⟨max K L, fun k hk => by show (F k).bind (G k) = _; rw [h k (by omega), Option.bind_some]; exact g k (by omega)⟩
theorem ev_cong {α : Type} {F G : Nat → Option α} {r : α} (h : Ev G r) (e : ∀ k, F k = G k) : Ev F r := by
  obtain ⟨K, h⟩ := h
  exact ⟨K, fun k hk => (e k).trans (h k hk)⟩
/-- All numbers are in bounds. -/
def All (xs : List Int) (lo hi : Int) : Prop := ∀ j : Nat, j < xs.length → lo ≤ rd xs (j : Int) ∧ rd xs (j : Int) ≤ hi
/-- Each number is above the one ahead. -/
def Rise (xs : List Int) : Prop := ∀ j : Nat, 1 ≤ j → j < xs.length → rd xs ((j - 1 : Nat) : Int) < rd xs (j : Int)
theorem l1All_l0 (xs : List Int) (lo hi : Int) (hn : xs.length ≤ 4611686018427387904) : ∀ (d k i : Nat), xs.length - i = d → i ≤ xs.length → d < k → ∃ b, spec_l1All.l0 k xs lo hi (i : Int) = some b ∧ (b = true ↔ ∀ j : Nat, i ≤ j → j < xs.length → lo ≤ rd xs (j : Int) ∧ rd xs (j : Int) ≤ hi) := by
  intro d
  induction d with
  | zero =>
    intro k i hd hi' hk
    obtain ⟨k, rfl⟩ : ∃ m, k = m + 1 := ⟨k - 1, by omega⟩
    simp only [spec_l1All.l0]
    rw [if_neg (by omega)]
    exact ⟨true, rfl, by simp; intro j h1 h2; omega⟩
  | succ d ih =>
    intro k i hd hi' hk
    obtain ⟨k, rfl⟩ : ∃ m, k = m + 1 := ⟨k - 1, by omega⟩
    simp only [spec_l1All.l0, in_s, Option.bind_some]
    rw [if_pos (by omega), if_pos (by omega), w64 (a := (i : Int) + 1) (by omega) (by omega), show (i : Int) + 1 = ((i + 1 : Nat) : Int) by omega, ← Bool.decide_and]
    by_cases h : lo ≤ rd xs (i : Int) ∧ rd xs (i : Int) ≤ hi
    · rw [decide_eq_true h, if_pos rfl]
      obtain ⟨b, h1, h2⟩ := ih k (i + 1) (by omega) (by omega) (by omega)
      refine ⟨b, h1, h2.trans ⟨fun g j hj hl => ?_, fun g j hj hl => g j (by omega) hl⟩⟩
      by_cases e : j = i
      · subst e; exact h
      · exact g j (by omega) hl
    · rw [decide_eq_false h, if_neg (by decide)]
      exact ⟨false, rfl, ⟨fun g => absurd g Bool.false_ne_true, fun g => absurd (g i (by omega) (by omega)) h⟩⟩
theorem all_s (xs : List Int) (lo hi : Int) (k : Nat) (hn : xs.length ≤ 4611686018427387904) (hk : xs.length < k) : ∃ b, spec_l1All.f k xs lo hi = some b ∧ (b = true ↔ All xs lo hi) := by
  obtain ⟨b, h1, h2⟩ := l1All_l0 xs lo hi hn xs.length k 0 (by omega) (by omega) hk
  exact ⟨b, h1, h2.trans ⟨fun g j hl => g j (by omega) hl, fun g j _ hl => g j hl⟩⟩
theorem rise_l0 (xs : List Int) (hn : xs.length ≤ 4611686018427387904) : ∀ (d k i : Nat), xs.length - i = d → 1 ≤ i → d < k → ∃ b, spec_l1Rise.l0 k xs (i : Int) = some b ∧ (b = true ↔ ∀ j : Nat, i ≤ j → j < xs.length → rd xs ((j - 1 : Nat) : Int) < rd xs (j : Int)) := by
  intro d
  induction d with
  | zero =>
    intro k i hd hi' hk
    obtain ⟨k, rfl⟩ : ∃ m, k = m + 1 := ⟨k - 1, by omega⟩
    simp only [spec_l1Rise.l0]
    rw [if_neg (by omega)]
    exact ⟨true, rfl, by simp; intro j h1 h2; omega⟩
  | succ d ih =>
    intro k i hd hi' hk
    obtain ⟨k, rfl⟩ : ∃ m, k = m + 1 := ⟨k - 1, by omega⟩
    simp only [spec_l1Rise.l0]
    rw [w64 (a := (i : Int) - 1) (by omega) (by omega), if_pos (by omega), if_pos (by omega), if_pos (by omega), if_pos (by omega), w64 (a := (i : Int) + 1) (by omega) (by omega), show (i : Int) + 1 = ((i + 1 : Nat) : Int) by omega, show (i : Int) - 1 = ((i - 1 : Nat) : Int) by omega]
    by_cases h : rd xs ((i - 1 : Nat) : Int) ≥ rd xs (i : Int)
    · rw [if_pos h]
      exact ⟨false, rfl, ⟨fun g => absurd g Bool.false_ne_true, fun g => by have := g i (by omega) (by omega); omega⟩⟩
    · rw [if_neg h]
      obtain ⟨b, h1, h2⟩ := ih k (i + 1) (by omega) (by omega) (by omega)
      refine ⟨b, h1, h2.trans ⟨fun g j hj hl => ?_, fun g j hj hl => g j (by omega) hl⟩⟩
      by_cases e : j = i
      · subst e; omega
      · exact g j (by omega) hl
theorem rise_s (xs : List Int) (k : Nat) (hn : xs.length ≤ 4611686018427387904) (hk : xs.length < k) : ∃ b, spec_l1Rise.f k xs = some b ∧ (b = true ↔ Rise xs) := by
  obtain ⟨b, h1, h2⟩ := rise_l0 xs hn (xs.length - 1) k 1 (by omega) (by omega) (by omega)
  exact ⟨b, h1, h2⟩
theorem ascends_l0 (xs : List Int) (lo hi : Int) (hn : xs.length ≤ 4611686018427387904) : ∀ (d k i : Nat), xs.length - i = d → i ≤ xs.length → d < k → ∃ b, impl_ascends.l0 k xs lo hi xs (xs.length : Int) (i : Int) = some b ∧ (b = true ↔ (∀ j : Nat, i ≤ j → j < xs.length → lo ≤ rd xs (j : Int) ∧ rd xs (j : Int) ≤ hi) ∧ ∀ j : Nat, i ≤ j → 1 ≤ j → j < xs.length → rd xs ((j - 1 : Nat) : Int) < rd xs (j : Int)) := by
  intro d
  induction d with
  | zero =>
    intro k i hd hi' hk
    obtain ⟨k, rfl⟩ : ∃ m, k = m + 1 := ⟨k - 1, by omega⟩
    simp only [impl_ascends.l0]
    rw [if_neg (by omega)]
    exact ⟨true, rfl, ⟨fun _ => ⟨fun j h1 h2 => by omega, fun j h1 h2 h3 => by omega⟩, fun _ => rfl⟩⟩
  | succ d ih =>
    intro k i hd hi' hk
    obtain ⟨k, rfl⟩ : ∃ m, k = m + 1 := ⟨k - 1, by omega⟩
    simp only [impl_ascends.l0, in_i, Option.bind_some]
    rw [if_pos (by omega), if_pos (by omega), if_pos (by omega), w64 (a := (i : Int) + 1) (by omega) (by omega), show (i : Int) + 1 = ((i + 1 : Nat) : Int) by omega, ← Bool.decide_and]
    by_cases h : lo ≤ rd xs (i : Int) ∧ rd xs (i : Int) ≤ hi
    · rw [decide_eq_true h, if_pos rfl]
      obtain ⟨b, h1, h2⟩ := ih k (i + 1) (by omega) (by omega) (by omega)
      by_cases hp : (i : Int) > 0
      · rw [if_pos hp, w64 (a := (i : Int) - 1) (by omega) (by omega), if_pos (by omega), if_pos (by omega), show (i : Int) - 1 = ((i - 1 : Nat) : Int) by omega]
        by_cases hr : rd xs ((i - 1 : Nat) : Int) ≥ rd xs (i : Int)
        · rw [if_pos hr]
          exact ⟨false, rfl, ⟨fun g => absurd g Bool.false_ne_true, fun g => by have := g.2 i (by omega) (by omega) (by omega); omega⟩⟩
        · rw [if_neg hr]
          refine ⟨b, h1, h2.trans ⟨fun g => ⟨fun j hj hl => ?_, fun j hj h1j hl => ?_⟩, fun g => ⟨fun j hj hl => g.1 j (by omega) hl, fun j hj h1j hl => g.2 j (by omega) h1j hl⟩⟩⟩
          · by_cases e : j = i
            · subst e; exact h
            · exact g.1 j (by omega) hl
          · by_cases e : j = i
            · subst e; omega
            · exact g.2 j (by omega) h1j hl
      · rw [if_neg hp]
        refine ⟨b, h1, h2.trans ⟨fun g => ⟨fun j hj hl => ?_, fun j hj h1j hl => ?_⟩, fun g => ⟨fun j hj hl => g.1 j (by omega) hl, fun j hj h1j hl => g.2 j (by omega) h1j hl⟩⟩⟩
        · by_cases e : j = i
          · subst e; exact h
          · exact g.1 j (by omega) hl
        · exact g.2 j (by omega) h1j hl
    · rw [decide_eq_false h, if_neg (by decide)]
      exact ⟨false, rfl, ⟨fun g => absurd g Bool.false_ne_true, fun g => absurd (g.1 i (by omega) (by omega)) h⟩⟩
theorem ascends_i (xs : List Int) (lo hi : Int) (k : Nat) (hn : xs.length ≤ 4611686018427387904) (hk : xs.length < k) : ∃ b, impl_ascends.f k xs lo hi = some b ∧ (b = true ↔ Rise xs ∧ All xs lo hi) := by
  obtain ⟨b, h1, h2⟩ := ascends_l0 xs lo hi hn xs.length k 0 (by omega) (by omega) hk
  exact ⟨b, h1, h2.trans ⟨fun g => ⟨fun j h1 hl => g.2 j (by omega) h1 hl, fun j hl => g.1 j (by omega) hl⟩, fun g => ⟨fun j _ hl => g.2 j hl, fun j _ h1 hl => g.1 j h1 hl⟩⟩⟩
theorem laws_toIntS_l0 (x0 : List Int) (hn : x0.length ≤ 4611686018427387904) : ∀ (d k i : Nat) (x3 : List Int), x0.length - i = d → i ≤ x0.length → d < k → x3.length = x0.length → (∀ j, j < i → x3[j]? = x0[j]?) → laws_toIntS.l0 k x0 x3 (i : Int) = some x0 := by
  intro d
  induction d with
  | zero =>
    intro k i x3 hd hi hk hl hj
    obtain ⟨k, rfl⟩ : ∃ m, k = m + 1 := ⟨k - 1, by omega⟩
    simp only [laws_toIntS.l0]
    rw [if_neg (by omega)]
    congr 1
    apply List.ext_getElem?
    intro j
    by_cases h : j < i
    · exact hj j h
    · rw [List.getElem?_eq_none (by omega), List.getElem?_eq_none (by omega)]
  | succ d ih =>
    intro k i x3 hd hi hk hl hj
    obtain ⟨k, rfl⟩ : ∃ m, k = m + 1 := ⟨k - 1, by omega⟩
    have hlt : i < x0.length := by omega
    simp only [laws_toIntS.l0]
    rw [if_pos (by omega), if_pos (by omega), if_pos (by omega), w64 (a := (i : Int) + 1) (by omega) (by omega), show (i : Int) + 1 = ((i + 1 : Nat) : Int) by omega]
    refine ih k (i + 1) _ (by omega) (by omega) (by omega) (by simpa using hl) ?_
    intro j hj'
    have hr : rd x0 (i : Int) = x0[i] := by
      show x0.getD (i : Int).toNat 0 = _
      rw [Int.toNat_natCast, List.getD_eq_getElem?_getD, List.getElem?_eq_getElem hlt]; rfl
    simp only [Int.toNat_natCast, hr]
    by_cases e : j = i
    · subst e
      rw [List.getElem?_set_self (by omega), List.getElem?_eq_getElem hlt]
    · rw [List.getElem?_set_ne (fun h => e h.symm)]
      exact hj j (by omega)
theorem laws_toIntS_eq (x0 : List Int) (k : Nat) (hn : x0.length ≤ 35184372088832) (hk : x0.length < k) : laws_toIntS.f k x0 = some x0 := by
  unfold laws_toIntS.f
  rw [if_pos (by omega), if_pos (by rw [Int.toNat_natCast]; omega), Int.toNat_natCast]
  exact laws_toIntS_l0 x0 (by omega) x0.length k 0 _ (by omega) (by omega) hk (by simp) (fun j hj => by omega)

theorem laws_eqIntS_l0 (x0 : List Int) (hn : x0.length ≤ 4611686018427387904) : ∀ (d k i : Nat), x0.length - i = d → i ≤ x0.length → d < k → laws_eqIntS.l0 k x0 x0 (i : Int) = some true := by
  intro d
  induction d with
  | zero =>
    intro k i hd hi hk
    obtain ⟨k, rfl⟩ : ∃ m, k = m + 1 := ⟨k - 1, by omega⟩
    simp only [laws_eqIntS.l0]
    rw [if_neg (by omega)]
  | succ d ih =>
    intro k i hd hi hk
    obtain ⟨k, rfl⟩ : ∃ m, k = m + 1 := ⟨k - 1, by omega⟩
    simp only [laws_eqIntS.l0]
    rw [if_pos (by omega), if_pos (by omega), if_pos (by omega), w64 (a := (i : Int) + 1) (by omega) (by omega), show (i : Int) + 1 = ((i + 1 : Nat) : Int) by omega]
    rw [if_pos trivial]
    exact ih k (i + 1) (by omega) (by omega) (by omega)
theorem laws_eqIntS_eq (x0 : List Int) (k : Nat) (hn : x0.length ≤ 4611686018427387904) (hk : x0.length < k) : laws_eqIntS.f k x0 x0 = some true := by
  unfold laws_eqIntS.f
  rw [if_pos rfl]
  exact laws_eqIntS_l0 x0 hn x0.length k 0 (by omega) (by omega) hk

theorem laws_eqStringS_l0 (x0 : List ByteArray) (hn : x0.length ≤ 4611686018427387904) : ∀ (d k i : Nat), x0.length - i = d → i ≤ x0.length → d < k → laws_eqStringS.l0 k x0 x0 (i : Int) = some true := by
  intro d
  induction d with
  | zero =>
    intro k i hd hi hk
    obtain ⟨k, rfl⟩ : ∃ m, k = m + 1 := ⟨k - 1, by omega⟩
    simp only [laws_eqStringS.l0]
    rw [if_neg (by omega)]
  | succ d ih =>
    intro k i hd hi hk
    obtain ⟨k, rfl⟩ : ∃ m, k = m + 1 := ⟨k - 1, by omega⟩
    simp only [laws_eqStringS.l0]
    rw [if_pos (by omega), if_pos (by omega), if_pos (by omega), w64 (a := (i : Int) + 1) (by omega) (by omega), show (i : Int) + 1 = ((i + 1 : Nat) : Int) by omega]
    rw [if_pos trivial]
    exact ih k (i + 1) (by omega) (by omega) (by omega)
theorem laws_eqStringS_eq (x0 : List ByteArray) (k : Nat) (hn : x0.length ≤ 4611686018427387904) (hk : x0.length < k) : laws_eqStringS.f k x0 x0 = some true := by
  unfold laws_eqStringS.f
  rw [if_pos rfl]
  exact laws_eqStringS_l0 x0 hn x0.length k 0 (by omega) (by omega) hk

theorem wsucc {i n : Nat} (h : i < n) (hn : n ≤ 4611686018427387904) : wrap64 ((i : Int) + 1) = ((i + 1 : Nat) : Int) := by rw [w64 (by omega) (by omega)]; omega
theorem wpred {i n : Nat} (h : i < n) (hn : n ≤ 4611686018427387904) (h0 : (i : Int) > 0) : wrap64 ((i : Int) - 1) = ((i - 1 : Nat) : Int) := by rw [w64 (by omega) (by omega)]; omega
theorem rd63 (l : List S63) (i : Nat) (h : i < l.length) : rd_T63 l (i : Int) = l[i] := by
  show l.getD (i : Int).toNat z63 = _
  rw [Int.toNat_natCast, List.getD_eq_getElem?_getD, List.getElem?_eq_getElem h]; rfl
theorem rd62 (l : List S62) (i : Nat) (h : i < l.length) : rd_T62 l (i : Int) = l[i] := by
  show l.getD (i : Int).toNat z62 = _
  rw [Int.toNat_natCast, List.getD_eq_getElem?_getD, List.getElem?_eq_getElem h]; rfl
/-- A byte of a name. -/
def isCh (c : Int) : Prop := (97 ≤ c ∧ c ≤ 122) ∨ (65 ≤ c ∧ c ≤ 90) ∨ (48 ≤ c ∧ c ≤ 57) ∨ c = 45
instance (c : Int) : Decidable (isCh c) := by unfold isCh; exact inferInstance
theorem name_both (s : ByteArray) (hs : s.size ≤ 4611686018427387904) : ∃ b, Ev (fun k => spec_l1Name.f k s) b ∧ Ev (fun k => impl_isName.f k s) b := by
  have go : ∀ (d i : Nat), s.size - i = d → i ≤ s.size → ∃ b, Ev (fun k => spec_l1Name.l0 k s (i : Int)) b ∧ Ev (fun k => impl_isName.l0 k s (s.size : Int) (i : Int)) b := by
    intro d
    induction d with
    | zero =>
      intro i hd hi
      refine ⟨decide (1 ≤ (s.size : Int)) && decide ((s.size : Int) ≤ 20), ev_now fun k => ?_, ev_now fun k => ?_⟩
      · simp only [spec_l1Name.l0]
        rw [if_neg (by omega), in_s, Option.bind_some]
      · simp only [impl_isName.l0]
        rw [if_neg (by omega), in_i, Option.bind_some]
    | succ d ih =>
      intro i hd hi
      have hlt : i < s.size := by omega
      have hw := wsucc hlt hs
      obtain ⟨b, e1, e2⟩ := ih (i + 1) (by omega) (by omega)
      have hb := bt_range s (i : Int)
      have hwb : wrap64 (bt s (i : Int)) = bt s (i : Int) := w64 (by omega) (by omega)
      have us : ∀ k, spec_l1Name.l0 (k + 1) s (i : Int) = if isCh (bt s (i : Int)) then spec_l1Name.l0 k s ((i + 1 : Nat) : Int) else some false := by
        intro k
        simp only [spec_l1Name.l0, in_s, Option.bind_some, hw, hwb, Bool.and_eq_true, decide_eq_true_eq]
        clear e1 e2 hw hwb ih
        generalize bt s (i : Int) = c at *
        rw [if_pos (by omega), if_pos (by omega)]
        repeat' split
        all_goals first | rfl | (exfalso; simp only [isCh] at *; omega)
      have ui : ∀ k, impl_isName.l0 (k + 1) s (s.size : Int) (i : Int) = if isCh (bt s (i : Int)) then impl_isName.l0 k s (s.size : Int) ((i + 1 : Nat) : Int) else some false := by
        intro k
        simp only [impl_isName.l0, hw]
        clear e1 e2 hw hwb ih
        generalize bt s (i : Int) = c at *
        rw [if_pos (by omega), if_pos (by omega), if_pos (by omega)]
        repeat' split
        all_goals first | rfl | (exfalso; simp only [isCh] at *; omega)
      by_cases h : isCh (bt s (i : Int))
      · exact ⟨b, ev_step e1 fun k => by rw [us, if_pos h], ev_step e2 fun k => by rw [ui, if_pos h]⟩
      · exact ⟨false, ev_now fun k => by rw [us, if_neg h], ev_now fun k => by rw [ui, if_neg h]⟩
  exact go s.size 0 (by omega) (by omega)
theorem find_range (a : ByteArray) : ∀ (l : List S63) (i : Int), impl_ruleAt.find a l i = -1 ∨ (i ≤ impl_ruleAt.find a l i ∧ impl_ruleAt.find a l i < i + l.length)
  | [], i => .inl rfl
  | x :: xs, i => by
    unfold impl_ruleAt.find
    split
    · exact .inr ⟨Int.le_refl _, by rw [List.length_cons]; omega⟩
    · rcases find_range a xs (i + 1) with h | h
      · exact .inl h
      · exact .inr ⟨by omega, by rw [List.length_cons]; omega⟩
theorem find_s (x : List S63) (a : ByteArray) (hn : x.length ≤ 4611686018427387904) : Ev (fun k => spec_l14Find.f k x a) (impl_ruleAt.find a x 0) := by
  have go : ∀ (d i : Nat), x.length - i = d → i ≤ x.length → Ev (fun k => spec_l14Find.l0 k x a (i : Int)) (impl_ruleAt.find a (x.drop i) (i : Int)) := by
    intro d
    induction d with
    | zero =>
      intro i hd hi
      refine ev_now fun k => ?_
      simp only [spec_l14Find.l0]
      rw [if_neg (by omega), List.drop_eq_nil_of_le (by omega)]; rfl
    | succ d ih =>
      intro i hd hi
      have hlt : i < x.length := by omega
      have hw := wsucc hlt hn
      have e := ih (i + 1) (by omega) (by omega)
      rw [List.drop_eq_getElem_cons hlt]
      unfold impl_ruleAt.find
      by_cases h : (x[i]).f0.toList = a.toList
      · rw [if_pos h]
        refine ev_now fun k => ?_
        simp only [spec_l14Find.l0, rd63 x i hlt]
        rw [if_pos (by omega), if_pos (by omega), if_pos h]
      · rw [if_neg h]
        rw [show (i : Int) + 1 = ((i + 1 : Nat) : Int) by omega]
        refine ev_step e fun k => ?_
        simp only [spec_l14Find.l0, rd63 x i hlt, hw]
        clear hw
        rw [if_pos (by omega), if_pos (by omega), if_neg h]
  exact go x.length 0 (by omega) (by omega)
theorem rise_ev (xs : List Int) (hn : xs.length ≤ 4611686018427387904) : ∃ b, Ev (fun k => spec_l1Rise.f k xs) b ∧ (b = true ↔ Rise xs) := by
  obtain ⟨b, _, e⟩ := rise_s xs (xs.length + 1) hn (by omega)
  refine ⟨b, ⟨xs.length + 1, fun k hk => ?_⟩, e⟩
  obtain ⟨b', h', e'⟩ := rise_s xs k hn (by omega)
  rw [show b = b' by rw [Bool.eq_iff_iff]; exact e.trans e'.symm]; exact h'
theorem all_ev (xs : List Int) (lo hi : Int) (hn : xs.length ≤ 4611686018427387904) : ∃ b, Ev (fun k => spec_l1All.f k xs lo hi) b ∧ (b = true ↔ All xs lo hi) := by
  obtain ⟨b, _, e⟩ := all_s xs lo hi (xs.length + 1) hn (by omega)
  refine ⟨b, ⟨xs.length + 1, fun k hk => ?_⟩, e⟩
  obtain ⟨b', h', e'⟩ := all_s xs lo hi k hn (by omega)
  rw [show b = b' by rw [Bool.eq_iff_iff]; exact e.trans e'.symm]; exact h'
theorem ascends_ev (xs : List Int) (lo hi : Int) (hn : xs.length ≤ 4611686018427387904) : ∃ b, Ev (fun k => impl_ascends.f k xs lo hi) b ∧ (b = true ↔ Rise xs ∧ All xs lo hi) := by
  obtain ⟨b, _, e⟩ := ascends_i xs lo hi (xs.length + 1) hn (by omega)
  refine ⟨b, ⟨xs.length + 1, fun k hk => ?_⟩, e⟩
  obtain ⟨b', h', e'⟩ := ascends_i xs lo hi k hn (by omega)
  rw [show b = b' by rw [Bool.eq_iff_iff]; exact e.trans e'.symm]; exact h'
/-- A list of rules whose parts are not too long. -/
def Fit (x : List S63) : Prop := x.length ≤ 1048576 ∧ ∀ r ∈ x, r.f2.length ≤ 1048576 ∧ r.f0.size ≤ 1048576 ∧ r.f4.size ≤ 1048576
/-- A rule's name is above the one ahead. -/
def Above (x : List S63) (j : Nat) : Prop := Op.bytesLess (rd_T63 x ((j - 1 : Nat) : Int)).f0.toList (rd_T63 x (j : Int)).f0.toList = true
section
variable (x : List S63) (hx : Fit x)
include hx
theorem needs_both (i : Nat) (hi : i < x.length) (bn : Bool) (n1 : Ev (fun k => spec_RulesOk.l0 k x ((i + 1 : Nat) : Int)) bn) (n2 : Ev (fun k => impl_RulesOk.l0 k x x (x.length : Int) ((i + 1 : Nat) : Int)) bn) (q : Bool) (f0 : ByteArray) (f1 : Int) (f2 : List Int) (f3 : Bool) (f4 : ByteArray) : ∃ b, (Ev (fun k => spec_RulesOk.j1 k x (i : Int) q f0 f1 f2 f3 f4) b ∧ Ev (fun k => impl_RulesOk.j1 k x (i : Int) x (x.length : Int) (i : Int) q f0 f1 f2 f3 f4) b) ∧ (b = true → bn = true) := by
  have hw := wsucc hi (show x.length ≤ 4611686018427387904 from Nat.le_trans hx.1 (by omega))
  cases q
  · by_cases h4 : f4.toList = ([] : List UInt8)
    · refine ⟨bn, ⟨ev_step n1 fun k => ?_, ev_step n2 fun k => ?_⟩, fun g => g⟩
      · simp only [spec_RulesOk.j1, Bool.false_eq_true, if_false, if_pos h4, hw]
      · simp only [impl_RulesOk.j1, Bool.false_eq_true, if_false, if_pos h4, hw]
    · have ef := find_s x f4 (Nat.le_trans hx.1 (by omega))
      have fr := find_range f4 x 0
      have fi : impl_ruleAt.f x f4 = some (impl_ruleAt.find f4 x 0) := rfl
      generalize impl_ruleAt.find f4 x 0 = t at *
      have un : ∀ k, impl_RulesOk.j1 (k + 1) x (i : Int) x (x.length : Int) (i : Int) false f0 f1 f2 f3 f4 = if t < 0 then (some false) else (if t = (i : Int) then (some false) else (if 0 ≤ t then (if t < (x.length : Int) then (if ((rd_T63 x t).f4).toList = ([] : List UInt8) then (impl_RulesOk.l0 k x x (x.length : Int) ((i + 1 : Nat) : Int)) else (some false)) else (none)) else (none))) := by
        intro k
        simp only [impl_RulesOk.j1, Bool.false_eq_true, if_false, if_neg h4, fi, Option.bind_some, hw]
      have us : ∀ k, spec_RulesOk.j1 (k + 1) x (i : Int) false f0 f1 f2 f3 f4 = (spec_l14Find.f k x f4).bind fun t124 => (if t124 < 0 then (some false) else (if t124 = (i : Int) then (some false) else (if 0 ≤ t124 then (if t124 < (x.length : Int) then (if ((rd_T63 x t124).f4).toList = ([] : List UInt8) then (spec_RulesOk.l0 k x ((i + 1 : Nat) : Int)) else (some false)) else (none)) else (none)))) := by
        intro k
        simp only [spec_RulesOk.j1, Bool.false_eq_true, if_false, if_neg h4, hw]
      have sb : ∀ b, Ev (fun k => if t < 0 then (some false) else (if t = (i : Int) then (some false) else (if 0 ≤ t then (if t < (x.length : Int) then (if ((rd_T63 x t).f4).toList = ([] : List UInt8) then (spec_RulesOk.l0 k x ((i + 1 : Nat) : Int)) else (some false)) else (none)) else (none)))) b → Ev (fun k => spec_RulesOk.j1 k x (i : Int) false f0 f1 f2 f3 f4) b := fun b h => ev_step (ev_bind (F := fun k => spec_l14Find.f k x f4) (G := fun k t124 => (if t124 < 0 then (some false) else (if t124 = (i : Int) then (some false) else (if 0 ≤ t124 then (if t124 < (x.length : Int) then (if ((rd_T63 x t124).f4).toList = ([] : List UInt8) then (spec_RulesOk.l0 k x ((i + 1 : Nat) : Int)) else (some false)) else (none)) else (none))))) ef h) us
      by_cases h0 : t < 0
      · exact ⟨false, ⟨sb _ (by simp only [if_pos h0]; exact ev_const rfl), ev_now fun k => by rw [un, if_pos h0]⟩, fun g => absurd g Bool.false_ne_true⟩
      · by_cases h1 : t = (i : Int)
        · exact ⟨false, ⟨sb _ (by simp only [if_neg h0, if_pos h1]; exact ev_const rfl), ev_now fun k => by rw [un, if_neg h0, if_pos h1]⟩, fun g => absurd g Bool.false_ne_true⟩
        · have h2 : 0 ≤ t := by omega
          have h3 : t < (x.length : Int) := by omega
          by_cases h5 : ((rd_T63 x t).f4).toList = ([] : List UInt8)
          · exact ⟨bn, ⟨sb _ (by simp only [if_neg h0, if_neg h1, if_pos h2, if_pos h3, if_pos h5]; exact n1), ev_step n2 fun k => by rw [un, if_neg h0, if_neg h1, if_pos h2, if_pos h3, if_pos h5]⟩, fun g => g⟩
          · exact ⟨false, ⟨sb _ (by simp only [if_neg h0, if_neg h1, if_pos h2, if_pos h3, if_neg h5]; exact ev_const rfl), ev_now fun k => by rw [un, if_neg h0, if_neg h1, if_pos h2, if_pos h3, if_neg h5]⟩, fun g => absurd g Bool.false_ne_true⟩
  · refine ⟨false, ⟨ev_now fun k => ?_, ev_now fun k => ?_⟩, fun g => absurd g Bool.false_ne_true⟩
    · simp only [spec_RulesOk.j1, if_true]
    · simp only [impl_RulesOk.j1, if_true]
theorem rules_l : ∀ (d i : Nat), x.length - i = d → i ≤ x.length → ∃ b, (Ev (fun k => spec_RulesOk.l0 k x (i : Int)) b ∧ Ev (fun k => impl_RulesOk.l0 k x x (x.length : Int) (i : Int)) b) ∧ (b = true → ∀ j : Nat, i ≤ j → 1 ≤ j → j < x.length → Above x j) := by
  have hx1 := hx.1
  intro d
  induction d with
  | zero =>
    intro i hd hi
    refine ⟨decide ((x.length : Int) ≤ 30), ⟨ev_now fun k => ?_, ev_now fun k => ?_⟩, fun _ j h1 _ h2 => by omega⟩
    · simp only [spec_RulesOk.l0]; rw [if_neg (by omega)]
    · simp only [impl_RulesOk.l0]; rw [if_neg (by omega)]
  | succ d ih =>
    intro i hd hi
    have hlt : i < x.length := by omega
    obtain ⟨bn, ⟨n1, n2⟩, na⟩ := ih (i + 1) (by omega) (by omega)
    obtain ⟨l2, l0, _⟩ := hx.2 _ (List.getElem_mem hlt)
    have nb := needs_both x hx i hlt bn n1 n2
    obtain ⟨nm, e1, e2⟩ := name_both (x[i]).f0 (by omega)
    obtain ⟨rb, r1, r2⟩ := rise_ev (x[i]).f2 (by omega)
    obtain ⟨ab, a1, a2⟩ := all_ev (x[i]).f2 0 9 (by omega)
    obtain ⟨cb, c1, c2⟩ := ascends_ev (x[i]).f2 0 9 (by omega)
    have hcb : cb = (rb && ab) := by rw [Bool.eq_iff_iff, c2, Bool.and_eq_true, r2, a2]
    have tf : ∀ b, (Ev (fun k => spec_RulesOk.j1 k x (i : Int) true (x[i]).f0 (x[i]).f1 (x[i]).f2 (x[i]).f3 (x[i]).f4) b ∧ Ev (fun k => impl_RulesOk.j1 k x (i : Int) x (x.length : Int) (i : Int) true (x[i]).f0 (x[i]).f1 (x[i]).f2 (x[i]).f3 (x[i]).f4) b) → ¬ b = true := by
      intro b ⟨⟨K, h⟩, _⟩ e
      have h := h (K + 1) (by omega)
      subst e
      simp only [spec_RulesOk.j1, if_true] at h
      cases h
    obtain ⟨bT, ⟨t1, t2⟩, ta⟩ := nb true (x[i]).f0 (x[i]).f1 (x[i]).f2 (x[i]).f3 (x[i]).f4
    obtain ⟨bR, ⟨q1, q2⟩, qa⟩ := nb (!cb) (x[i]).f0 (x[i]).f1 (x[i]).f2 (x[i]).f3 (x[i]).f4
    have mid : ∃ b, (Ev (fun k => ((spec_l1In.f (x[i]).f1 1 3).bind fun t118 => (if t118 = true then ((spec_l1Rise.f k (x[i]).f2).bind fun t119 => (if t119 = true then ((spec_l1All.f k (x[i]).f2 0 9).bind fun t120 => (spec_RulesOk.j1 k x (i : Int) (!t120) (x[i]).f0 (x[i]).f1 (x[i]).f2 (x[i]).f3 (x[i]).f4)) else (spec_RulesOk.j1 k x (i : Int) true (x[i]).f0 (x[i]).f1 (x[i]).f2 (x[i]).f3 (x[i]).f4))) else (spec_RulesOk.j1 k x (i : Int) true (x[i]).f0 (x[i]).f1 (x[i]).f2 (x[i]).f3 (x[i]).f4)))) b ∧ Ev (fun k => ((impl_in.f (x[i]).f1 1 3).bind fun t157 => (if t157 = true then ((impl_ascends.f k (x[i]).f2 0 9).bind fun t158 => (impl_RulesOk.j1 k x (i : Int) x (x.length : Int) (i : Int) (!t158) (x[i]).f0 (x[i]).f1 (x[i]).f2 (x[i]).f3 (x[i]).f4)) else (impl_RulesOk.j1 k x (i : Int) x (x.length : Int) (i : Int) true (x[i]).f0 (x[i]).f1 (x[i]).f2 (x[i]).f3 (x[i]).f4)))) b) ∧ (b = true → bn = true) := by
      simp only [in_s, in_i, Option.bind_some]
      cases hr : (decide (1 ≤ (x[i]).f1) && decide ((x[i]).f1 ≤ 3))
      · simp only [Bool.false_eq_true, if_false]
        exact ⟨bT, ⟨t1, t2⟩, ta⟩
      · simp only [if_true]
        refine ⟨bR, ⟨ev_bind (F := fun k => spec_l1Rise.f k (x[i]).f2) (G := fun k t119 => (if t119 = true then ((spec_l1All.f k (x[i]).f2 0 9).bind fun t120 => (spec_RulesOk.j1 k x (i : Int) (!t120) (x[i]).f0 (x[i]).f1 (x[i]).f2 (x[i]).f3 (x[i]).f4)) else (spec_RulesOk.j1 k x (i : Int) true (x[i]).f0 (x[i]).f1 (x[i]).f2 (x[i]).f3 (x[i]).f4))) r1 ?_, ev_bind (F := fun k => impl_ascends.f k (x[i]).f2 0 9) (G := fun k t158 => (impl_RulesOk.j1 k x (i : Int) x (x.length : Int) (i : Int) (!t158) (x[i]).f0 (x[i]).f1 (x[i]).f2 (x[i]).f3 (x[i]).f4)) c1 q2⟩, qa⟩
        cases rb
        · simp only [Bool.false_eq_true, if_false]
          rw [hcb] at q1
          exact q1
        · simp only [if_true]
          refine ev_bind (F := fun k => spec_l1All.f k (x[i]).f2 0 9) (G := fun k t120 => (spec_RulesOk.j1 k x (i : Int) (!t120) (x[i]).f0 (x[i]).f1 (x[i]).f2 (x[i]).f3 (x[i]).f4)) a1 ?_
          rw [hcb, Bool.true_and] at q1
          exact q1
    obtain ⟨bM, ⟨m1, m2⟩, ma⟩ := mid
    clear r1 a1 c1 q1 q2 hcb
    have us : ∀ k, spec_RulesOk.l0 (k + 1) x (i : Int) = (spec_l1Name.f k (x[i]).f0).bind fun t116 => (if t116 = true then (if (i : Int) > 0 then (if ((Op.bytesLess (((rd_T63 x (wrap64 ((i : Int) - 1))).f0).toList) (((x[i]).f0).toList)) = true) then ((spec_l1In.f (x[i]).f1 1 3).bind fun t118 => (if t118 = true then ((spec_l1Rise.f k (x[i]).f2).bind fun t119 => (if t119 = true then ((spec_l1All.f k (x[i]).f2 0 9).bind fun t120 => (spec_RulesOk.j1 k x (i : Int) (!t120) (x[i]).f0 (x[i]).f1 (x[i]).f2 (x[i]).f3 (x[i]).f4)) else (spec_RulesOk.j1 k x (i : Int) true (x[i]).f0 (x[i]).f1 (x[i]).f2 (x[i]).f3 (x[i]).f4))) else (spec_RulesOk.j1 k x (i : Int) true (x[i]).f0 (x[i]).f1 (x[i]).f2 (x[i]).f3 (x[i]).f4))) else (spec_RulesOk.j1 k x (i : Int) true (x[i]).f0 (x[i]).f1 (x[i]).f2 (x[i]).f3 (x[i]).f4)) else ((spec_l1In.f (x[i]).f1 1 3).bind fun t118 => (if t118 = true then ((spec_l1Rise.f k (x[i]).f2).bind fun t119 => (if t119 = true then ((spec_l1All.f k (x[i]).f2 0 9).bind fun t120 => (spec_RulesOk.j1 k x (i : Int) (!t120) (x[i]).f0 (x[i]).f1 (x[i]).f2 (x[i]).f3 (x[i]).f4)) else (spec_RulesOk.j1 k x (i : Int) true (x[i]).f0 (x[i]).f1 (x[i]).f2 (x[i]).f3 (x[i]).f4))) else (spec_RulesOk.j1 k x (i : Int) true (x[i]).f0 (x[i]).f1 (x[i]).f2 (x[i]).f3 (x[i]).f4)))) else (spec_RulesOk.j1 k x (i : Int) true (x[i]).f0 (x[i]).f1 (x[i]).f2 (x[i]).f3 (x[i]).f4)) := by
      intro k
      clear na ta qa ma tf nb t1 t2 m1 m2 e1 e2 c2 a2 r2 n1 n2 ih
      simp only [spec_RulesOk.l0, rd63 x i hlt]
      rw [if_pos (by omega), if_pos (by omega)]
      by_cases h0 : (i : Int) > 0
      · have hm : 0 ≤ wrap64 ((i : Int) - 1) ∧ wrap64 ((i : Int) - 1) < (x.length : Int) := by rw [w64 (by omega) (by omega)]; omega
        simp only [if_pos h0, if_pos hm.1, if_pos hm.2]
      · simp only [if_neg h0]
    have ui : ∀ k, impl_RulesOk.l0 (k + 1) x x (x.length : Int) (i : Int) = (impl_isName.f k (x[i]).f0).bind fun t155 => (if t155 = true then (if (i : Int) > 0 then (if ((Op.bytesLess (((rd_T63 x (wrap64 ((i : Int) - 1))).f0).toList) (((x[i]).f0).toList)) = true) then ((impl_in.f (x[i]).f1 1 3).bind fun t157 => (if t157 = true then ((impl_ascends.f k (x[i]).f2 0 9).bind fun t158 => (impl_RulesOk.j1 k x (i : Int) x (x.length : Int) (i : Int) (!t158) (x[i]).f0 (x[i]).f1 (x[i]).f2 (x[i]).f3 (x[i]).f4)) else (impl_RulesOk.j1 k x (i : Int) x (x.length : Int) (i : Int) true (x[i]).f0 (x[i]).f1 (x[i]).f2 (x[i]).f3 (x[i]).f4))) else (impl_RulesOk.j1 k x (i : Int) x (x.length : Int) (i : Int) true (x[i]).f0 (x[i]).f1 (x[i]).f2 (x[i]).f3 (x[i]).f4)) else ((impl_in.f (x[i]).f1 1 3).bind fun t157 => (if t157 = true then ((impl_ascends.f k (x[i]).f2 0 9).bind fun t158 => (impl_RulesOk.j1 k x (i : Int) x (x.length : Int) (i : Int) (!t158) (x[i]).f0 (x[i]).f1 (x[i]).f2 (x[i]).f3 (x[i]).f4)) else (impl_RulesOk.j1 k x (i : Int) x (x.length : Int) (i : Int) true (x[i]).f0 (x[i]).f1 (x[i]).f2 (x[i]).f3 (x[i]).f4)))) else (impl_RulesOk.j1 k x (i : Int) x (x.length : Int) (i : Int) true (x[i]).f0 (x[i]).f1 (x[i]).f2 (x[i]).f3 (x[i]).f4)) := by
      intro k
      clear na ta qa ma tf nb t1 t2 m1 m2 e1 e2 c2 a2 r2 n1 n2 ih us
      simp only [impl_RulesOk.l0, rd63 x i hlt]
      rw [if_pos (by omega), if_pos (by omega), if_pos (by omega)]
      by_cases h0 : (i : Int) > 0
      · have hm : 0 ≤ wrap64 ((i : Int) - 1) ∧ wrap64 ((i : Int) - 1) < (x.length : Int) := by rw [w64 (by omega) (by omega)]; omega
        simp only [if_pos h0, if_pos hm.1, if_pos hm.2]
      · simp only [if_neg h0]
    cases nm
    · refine ⟨bT, ⟨ev_step (ev_bind (F := fun k => spec_l1Name.f k (x[i]).f0) e1 ?_) us, ev_step (ev_bind (F := fun k => impl_isName.f k (x[i]).f0) e2 ?_) ui⟩, fun g => absurd g (tf _ ⟨t1, t2⟩)⟩
      · simp only [Bool.false_eq_true, if_false]; exact t1
      · simp only [Bool.false_eq_true, if_false]; exact t2
    · by_cases h0 : (i : Int) > 0
      · by_cases hb : (Op.bytesLess (((rd_T63 x (wrap64 ((i : Int) - 1))).f0).toList) (((x[i]).f0).toList)) = true
        · have ab : Above x i := by
            clear us ui
            unfold Above
            rw [rd63 x i hlt, ← wpred hlt (show x.length ≤ 4611686018427387904 from Nat.le_trans hx1 (by omega)) h0]
            exact hb
          refine ⟨bM, ⟨ev_step (ev_bind (F := fun k => spec_l1Name.f k (x[i]).f0) e1 ?_) us, ev_step (ev_bind (F := fun k => impl_isName.f k (x[i]).f0) e2 ?_) ui⟩, fun g j h1 h2 h3 => ?_⟩
          · simp only [if_true, if_pos h0, if_pos hb]; exact m1
          · simp only [if_true, if_pos h0, if_pos hb]; exact m2
          · by_cases e : j = i
            · rw [e]
              exact ab
            · exact na (ma g) j (Nat.lt_of_le_of_ne h1 (fun q => e q.symm)) h2 h3
        · refine ⟨bT, ⟨ev_step (ev_bind (F := fun k => spec_l1Name.f k (x[i]).f0) e1 ?_) us, ev_step (ev_bind (F := fun k => impl_isName.f k (x[i]).f0) e2 ?_) ui⟩, fun g => absurd g (tf _ ⟨t1, t2⟩)⟩
          · simp only [if_true, if_pos h0, if_neg hb]; exact t1
          · simp only [if_true, if_pos h0, if_neg hb]; exact t2
      · refine ⟨bM, ⟨ev_step (ev_bind (F := fun k => spec_l1Name.f k (x[i]).f0) e1 ?_) us, ev_step (ev_bind (F := fun k => impl_isName.f k (x[i]).f0) e2 ?_) ui⟩, fun g j h1 h2 h3 => na (ma g) j (Nat.lt_of_le_of_ne h1 (fun q => by subst q; exact h0 (Int.ofNat_lt.2 h2))) h2 h3⟩
        · simp only [if_true, if_neg h0]; exact m1
        · simp only [if_true, if_neg h0]; exact m2
theorem rules_asc : ∃ b, (Ev (fun k => spec_RulesOk.f k x) b ∧ Ev (fun k => impl_RulesOk.f k x) b) ∧ (b = true → ∀ j : Nat, 1 ≤ j → j < x.length → Above x j) := by
  obtain ⟨b, h, g⟩ := rules_l x hx x.length 0 (by omega) (by omega)
  exact ⟨b, h, fun e j h1 h2 => g e j (Nat.zero_le _) h1 h2⟩
theorem rules_both : ∃ b, Ev (fun k => spec_RulesOk.f k x) b ∧ Ev (fun k => impl_RulesOk.f k x) b := by
  obtain ⟨b, h, _⟩ := rules_asc x hx
  exact ⟨b, h⟩
end
def conv (x : S62) : S63 := ⟨x.f0, x.f1, x.f2, x.f3, x.f4⟩
/-- What is asked of a rule that is not too long. -/
def Ok1 (x : S62) : Prop := x.f2.length ≤ 1048576 ∧ x.f0.size ≤ 1048576 ∧ x.f4.size ≤ 1048576
theorem sz_one (x : S62) (left : Int) (h0 : 0 ≤ left) (h1 : left ≤ 1048576) (hk : ok62 x) : ∃ v, laws_szWarnRule.f x.f0 x.f1 x.f2 x.f3 x.f4 left = some v ∧ (v < 0 ∨ (0 ≤ v ∧ v ≤ 1048576 ∧ Ok1 x)) := by
  obtain ⟨k0, _, ⟨k2, _⟩, _, k4⟩ := hk
  have k0 : x.f0.size ≤ 9223372036854775807 := k0
  have k2 : x.f2.length ≤ 9223372036854775807 := k2
  have k4 : x.f4.size ≤ 9223372036854775807 := k4
  unfold laws_szWarnRule.f laws_szIntS.f
  rw [w64 (a := left - (x.f0.size : Int)) (by omega) (by omega)]
  by_cases c0 : left - (x.f0.size : Int) < 0
  · rw [if_pos c0]; exact ⟨-1, rfl, .inl (by omega)⟩
  · rw [if_neg c0, w64 (a := left - (x.f0.size : Int) - (x.f2.length : Int)) (by omega) (by omega)]
    by_cases c1 : left - (x.f0.size : Int) - (x.f2.length : Int) < 0
    · rw [if_pos c1, Option.bind_some, if_pos (by omega)]; exact ⟨-1, rfl, .inl (by omega)⟩
    · rw [if_neg c1, Option.bind_some, if_neg c1, w64 (a := left - (x.f0.size : Int) - (x.f2.length : Int) - (x.f4.size : Int)) (by omega) (by omega)]
      by_cases c2 : left - (x.f0.size : Int) - (x.f2.length : Int) - (x.f4.size : Int) < 0
      · rw [if_pos c2]; exact ⟨-1, rfl, .inl (by omega)⟩
      · rw [if_neg c2]; exact ⟨_, rfl, .inr ⟨by omega, by omega, by omega, by omega, by omega⟩⟩
theorem sz_rules (l : List S62) (hl : l.length ≤ maxLen) (hk : ∀ x ∈ l, ok62 x) : ∃ v, Ev (fun k => laws_szWarnRuleS.f k l 1048576) v ∧ (v < 0 ∨ (0 ≤ v ∧ v ≤ 1048576 ∧ l.length ≤ 1048576 ∧ ∀ x ∈ l, Ok1 x)) := by
  have hl : l.length ≤ 9223372036854775807 := hl
  unfold laws_szWarnRuleS.f
  rw [w64 (a := 1048576 - (l.length : Int)) (by omega) (by omega)]
  by_cases c : 1048576 - (l.length : Int) < 0
  · simp only [if_pos c]; exact ⟨-1, ev_const rfl, .inl (by omega)⟩
  · simp only [if_neg c]
    have go : ∀ (d i : Nat) (left : Int), l.length - i = d → i ≤ l.length → 0 ≤ left → left ≤ 1048576 → ∃ v, Ev (fun k => laws_szWarnRuleS.l0 k l left (i : Int)) v ∧ (v < 0 ∨ (0 ≤ v ∧ v ≤ 1048576 ∧ ∀ x ∈ l.drop i, Ok1 x)) := by
      intro d
      induction d with
      | zero =>
        intro i left hd hi h0 h1
        refine ⟨left, ev_now fun k => ?_, .inr ⟨h0, h1, fun x hx => ?_⟩⟩
        · simp only [laws_szWarnRuleS.l0]; rw [if_neg (by omega)]
        · rw [List.drop_eq_nil_of_le (by omega)] at hx; cases hx
      | succ d ih =>
        intro i left hd hi h0 h1
        have hlt : i < l.length := by omega
        have hw := wsucc hlt (show l.length ≤ 4611686018427387904 by omega)
        obtain ⟨v, hv, o⟩ := sz_one l[i] left h0 h1 (hk _ (List.getElem_mem hlt))
        have un : ∀ k, laws_szWarnRuleS.l0 (k + 1) l left (i : Int) = if v < 0 then some (-1) else laws_szWarnRuleS.l0 k l v ((i + 1 : Nat) : Int) := by
          intro k
          simp only [laws_szWarnRuleS.l0, rd62 l i hlt, hv, Option.bind_some, hw]
          clear hw
          rw [if_pos (by omega), if_pos (by omega)]
        by_cases cv : v < 0
        · exact ⟨-1, ev_now fun k => by rw [un, if_pos cv], .inl (by omega)⟩
        · rcases o with o | ⟨o1, o2, o3⟩
          · exact absurd o cv
          · obtain ⟨t, ht, ot⟩ := ih (i + 1) v (by omega) (by omega) o1 o2
            refine ⟨t, ev_step ht fun k => by rw [un, if_neg cv], ?_⟩
            rcases ot with ot | ⟨p1, p2, p3⟩
            · exact .inl ot
            · refine .inr ⟨p1, p2, fun x hx => ?_⟩
              rw [List.drop_eq_getElem_cons hlt] at hx
              rcases List.mem_cons.1 hx with rfl | hx
              · exact o3
              · exact p3 x hx
    obtain ⟨v, hv, o⟩ := go l.length 0 (1048576 - (l.length : Int)) (by omega) (by omega) (by omega) (by omega)
    refine ⟨v, hv, ?_⟩
    rcases o with o | ⟨p1, p2, p3⟩
    · exact .inl o
    · exact .inr ⟨p1, p2, by omega, fun x hx => p3 x (by rwa [List.drop_zero])⟩
theorem fit_conv {l : List S62} (hl : l.length ≤ 1048576) (hk : ∀ x ∈ l, Ok1 x) : Fit (l.map conv) := by
  refine ⟨by rwa [List.length_map], fun r hr => ?_⟩
  obtain ⟨x, hx, rfl⟩ := List.mem_map.1 hr
  obtain ⟨a, b, c⟩ := hk x hx
  exact ⟨a, b, c⟩
theorem to_rules (l : List S62) (hl : l.length ≤ 1048576) (hk : ∀ x ∈ l, Ok1 x) : Ev (fun k => laws_toWarnRuleS.f k l) (l.map conv) := by
  have go : ∀ (d i : Nat) (x3 : List S63), l.length - i = d → i ≤ l.length → x3.length = l.length → (∀ j, j < i → x3[j]? = (l.map conv)[j]?) → Ev (fun k => laws_toWarnRuleS.l0 k l x3 (i : Int)) (l.map conv) := by
    intro d
    induction d with
    | zero =>
      intro i x3 hd hi hl3 hj
      refine ev_now fun k => ?_
      simp only [laws_toWarnRuleS.l0]
      rw [if_neg (by omega)]
      congr 1
      apply List.ext_getElem?
      intro j
      by_cases h : j < i
      · exact hj j h
      · rw [List.getElem?_eq_none (by omega), List.getElem?_eq_none (by rw [List.length_map]; omega)]
    | succ d ih =>
      intro i x3 hd hi hl3 hj
      have hlt : i < l.length := by omega
      have hw := wsucc hlt (show l.length ≤ 4611686018427387904 by omega)
      have hq := (hk _ (List.getElem_mem hlt)).1
      have e := ih (i + 1) (x3.set i (conv l[i])) (by omega) (by omega) (by rwa [List.length_set]) (fun j hj' => by
        by_cases e : j = i
        · subst e
          rw [List.getElem?_set_self (by omega), List.getElem?_map, List.getElem?_eq_getElem hlt]; rfl
        · rw [List.getElem?_set_ne (fun h => e h.symm)]
          exact hj j (by omega))
      have et : Ev (fun k => laws_toWarnRule.f k (l[i]).f0 (l[i]).f1 (l[i]).f2 (l[i]).f3 (l[i]).f4) ((l[i]).f0, (l[i]).f1, (l[i]).f2, (l[i]).f3, (l[i]).f4) := by
        unfold laws_toWarnRule.f
        exact ev_bind (F := fun k => laws_toIntS.f k (l[i]).f2) ⟨(l[i]).f2.length + 1, fun k hk' => laws_toIntS_eq _ k (by omega) (by omega)⟩ (ev_const rfl)
      refine ev_step (ev_bind (F := fun k => laws_toWarnRule.f k (l[i]).f0 (l[i]).f1 (l[i]).f2 (l[i]).f3 (l[i]).f4) (G := fun k bt141 => (if (i : Int) < (x3.length : Int) then (laws_toWarnRuleS.l0 k l (x3.set i (⟨bt141.1, bt141.2.1, bt141.2.2.1, bt141.2.2.2.1, bt141.2.2.2.2⟩ : S63)) ((i + 1 : Nat) : Int)) else (none))) et ?_) fun k => ?_
      · simp only [if_pos (show (i : Int) < (x3.length : Int) by omega)]; exact e
      · simp only [laws_toWarnRuleS.l0, rd62 l i hlt, hw, Int.toNat_natCast]
        clear hw
        rw [if_pos (by omega), if_pos (by omega)]
  unfold laws_toWarnRuleS.f
  simp only [if_pos (show (0 : Int) ≤ (l.length : Int) by omega), Int.toNat_natCast, if_pos (show l.length ≤ 3909374676536 by omega)]
  exact go l.length 0 _ (by omega) (by omega) (by rw [List.length_replicate]) (fun j hj => by omega)
theorem eq_rules (x : List S63) (hx : Fit x) : Ev (fun k => laws_eqWarnRuleS.f k x x) true := by
  have hx1 := hx.1
  have go : ∀ (d i : Nat), x.length - i = d → i ≤ x.length → Ev (fun k => laws_eqWarnRuleS.l0 k x x (i : Int)) true := by
    intro d
    induction d with
    | zero =>
      intro i hd hi
      refine ev_now fun k => ?_
      simp only [laws_eqWarnRuleS.l0]; rw [if_neg (by omega)]
    | succ d ih =>
      intro i hd hi
      have hlt : i < x.length := by omega
      have hw := wsucc hlt (show x.length ≤ 4611686018427387904 by omega)
      obtain ⟨hq, _⟩ := hx.2 _ (List.getElem_mem hlt)
      have et : Ev (fun k => laws_eqWarnRule.f k (x[i]).f0 (x[i]).f1 (x[i]).f2 (x[i]).f3 (x[i]).f4 (x[i]).f0 (x[i]).f1 (x[i]).f2 (x[i]).f3 (x[i]).f4) true := by
        unfold laws_eqWarnRule.f
        simp only [if_true, bne_self_eq_false, Bool.false_eq_true, if_false]
        exact ev_bind (F := fun k => laws_eqIntS.f k (x[i]).f2 (x[i]).f2) ⟨(x[i]).f2.length + 1, fun k hk' => laws_eqIntS_eq _ k (by omega) (by omega)⟩ (by simp only [if_true]; exact ev_const rfl)
      refine ev_step (ev_bind (F := fun k => laws_eqWarnRule.f k (x[i]).f0 (x[i]).f1 (x[i]).f2 (x[i]).f3 (x[i]).f4 (x[i]).f0 (x[i]).f1 (x[i]).f2 (x[i]).f3 (x[i]).f4) (G := fun k t170 => (if t170 = true then (laws_eqWarnRuleS.l0 k x x ((i + 1 : Nat) : Int)) else (some false))) et ?_) fun k => ?_
      · simp only [if_true]; exact ih (i + 1) (by omega) (by omega)
      · simp only [laws_eqWarnRuleS.l0, rd63 x i hlt, hw]
        clear hw
        rw [if_pos (by omega), if_pos (by omega), if_pos (by omega)]
  unfold laws_eqWarnRuleS.f
  simp only [if_true]
  exact go x.length 0 (by omega) (by omega)
/-- A number's mark is some text. -/
theorem markText_ev (a : Int) (h0 : 0 ≤ a) (h1 : a ≤ 4611686018427387904) : ∃ t, Ev (fun k => laws_markText.f k a) t := by
  unfold laws_markText.f
  by_cases c : a ≤ 0
  · simp only [if_pos c]; exact ⟨_, ev_const rfl⟩
  · simp only [if_neg c]
    have go : ∀ (n : Nat) (x : Int) (s : ByteArray), 0 ≤ x → x.toNat ≤ n → s.size + n ≤ 9223372036854775806 → ∃ t, Ev (fun k => laws_markText.l0 k x s) t := by
      intro n
      induction n with
      | zero =>
        intro x s hx hn hs
        refine ⟨_, ev_now (r := (⟨#[109]⟩ : ByteArray) ++ s) fun k => ?_⟩
        simp only [laws_markText.l0]
        rw [if_neg (by omega), if_pos (by omega)]
      | succ n ih =>
        intro x s hx hn hs
        by_cases p : x > 0
        · have hd : Int.tdiv x 10 = x / 10 := Int.tdiv_eq_ediv_of_nonneg hx
          have hw : wrap64 (Int.tdiv x 10) = x / 10 := by rw [hd]; exact w64 (by omega) (by omega)
          have hz : (strOfNums ([(wrap64 (48 + (Int.tmod x 10))) % 256] : List Int)).size = 1 := by rw [strOfNums_size]; rfl
          obtain ⟨t, ht⟩ := ih (x / 10) (strOfNums ([(wrap64 (48 + (Int.tmod x 10))) % 256] : List Int) ++ s) (by omega) (by omega) (by rw [ByteArray.size_append, hz]; omega)
          refine ⟨t, ev_step ht fun k => ?_⟩
          simp only [laws_markText.l0, Option.bind_some, hw]
          rw [if_pos p, if_pos (by rw [hz]; omega)]
        · refine ⟨_, ev_now (r := (⟨#[109]⟩ : ByteArray) ++ s) fun k => ?_⟩
          simp only [laws_markText.l0]
          rw [if_neg p, if_pos (by omega)]
    exact go a.toNat a _ h0 (Nat.le_refl _) (by show 0 + a.toNat ≤ _; omega)
noncomputable def mT (a : Int) : ByteArray := open Classical in if h : ∃ t, Ev (fun k => laws_markText.f k a) t then h.choose else ByteArray.empty
theorem mT_ev (a : Int) (h0 : 0 ≤ a) (h1 : a ≤ 4611686018427387904) : Ev (fun k => laws_markText.f k a) (mT a) := by
  have h := markText_ev a h0 h1
  unfold mT
  rw [dif_pos h]
  exact h.choose_spec
theorem mark_strs_l (m : Int) (n : Nat) (hm : 0 ≤ m) (hn : m + n ≤ 4611686018427387904) : ∀ (d i : Nat) (x0 : List ByteArray), x0.length = n → n - i = d → i ≤ n → (∀ j : Nat, j < i → x0[j]? = some (mT (m + (j : Int)))) → ∃ x, Ev (fun k => laws_markStringS.l0 k x0 (m + (i : Int)) (i : Int)) (m + (n : Int), x) ∧ x.length = n ∧ ∀ j : Nat, j < n → x[j]? = some (mT (m + (j : Int))) := by
  intro d
  induction d with
  | zero =>
    intro i x0 hl hd hi hj
    obtain rfl : i = n := by omega
    refine ⟨x0, ev_now fun k => ?_, hl, hj⟩
    simp only [laws_markStringS.l0]
    rw [if_neg (by omega)]
  | succ d ih =>
    intro i x0 hl hd hi hj
    have w1 : wrap64 ((i : Int) + 1) = ((i + 1 : Nat) : Int) := by rw [w64 (by omega) (by omega)]; omega
    have w2 : wrap64 (m + (i : Int) + 1) = m + ((i + 1 : Nat) : Int) := by rw [w64 (by omega) (by omega)]; omega
    obtain ⟨x, e, hx, hx2⟩ := ih (i + 1) (x0.set i (mT (m + (i : Int)))) (by simpa using hl) (by omega) (by omega) (fun j hj' => by
      by_cases e : j = i
      · subst e; rw [List.getElem?_set_self (by omega)]
      · rw [List.getElem?_set_ne (fun h => e h.symm)]; exact hj j (by omega))
    refine ⟨x, ev_step (ev_bind (F := fun k => laws_markText.f k (m + (i : Int))) (G := fun k t => laws_markStringS.l0 k (x0.set i t) (m + ((i + 1 : Nat) : Int)) ((i + 1 : Nat) : Int)) (mT_ev _ (by omega) (by omega)) e) fun k => ?_, hx, hx2⟩
    simp only [laws_markStringS.l0, w1, w2, Int.toNat_natCast]
    clear w1 w2 ih
    rw [if_pos (by omega)]
    simp only [if_pos (show (0 : Int) ≤ (i : Int) by omega)]
theorem held_strs_l (m : Int) (n : Nat) (hm : 0 ≤ m) (hn : m + n ≤ 4611686018427387904) (x : List ByteArray) (hl : x.length = n) (hx : ∀ j : Nat, j < n → x[j]? = some (mT (m + (j : Int)))) : ∀ (d i : Nat), n - i = d → i ≤ n → Ev (fun k => laws_heldStringS.l0 k x (m + (i : Int)) (i : Int)) (m + (n : Int)) := by
  intro d
  induction d with
  | zero =>
    intro i hd hi
    obtain rfl : i = n := by omega
    refine ev_now fun k => ?_
    simp only [laws_heldStringS.l0]
    rw [if_neg (by omega)]
  | succ d ih =>
    intro i hd hi
    have w1 : wrap64 ((i : Int) + 1) = ((i + 1 : Nat) : Int) := by rw [w64 (by omega) (by omega)]; omega
    have w2 : wrap64 (m + (i : Int) + 1) = m + ((i + 1 : Nat) : Int) := by rw [w64 (by omega) (by omega)]; omega
    have hr : rdOf ByteArray.empty x (i : Int) = mT (m + (i : Int)) := by
      show x.getD (i : Int).toNat ByteArray.empty = _
      rw [Int.toNat_natCast, List.getD_eq_getElem?_getD, hx i (by omega)]; rfl
    refine ev_step (ev_bind (F := fun k => laws_markText.f k (m + (i : Int))) (G := fun k t => if (mT (m + (i : Int))).toList = t.toList then laws_heldStringS.l0 k x (m + ((i + 1 : Nat) : Int)) ((i + 1 : Nat) : Int) else some (-1)) (mT_ev _ (by omega) (by omega)) ?_) fun k => ?_
    · simp only [if_true]; exact ih (i + 1) (by omega) (by omega)
    · simp only [laws_heldStringS.l0, w1, w2, hr]
      clear w1 w2 ih hr
      rw [if_pos (by omega), if_pos (by omega)]
/-- Names written over, and read again. -/
theorem mark_strs (l : List ByteArray) (m : Int) (hm : 0 ≤ m) (hn : m + l.length ≤ 4611686018427387904) : ∃ x, Ev (fun k => laws_markStringS.f k l m) (m + (l.length : Int), x) ∧ x.length = l.length ∧ Ev (fun k => laws_heldStringS.f k x m) (m + (l.length : Int)) := by
  obtain ⟨x, e, h1, h2⟩ := mark_strs_l m l.length hm hn l.length 0 l rfl (by omega) (by omega) (fun j hj => by omega)
  have h := held_strs_l m l.length hm hn x h1 h2 l.length 0 (by omega) (by omega)
  rw [show m + ((0 : Nat) : Int) = m by omega] at e h
  exact ⟨x, e, h1, h⟩
theorem laws_markIntS_l0 (m : Int) (n : Nat) (hm : 0 ≤ m) (hn : m + n ≤ 4611686018427387904) : ∀ (d k i : Nat) (x0 : List Int), x0.length = n → n - i = d → i ≤ n → d < k → (∀ j, j < i → x0[j]? = some (m + (j : Int))) → ∃ x, laws_markIntS.l0 k x0 (m + i) (i : Int) = some (m + n, x) ∧ x.length = n ∧ ∀ j, j < n → x[j]? = some (m + (j : Int)) := by
  intro d
  induction d with
  | zero =>
    intro k i x0 hl hd hi hk hj
    obtain ⟨k, rfl⟩ : ∃ m, k = m + 1 := ⟨k - 1, by omega⟩
    obtain rfl : i = n := by omega
    simp only [laws_markIntS.l0]
    rw [if_neg (by omega)]
    exact ⟨x0, rfl, hl, hj⟩
  | succ d ih =>
    intro k i x0 hl hd hi hk hj
    obtain ⟨k, rfl⟩ : ∃ m, k = m + 1 := ⟨k - 1, by omega⟩
    simp only [laws_markIntS.l0]
    rw [if_pos (by omega), if_pos (by omega), w64 (a := (i : Int) + 1) (by omega) (by omega), w64 (a := m + (i : Int) + 1) (by omega) (by omega), show (i : Int) + 1 = ((i + 1 : Nat) : Int) by omega, show m + (i : Int) + 1 = m + ((i + 1 : Nat) : Int) by omega]
    refine ih k (i + 1) _ (by simpa using hl) (by omega) (by omega) (by omega) ?_
    intro j hj'
    rw [Int.toNat_natCast]
    by_cases e : j = i
    · subst e
      rw [List.getElem?_set_self (by omega)]
    · rw [List.getElem?_set_ne (fun h => e h.symm)]
      exact hj j (by omega)
theorem mark_ints (l : List Int) (m : Int) (hm : 0 ≤ m) (hn : m + l.length ≤ 4611686018427387904) (k : Nat) (hk : l.length < k) : ∃ x, laws_markIntS.f k l m = some (m + l.length, x) ∧ x.length = l.length := by
  obtain ⟨x, h1, h2, h3⟩ := laws_markIntS_l0 m l.length hm hn l.length k 0 l rfl (by omega) (by omega) hk (fun j hj => by omega)
  refine ⟨x, ?_, h2⟩
  · unfold laws_markIntS.f
    have := h1
    rwa [show m + ((0 : Nat) : Int) = m by omega] at this

theorem mark_ints_ev (l : List Int) (m : Int) (hm : 0 ≤ m) (hn : m + l.length ≤ 4611686018427387904) : ∃ x, Ev (fun k => laws_markIntS.f k l m) (m + (l.length : Int), x) := by
  obtain ⟨x, h, hx⟩ := mark_ints l m hm hn (l.length + 1) (by omega)
  have mo : ∀ d, laws_markIntS.f (l.length + 1 + d) l m = some (m + (l.length : Int), x) := by
    intro d
    induction d with
    | zero => exact h
    | succ d ih => exact laws_markIntS.mono l m (l.length + 1 + d) _ ih
  refine ⟨x, l.length + 1, fun k hk => ?_⟩
  have := mo (k - (l.length + 1))
  rwa [show l.length + 1 + (k - (l.length + 1)) = k by omega] at this
/-- Rules written over: the numbers go up, no further. -/
theorem mark_rules_go : ∀ (x : List S63) (a : Int), (∀ r ∈ x, r.f2.length ≤ 1048576) → 0 ≤ a → a + x.length * 1048580 ≤ 2305843009213693952 → ∃ r, Ev (fun k => laws_markWarnRuleS.go k x a) r ∧ a ≤ r ∧ r ≤ a + x.length * 1048580
  | [], a, _, _, _ => ⟨a, ev_const rfl, Int.le_refl _, by simp⟩
  | y :: ys, a, hk, h0, h1 => by
    have hy := hk y List.mem_cons_self
    rw [List.length_cons] at h1
    have w1 : wrap64 (a + 1) = a + 1 := w64 (by omega) (by omega)
    have w2 : wrap64 (a + 1 + 1) = a + 1 + 1 := w64 (by omega) (by omega)
    have w3 : wrap64 (a + 1 + 1 + (y.f2.length : Int) + 1) = a + 1 + 1 + (y.f2.length : Int) + 1 := w64 (by omega) (by omega)
    have w4 : wrap64 (a + 1 + 1 + (y.f2.length : Int) + 1 + 1) = a + 1 + 1 + (y.f2.length : Int) + 1 + 1 := w64 (by omega) (by omega)
    obtain ⟨z, hz⟩ := mark_ints_ev y.f2 (a + 1 + 1) (by omega) (by omega)
    obtain ⟨r, hr, g1, g2⟩ := mark_rules_go ys (a + 1 + 1 + (y.f2.length : Int) + 1 + 1) (fun r hr => hk r (List.mem_cons_of_mem _ hr)) (by omega) (by omega)
    refine ⟨r, ?_, by omega, by rw [List.length_cons]; omega⟩
    unfold laws_markWarnRuleS.go
    simp only [w1, w2]
    refine ev_bind (F := fun k => laws_markText.f k a) (mT_ev _ h0 (by omega)) ?_
    refine ev_bind (F := fun k => laws_markIntS.f k y.f2 (a + 1 + 1)) hz ?_
    simp only [w3, w4]
    exact ev_bind (F := fun k => laws_markText.f k (a + 1 + 1 + (y.f2.length : Int) + 1)) (mT_ev _ (by omega) (by omega)) hr
theorem mark_rules (x : List S63) (hx : Fit x) : ∃ r : Int, Ev (fun k => laws_markWarnRuleS.f k x 1) r ∧ 1 ≤ r ∧ r ≤ 1099515822081 := by
  have := hx.1
  obtain ⟨r, h, h1, h2⟩ := mark_rules_go x 1 (fun r hr => (hx.2 r hr).1) (by omega) (by omega)
  exact ⟨r, h, h1, by omega⟩
/-- Is a phase among the quiet ones? -/
def hasI (l : List Int) (a : Int) : Bool := l.any fun q => decide (q = a)
theorem quiet_i (l : List Int) (a : Int) (hl : l.length ≤ 4611686018427387904) : Ev (fun k => slices_Contains_int_int.f k l a) (hasI l a) := by
  have go : ∀ (d i : Nat), l.length - i = d → i ≤ l.length → ∃ v : Int, Ev (fun k => slices_Index_int_int.l0 k l a (l.length : Int) (i : Int)) v ∧ (decide (v ≥ 0) = hasI (l.drop i) a) := by
    intro d
    induction d with
    | zero =>
      intro i hd hi
      refine ⟨-1, ev_now fun k => ?_, ?_⟩
      · simp only [slices_Index_int_int.l0]; rw [if_neg (by omega)]
      · rw [List.drop_eq_nil_of_le (by omega)]; rfl
    | succ d ih =>
      intro i hd hi
      have hlt : i < l.length := by omega
      obtain ⟨v, hv, hd'⟩ := ih (i + 1) (by omega) (by omega)
      have hw := wsucc hlt hl
      have hr : rd l (i : Int) = l[i] := by
        show l.getD (i : Int).toNat 0 = _
        rw [Int.toNat_natCast, List.getD_eq_getElem?_getD, List.getElem?_eq_getElem hlt]; rfl
      rw [List.drop_eq_getElem_cons hlt]
      by_cases h : a = l[i]
      · refine ⟨(i : Int), ev_now fun k => ?_, ?_⟩
        · simp only [slices_Index_int_int.l0, hr]
          rw [if_pos (by omega), if_pos (by omega), if_pos (by omega), if_pos h]
        · unfold hasI
          rw [List.any_cons, decide_eq_true h.symm, Bool.true_or, decide_eq_true (by omega)]
      · refine ⟨v, ev_step hv fun k => ?_, ?_⟩
        · simp only [slices_Index_int_int.l0, hr, hw]
          clear hw
          rw [if_pos (by omega), if_pos (by omega), if_pos (by omega), if_neg h]
        · unfold hasI at hd' ⊢
          rw [List.any_cons, decide_eq_false (show ¬ l[i] = a from fun e => h e.symm), Bool.false_or]; exact hd'
  obtain ⟨v, hv, hd⟩ := go l.length 0 (by omega) (by omega)
  unfold slices_Contains_int_int.f
  refine ev_bind (F := fun k => slices_Index_int_int.f k l a) hv (ev_const ?_)
  rw [hd, List.drop_zero]
theorem quiet_s (l : List Int) (a : Int) (hl : l.length ≤ 4611686018427387904) (f0 : ByteArray) (f1 : Int) (f3 : Bool) (f4 : ByteArray) : Ev (fun k => spec_l14Quiet.f k f0 f1 l f3 f4 a) (hasI l a) := by
  have go : ∀ (d i : Nat), l.length - i = d → i ≤ l.length → Ev (fun k => spec_l14Quiet.l0 k a (i : Int) f0 f1 l f3 f4) (hasI (l.drop i) a) := by
    intro d
    induction d with
    | zero =>
      intro i hd hi
      refine ev_now fun k => ?_
      simp only [spec_l14Quiet.l0]
      rw [if_neg (by omega), List.drop_eq_nil_of_le (by omega)]; rfl
    | succ d ih =>
      intro i hd hi
      have hlt : i < l.length := by omega
      have e := ih (i + 1) (by omega) (by omega)
      have hw := wsucc hlt hl
      have hr : rd l (i : Int) = l[i] := by
        show l.getD (i : Int).toNat 0 = _
        rw [Int.toNat_natCast, List.getD_eq_getElem?_getD, List.getElem?_eq_getElem hlt]; rfl
      rw [List.drop_eq_getElem_cons hlt]
      unfold hasI
      rw [List.any_cons]
      by_cases h : l[i] = a
      · rw [decide_eq_true h, Bool.true_or]
        refine ev_now fun k => ?_
        simp only [spec_l14Quiet.l0, hr]
        rw [if_pos (by omega), if_pos (by omega), if_pos h]
      · rw [decide_eq_false h, Bool.false_or]
        refine ev_step e fun k => ?_
        simp only [spec_l14Quiet.l0, hr, hw]
        clear hw
        rw [if_pos (by omega), if_pos (by omega), if_neg h]
  have := go l.length 0 (by omega) (by omega)
  rwa [List.drop_zero] at this
/-- The names of the rules that are quiet in a phase. -/
def inh (a : Int) : List S63 → List ByteArray
  | [] => []
  | r :: rs => if hasI r.f2 a = true then r.f0 :: inh a rs else inh a rs
theorem inh_len (a : Int) : ∀ x : List S63, (inh a x).length ≤ x.length
  | [] => Nat.le_refl _
  | r :: rs => by
    have := inh_len a rs
    unfold inh
    split
    · simp only [List.length_cons]; omega
    · simp only [List.length_cons]; omega
theorem inh_i (x : List S63) (hx : Fit x) (a : Int) : ∀ (d i : Nat) (o : List ByteArray), x.length - i = d → i ≤ x.length → o.length ≤ i → Ev (fun k => impl_Inhibited.l0 k a o x (x.length : Int) (i : Int)) (o ++ inh a (x.drop i), true) := by
  have hx1 := hx.1
  intro d
  induction d with
  | zero =>
    intro i o hd hi ho
    refine ev_now fun k => ?_
    simp only [impl_Inhibited.l0]
    rw [if_neg (by omega), List.drop_eq_nil_of_le (by omega)]
    simp [inh]
  | succ d ih =>
    intro i o hd hi ho
    have hlt : i < x.length := by omega
    have hw := wsucc hlt (show x.length ≤ 4611686018427387904 by omega)
    have hq := quiet_i (x[i]).f2 a (Nat.le_trans (hx.2 _ (List.getElem_mem hlt)).1 (by omega))
    rw [List.drop_eq_getElem_cons hlt]
    unfold inh
    have un : ∀ k, impl_Inhibited.l0 (k + 1) a o x (x.length : Int) (i : Int) = ((slices_Contains_int_int.f k (x[i]).f2 a).bind fun t => (if t = true then (impl_Inhibited.l0 k a (o ++ [(x[i]).f0]) x (x.length : Int) ((i + 1 : Nat) : Int)) else (impl_Inhibited.l0 k a o x (x.length : Int) ((i + 1 : Nat) : Int)))) := by
      intro k
      simp only [impl_Inhibited.l0, rd63 x i hlt, hw]
      clear hw ih
      rw [if_pos (by omega), if_pos (by omega), if_pos (by omega)]
      congr 1
      funext t
      rw [if_pos (show o.length < 8796093022208 by omega)]
    refine ev_step (ev_bind (F := fun k => slices_Contains_int_int.f k (x[i]).f2 a) hq ?_) un
    by_cases h : hasI (x[i]).f2 a = true
    · simp only [if_pos h]
      have := ih (i + 1) (o ++ [(x[i]).f0]) (by omega) (by omega) (by simp; omega)
      rwa [List.append_assoc, List.singleton_append] at this
    · simp only [if_neg h]
      exact ih (i + 1) o (by omega) (by omega) (by omega)
theorem inh_s (x : List S63) (hx : Fit x) (a : Int) : ∀ (d i : Nat) (o : List ByteArray), x.length - i = d → i ≤ x.length → o.length ≤ i → Ev (fun k => spec_Inhibited.l0 k x a o (i : Int)) (o ++ inh a (x.drop i), true) := by
  have hx1 := hx.1
  intro d
  induction d with
  | zero =>
    intro i o hd hi ho
    refine ev_now fun k => ?_
    simp only [spec_Inhibited.l0]
    rw [if_neg (by omega), List.drop_eq_nil_of_le (by omega)]
    simp [inh]
  | succ d ih =>
    intro i o hd hi ho
    have hlt : i < x.length := by omega
    have hw := wsucc hlt (show x.length ≤ 4611686018427387904 by omega)
    have hq := quiet_s (x[i]).f2 a (Nat.le_trans (hx.2 _ (List.getElem_mem hlt)).1 (by omega)) (x[i]).f0 (x[i]).f1 (x[i]).f3 (x[i]).f4
    rw [List.drop_eq_getElem_cons hlt]
    unfold inh
    have un : ∀ k, spec_Inhibited.l0 (k + 1) x a o (i : Int) = ((spec_l14Quiet.f k (x[i]).f0 (x[i]).f1 (x[i]).f2 (x[i]).f3 (x[i]).f4 a).bind fun t => (if t = true then (spec_Inhibited.l0 k x a (o ++ [(x[i]).f0]) ((i + 1 : Nat) : Int)) else (spec_Inhibited.l0 k x a o ((i + 1 : Nat) : Int)))) := by
      intro k
      simp only [spec_Inhibited.l0, rd63 x i hlt, hw]
      clear hw ih
      rw [if_pos (by omega), if_pos (by omega)]
      congr 1
      funext t
      rw [if_pos (show o.length < 8796093022208 by omega)]
    refine ev_step (ev_bind (F := fun k => spec_l14Quiet.f k (x[i]).f0 (x[i]).f1 (x[i]).f2 (x[i]).f3 (x[i]).f4 a) hq ?_) un
    by_cases h : hasI (x[i]).f2 a = true
    · simp only [if_pos h]
      have := ih (i + 1) (o ++ [(x[i]).f0]) (by omega) (by omega) (by simp; omega)
      rwa [List.append_assoc, List.singleton_append] at this
    · simp only [if_neg h]
      exact ih (i + 1) o (by omega) (by omega) (by omega)
theorem inhibited_both (x : List S63) (hx : Fit x) (a : Int) : ∃ r : List ByteArray × Bool, Ev (fun k => spec_Inhibited.f k x a) r ∧ Ev (fun k => impl_Inhibited.f k x a) r ∧ r.1.length ≤ x.length := by
  obtain ⟨b, s1, s2⟩ := rules_both x hx
  have bad1 : Ev (fun k => spec_Inhibited.j0 k x a [] true) ([], false) := ev_now fun k => by simp only [spec_Inhibited.j0, if_true]
  have bad2 : Ev (fun k => impl_Inhibited.j0 k x a true) ([], false) := ev_now fun k => by simp only [impl_Inhibited.j0, if_true]
  unfold spec_Inhibited.f impl_Inhibited.f
  simp only [Option.bind_some]
  cases b
  · refine ⟨([], false), ev_bind (F := fun k => spec_RulesOk.f k x) s1 ?_, ev_bind (F := fun k => impl_RulesOk.f k x) s2 ?_, Nat.zero_le _⟩
    · simp only [Bool.false_eq_true, if_false]; exact bad1
    · simp only [Bool.false_eq_true, if_false]; exact bad2
  · have e1 : spec_l1In.f a 0 9 = impl_in.f a 0 9 := by rw [in_s, in_i]
    have e2 : ∃ q, impl_in.f a 0 9 = some q := ⟨_, in_i _ _ _⟩
    obtain ⟨q, e2⟩ := e2
    rw [e2] at e1
    cases q
    · refine ⟨([], false), ev_bind (F := fun k => spec_RulesOk.f k x) s1 ?_, ev_bind (F := fun k => impl_RulesOk.f k x) s2 ?_, Nat.zero_le _⟩
      · simp only [if_true, e1, Option.bind_some, Bool.not_false]; exact bad1
      · simp only [if_true, e2, Option.bind_some, Bool.not_false]; exact bad2
    · have g1 := inh_s x hx a x.length 0 [] (by omega) (by omega) (by simp)
      have g2 := inh_i x hx a x.length 0 [] (by omega) (by omega) (by simp)
      rw [List.drop_zero, List.nil_append] at g1 g2
      refine ⟨(inh a x, true), ev_bind (F := fun k => spec_RulesOk.f k x) s1 ?_, ev_bind (F := fun k => impl_RulesOk.f k x) s2 ?_, inh_len a x⟩
      · simp only [if_true, e1, Option.bind_some, Bool.not_true]
        refine ev_step g1 fun k => ?_
        simp only [spec_Inhibited.j0, Bool.false_eq_true, if_false]; rfl
      · simp only [if_true, e2, Option.bind_some, Bool.not_true]
        refine ev_step g2 fun k => ?_
        simp only [impl_Inhibited.j0, Bool.false_eq_true, if_false]; rfl
theorem FnExactInhibited : laws_FnExactInhibited.Pure := by
  intro l a ⟨hl, hk⟩ _
  suffices H : Ev (fun k => laws_FnExactInhibited.f k l a) true by obtain ⟨K, hK⟩ := H; exact ⟨K, hK K (Nat.le_refl _)⟩
  obtain ⟨v, hv, o⟩ := sz_rules l hl hk
  unfold laws_FnExactInhibited.f
  refine ev_bind (F := fun k => laws_szWarnRuleS.f k l 1048576) hv ?_
  by_cases c : v < 0
  · simp only [if_pos c]; exact ev_const rfl
  · simp only [if_neg c]
    rcases o with o | ⟨v0, v1, h1, h2⟩
    · exact absurd o c
    · have ht := to_rules l h1 h2
      have hf := fit_conv h1 h2
      have he := eq_rules (l.map conv) hf
      have hfl : (l.map conv).length ≤ 1048576 := hf.1
      obtain ⟨⟨w0, w1⟩, s1, s2, hw⟩ := inhibited_both (l.map conv) hf a
      have hw : w0.length ≤ (l.map conv).length := hw
      have eq : Ev (fun k => laws_eqStringS.f k w0 w0) true := ⟨w0.length + 1, fun k hk => laws_eqStringS_eq w0 k (by omega) (by omega)⟩
      obtain ⟨m, hm, m1, m2⟩ := mark_rules (l.map conv) hf
      obtain ⟨g, hg, _, hh⟩ := mark_strs w0 1 (by omega) (by omega)
      have J2 : Ev (fun k => laws_FnExactInhibited.j2 k g (1 + (w0.length : Int)) false) true := by
        refine ev_step (ev_bind (F := fun k => laws_heldStringS.f k g 1) (G := fun _ t => (if t < 0 then (some false) else (if t = 1 + (w0.length : Int) then (some true) else (some false)))) hh ?_) fun k => ?_
        · simp only [if_true]; rw [if_neg (by omega)]; exact ev_const rfl
        · simp only [laws_FnExactInhibited.j2, Bool.false_eq_true, if_false]
      have J1 : Ev (fun k => laws_FnExactInhibited.j1 k l a w0 w1 w0 false) true := by
        have un : ∀ k, laws_FnExactInhibited.j1 (k + 1) l a w0 w1 w0 false = ((laws_markStringS.f k w0 1).bind fun bt229 => ((laws_heldStringS.f k bt229.2 1).bind fun t231 => (if t231 < 0 then (some false) else (if t231 = bt229.1 then ((laws_toWarnRuleS.f k l).bind fun t232 => ((impl_Inhibited.f k t232 a).bind fun bt235 => ((laws_eqStringS.f k bt235.1 w0).bind fun t239 => (if t239 = true then (laws_FnExactInhibited.j2 k bt229.2 bt229.1 (bt235.2 != w1)) else (laws_FnExactInhibited.j2 k bt229.2 bt229.1 true))))) else (some false))))) := by
          intro k
          simp only [laws_FnExactInhibited.j1, Bool.false_eq_true, if_false]
        refine ev_step (ev_bind (F := fun k => laws_markStringS.f k w0 1) hg (ev_bind (F := fun k => laws_heldStringS.f k g 1) hh ?_)) un
        simp only [if_true]
        simp only [if_neg (show ¬ (1 + (w0.length : Int) < 0) by omega)]
        refine ev_bind (F := fun k => laws_toWarnRuleS.f k l) ht ?_
        refine ev_bind (F := fun k => impl_Inhibited.f k (l.map conv) a) s2 ?_
        refine ev_bind (F := fun k => laws_eqStringS.f k w0 w0) eq ?_
        simp only [if_true, bne_self_eq_false]
        exact J2
      refine ev_bind (F := fun k => laws_toWarnRuleS.f k l) ht ?_
      refine ev_bind (F := fun k => spec_Inhibited.f k (l.map conv) a) s1 ?_
      refine ev_bind (F := fun k => laws_toWarnRuleS.f k l) ht ?_
      refine ev_bind (F := fun k => impl_Inhibited.f k (l.map conv) a) s2 ?_
      refine ev_bind (F := fun k => laws_eqStringS.f k w0 w0) eq ?_
      simp only [bne_self_eq_false, if_true]
      have un : ∀ k, laws_FnExactInhibited.j0 (k + 1) l a w0 w1 (l.map conv) w0 w1 false = ((laws_toWarnRuleS.f k l).bind fun t223 => ((laws_eqWarnRuleS.f k (l.map conv) t223).bind fun t226 => (if t226 = true then ((laws_markWarnRuleS.f k (l.map conv) 1).bind fun t227 => (if t227 < 0 then (laws_FnExactInhibited.j1 k l a w0 w1 w0 true) else ((laws_eqStringS.f k w0 w0).bind fun t228 => (if t228 = true then (laws_FnExactInhibited.j1 k l a w0 w1 w0 (w1 != w1)) else (laws_FnExactInhibited.j1 k l a w0 w1 w0 true))))) else (some false)))) := by
        intro k
        simp only [laws_FnExactInhibited.j0, Bool.false_eq_true, if_false]
      refine ev_step (ev_bind (F := fun k => laws_toWarnRuleS.f k l) ht (ev_bind (F := fun k => laws_eqWarnRuleS.f k (l.map conv) (l.map conv)) he ?_)) un
      simp only [if_true]
      refine ev_bind (F := fun k => laws_markWarnRuleS.f k (l.map conv) 1) hm ?_
      simp only [if_neg (show ¬ m < 0 by omega)]
      refine ev_bind (F := fun k => laws_eqStringS.f k w0 w0) eq ?_
      simp only [if_true, bne_self_eq_false]
      exact J1
end Go.Proofs.Ytjndpoofjidamaa.Pure.FnExactInhibited
namespace Go.Proofs.Ytjndpoofjidamaa.Pure
theorem FnExactInhibited : Go.Proofs.Ytjndpoofjidamaa.PFnExactInhibited.laws_FnExactInhibited.Pure := FnExactInhibited.FnExactInhibited
end Go.Proofs.Ytjndpoofjidamaa.Pure
