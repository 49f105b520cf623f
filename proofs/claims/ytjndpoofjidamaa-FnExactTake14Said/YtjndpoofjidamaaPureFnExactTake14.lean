/- For every list of WarnRules, every Panel and every name the program's Take14 answers what the reference's answers, writes into nothing, keeps nothing and owns its answer (FnExactTake14 returns true); no condition. -/
import Derived.Test.YtjndpoofjidamaaAskFnExactTake14
import Derived.Test.YtjndpoofjidamaaNum
namespace Go.Proofs.Ytjndpoofjidamaa.Pure.FnExactTake14
open Go.RowKit Go.Proofs.Ytjndpoofjidamaa.PFnExactTake14 Go.Proofs.YtjndpoofjidamaaW.PrintWords Go.Proofs.YtjndpoofjidamaaW.PrintLast Go.Proofs.YtjndpoofjidamaaW.PrintMore Go.Proofs.Ytjndpoofjidamaa.Num
set_option linter.unusedVariables false
set_option linter.unusedSimpArgs false
theorem in_s (a b c : Int) : spec_l1In.f a b c = some (decide (b ≤ a) && decide (a ≤ c)) := by
  unfold spec_l1In.f
  by_cases h : a ≥ b
  · rw [if_pos h, decide_eq_true (show b ≤ a from h)]; rfl
  · rw [if_neg h, decide_eq_false (show ¬ b ≤ a from h)]; rfl
theorem in_i (a b c : Int) : impl_in.f a b c = some (decide (b ≤ a) && decide (a ≤ c)) := by
  unfold impl_in.f
  by_cases h : a ≥ b
  · rw [if_pos h, decide_eq_true (show b ≤ a from h)]; rfl
  · rw [if_neg h, decide_eq_false (show ¬ b ≤ a from h)]; rfl
/-- From some count of rounds on it answers r. -/
def Ev {α : Type} (F : Nat → Option α) (r : α) : Prop := ∃ K, ∀ k, K ≤ k → F k = some r
theorem ev_step {α : Type} {F G : Nat → Option α} {r : α} (h : Ev G r) (e : ∀ k, F (k + 1) = G k) : Ev F r := by
  obtain ⟨K, h⟩ := h
  refine ⟨K + 1, fun k hk => ?_⟩
  obtain ⟨m, rfl⟩ : ∃ m, k = m + 1 := ⟨k - 1, by omega⟩
  rw [e m]; exact h m (by omega)
theorem ev_now {α : Type} {F : Nat → Option α} {r : α} (e : ∀ k, F (k + 1) = some r) : Ev F r :=
  ⟨1, fun k hk => by obtain ⟨m, rfl⟩ : ∃ m, k = m + 1 := ⟨k - 1, by omega⟩; exact e m⟩
theorem ev_const {α : Type} {o : Option α} {r : α} (e : o = some r) : Ev (fun _ => o) r := ⟨0, fun _ _ => e⟩
theorem ev_bind {α β : Type} {F : Nat → Option α} {G : Nat → α → Option β} {a : α} {r : β} (h : Ev F a) (g : Ev (fun k => G k a) r) : Ev (fun k => (F k).bind (G k)) r := by
  obtain ⟨K, h⟩ := h
  obtain ⟨L, g⟩ := g
  exact ⟨max K L, fun k hk => by show (F k).bind (G k) = _; rw [h k (by omega), Option.bind_some]; exact g k (by omega)⟩
theorem ev_cong {α : Type} {F G : Nat → Option α} {r : α} (h : Ev G r) (e : ∀ k, F k = G k) : Ev F r := by
  obtain ⟨K, h⟩ := h
  exact ⟨K, fun k hk => (e k).trans (h k hk)⟩
/-- All numbers are in bounds. -/
def All (xs : List Int) (lo hi : Int) : Prop := ∀ j : Nat, j < xs.length → lo ≤ rd xs (j : Int) ∧ rd xs (j : Int) ≤ hi
/-- Each number is above the one ahead. -/
def Rise (xs : List Int) : Prop := ∀ j : Nat, 1 ≤ j → j < xs.length → rd xs ((j - 1 : Nat) : Int) < rd xs (j : Int)
theorem l1All_l0 (xs : List Int) (lo hi : Int) (hn : xs.length ≤ 4611686018427387904) : ∀ (d k i : Nat), xs.length - i = d → i ≤ xs.length → d < k → ∃ b, spec_l1All.l0 k xs lo hi (i : Int) = some b ∧ (b = true ↔ ∀ j : Nat, i ≤ j → j < xs.length → lo ≤ rd xs (j : Int) ∧ rd xs (j : Int) ≤ hi) := by
  intro d
  induction d with
  | zero =>
    intro k i hd hi' hk
    obtain ⟨k, rfl⟩ : ∃ m, k = m + 1 := ⟨k - 1, by omega⟩
    simp only [spec_l1All.l0]
    rw [if_neg (by omega)]
    exact ⟨true, rfl, by simp; intro j h1 h2; omega⟩
  | succ d ih =>
    intro k i hd hi' hk
    obtain ⟨k, rfl⟩ : ∃ m, k = m + 1 := ⟨k - 1, by omega⟩
    simp only [spec_l1All.l0, in_s, Option.bind_some]
    rw [if_pos (by omega), if_pos (by omega), w64 (a := (i : Int) + 1) (by omega) (by omega), show (i : Int) + 1 = ((i + 1 : Nat) : Int) by omega, ← Bool.decide_and]
    by_cases h : lo ≤ rd xs (i : Int) ∧ rd xs (i : Int) ≤ hi
    · rw [decide_eq_true h, if_pos rfl]
      obtain ⟨b, h1, h2⟩ := ih k (i + 1) (by omega) (by omega) (by omega)
      refine ⟨b, h1, h2.trans ⟨fun g j hj hl => ?_, fun g j hj hl => g j (by omega) hl⟩⟩
      by_cases e : j = i
      · subst e; exact h
      · exact g j (by omega) hl
    · rw [decide_eq_false h, if_neg (by decide)]
      exact ⟨false, rfl, ⟨fun g => absurd g Bool.false_ne_true, fun g => absurd (g i (by omega) (by omega)) h⟩⟩
theorem all_s (xs : List Int) (lo hi : Int) (k : Nat) (hn : xs.length ≤ 4611686018427387904) (hk : xs.length < k) : ∃ b, spec_l1All.f k xs lo hi = some b ∧ (b = true ↔ All xs lo hi) := by
  obtain ⟨b, h1, h2⟩ := l1All_l0 xs lo hi hn xs.length k 0 (by omega) (by omega) hk
  exact ⟨b, h1, h2.trans ⟨fun g j hl => g j (by omega) hl, fun g j _ hl => g j hl⟩⟩
theorem rise_l0 (xs : List Int) (hn : xs.length ≤ 4611686018427387904) : ∀ (d k i : Nat), xs.length - i = d → 1 ≤ i → d < k → ∃ b, spec_l1Rise.l0 k xs (i : Int) = some b ∧ (b = true ↔ ∀ j : Nat, i ≤ j → j < xs.length → rd xs ((j - 1 : Nat) : Int) < rd xs (j : Int)) := by
  intro d
  induction d with
  | zero =>
    intro k i hd hi' hk
    obtain ⟨k, rfl⟩ : ∃ m, k = m + 1 := ⟨k - 1, by omega⟩
    simp only [spec_l1Rise.l0]
    rw [if_neg (by omega)]
    exact ⟨true, rfl, by simp; intro j h1 h2; omega⟩
  | succ d ih =>
    intro k i hd hi' hk
    obtain ⟨k, rfl⟩ : ∃ m, k = m + 1 := ⟨k - 1, by omega⟩
    simp only [spec_l1Rise.l0]
    rw [w64 (a := (i : Int) - 1) (by omega) (by omega), if_pos (by omega), if_pos (by omega), if_pos (by omega), if_pos (by omega), w64 (a := (i : Int) + 1) (by omega) (by omega), show (i : Int) + 1 = ((i + 1 : Nat) : Int) by omega, show (i : Int) - 1 = ((i - 1 : Nat) : Int) by omega]
    by_cases h : rd xs ((i - 1 : Nat) : Int) ≥ rd xs (i : Int)
    · rw [if_pos h]
      exact ⟨false, rfl, ⟨fun g => absurd g Bool.false_ne_true, fun g => by have := g i (by omega) (by omega); omega⟩⟩
    · rw [if_neg h]
      obtain ⟨b, h1, h2⟩ := ih k (i + 1) (by omega) (by omega) (by omega)
      refine ⟨b, h1, h2.trans ⟨fun g j hj hl => ?_, fun g j hj hl => g j (by omega) hl⟩⟩
      by_cases e : j = i
      · subst e; omega
      · exact g j (by omega) hl
theorem rise_s (xs : List Int) (k : Nat) (hn : xs.length ≤ 4611686018427387904) (hk : xs.length < k) : ∃ b, spec_l1Rise.f k xs = some b ∧ (b = true ↔ Rise xs) := by
  obtain ⟨b, h1, h2⟩ := rise_l0 xs hn (xs.length - 1) k 1 (by omega) (by omega) (by omega)
  exact ⟨b, h1, h2⟩
theorem ascends_l0 (xs : List Int) (lo hi : Int) (hn : xs.length ≤ 4611686018427387904) : ∀ (d k i : Nat), xs.length - i = d → i ≤ xs.length → d < k → ∃ b, impl_ascends.l0 k xs lo hi xs (xs.length : Int) (i : Int) = some b ∧ (b = true ↔ (∀ j : Nat, i ≤ j → j < xs.length → lo ≤ rd xs (j : Int) ∧ rd xs (j : Int) ≤ hi) ∧ ∀ j : Nat, i ≤ j → 1 ≤ j → j < xs.length → rd xs ((j - 1 : Nat) : Int) < rd xs (j : Int)) := by
  intro d
  induction d with
  | zero =>
    intro k i hd hi' hk
    obtain ⟨k, rfl⟩ : ∃ m, k = m + 1 := ⟨k - 1, by omega⟩
    simp only [impl_ascends.l0]
    rw [if_neg (by omega)]
    exact ⟨true, rfl, ⟨fun _ => ⟨fun j h1 h2 => by omega, fun j h1 h2 h3 => by omega⟩, fun _ => rfl⟩⟩
  | succ d ih =>
    intro k i hd hi' hk
    obtain ⟨k, rfl⟩ : ∃ m, k = m + 1 := ⟨k - 1, by omega⟩
    simp only [impl_ascends.l0, in_i, Option.bind_some]
    rw [if_pos (by omega), if_pos (by omega), if_pos (by omega), w64 (a := (i : Int) + 1) (by omega) (by omega), show (i : Int) + 1 = ((i + 1 : Nat) : Int) by omega, ← Bool.decide_and]
    by_cases h : lo ≤ rd xs (i : Int) ∧ rd xs (i : Int) ≤ hi
    · rw [decide_eq_true h, if_pos rfl]
      obtain ⟨b, h1, h2⟩ := ih k (i + 1) (by omega) (by omega) (by omega)
      by_cases hp : (i : Int) > 0
      · rw [if_pos hp, w64 (a := (i : Int) - 1) (by omega) (by omega), if_pos (by omega), if_pos (by omega), show (i : Int) - 1 = ((i - 1 : Nat) : Int) by omega]
        by_cases hr : rd xs ((i - 1 : Nat) : Int) ≥ rd xs (i : Int)
        · rw [if_pos hr]
          exact ⟨false, rfl, ⟨fun g => absurd g Bool.false_ne_true, fun g => by have := g.2 i (by omega) (by omega) (by omega); omega⟩⟩
        · rw [if_neg hr]
          refine ⟨b, h1, h2.trans ⟨fun g => ⟨fun j hj hl => ?_, fun j hj h1j hl => ?_⟩, fun g => ⟨fun j hj hl => g.1 j (by omega) hl, fun j hj h1j hl => g.2 j (by omega) h1j hl⟩⟩⟩
          · by_cases e : j = i
            · subst e; exact h
            · exact g.1 j (by omega) hl
          · by_cases e : j = i
            · subst e; omega
            · exact g.2 j (by omega) h1j hl
      · rw [if_neg hp]
        refine ⟨b, h1, h2.trans ⟨fun g => ⟨fun j hj hl => ?_, fun j hj h1j hl => ?_⟩, fun g => ⟨fun j hj hl => g.1 j (by omega) hl, fun j hj h1j hl => g.2 j (by omega) h1j hl⟩⟩⟩
        · by_cases e : j = i
          · subst e; exact h
          · exact g.1 j (by omega) hl
        · exact g.2 j (by omega) h1j hl
    · rw [decide_eq_false h, if_neg (by decide)]
      exact ⟨false, rfl, ⟨fun g => absurd g Bool.false_ne_true, fun g => absurd (g.1 i (by omega) (by omega)) h⟩⟩
theorem ascends_i (xs : List Int) (lo hi : Int) (k : Nat) (hn : xs.length ≤ 4611686018427387904) (hk : xs.length < k) : ∃ b, impl_ascends.f k xs lo hi = some b ∧ (b = true ↔ Rise xs ∧ All xs lo hi) := by
  obtain ⟨b, h1, h2⟩ := ascends_l0 xs lo hi hn xs.length k 0 (by omega) (by omega) hk
  exact ⟨b, h1, h2.trans ⟨fun g => ⟨fun j h1 hl => g.2 j (by omega) h1 hl, fun j hl => g.1 j (by omega) hl⟩, fun g => ⟨fun j _ hl => g.2 j hl, fun j _ h1 hl => g.1 j h1 hl⟩⟩⟩
theorem laws_toIntS_l0 (x0 : List Int) (hn : x0.length ≤ 4611686018427387904) : ∀ (d k i : Nat) (x3 : List Int), x0.length - i = d → i ≤ x0.length → d < k → x3.length = x0.length → (∀ j, j < i → x3[j]? = x0[j]?) → laws_toIntS.l0 k x0 x3 (i : Int) = some x0 := by
  intro d
  induction d with
  | zero =>
    intro k i x3 hd hi hk hl hj
    obtain ⟨k, rfl⟩ : ∃ m, k = m + 1 := ⟨k - 1, by omega⟩
    simp only [laws_toIntS.l0]
    rw [if_neg (by omega)]
    congr 1
    apply List.ext_getElem?
    intro j
    by_cases h : j < i
    · exact hj j h
    · rw [List.getElem?_eq_none (by omega), List.getElem?_eq_none (by omega)]
  | succ d ih =>
    intro k i x3 hd hi hk hl hj
    obtain ⟨k, rfl⟩ : ∃ m, k = m + 1 := ⟨k - 1, by omega⟩
    have hlt : i < x0.length := by omega
    simp only [laws_toIntS.l0]
    rw [if_pos (by omega), if_pos (by omega), if_pos (by omega), w64 (a := (i : Int) + 1) (by omega) (by omega), show (i : Int) + 1 = ((i + 1 : Nat) : Int) by omega]
    refine ih k (i + 1) _ (by omega) (by omega) (by omega) (by simpa using hl) ?_
    intro j hj'
    have hr : rd x0 (i : Int) = x0[i] := by
      show x0.getD (i : Int).toNat 0 = _
      rw [Int.toNat_natCast, List.getD_eq_getElem?_getD, List.getElem?_eq_getElem hlt]; rfl
    simp only [Int.toNat_natCast, hr]
    by_cases e : j = i
    · subst e
      rw [List.getElem?_set_self (by omega), List.getElem?_eq_getElem hlt]
    · rw [List.getElem?_set_ne (fun h => e h.symm)]
      exact hj j (by omega)
theorem laws_toIntS_eq (x0 : List Int) (k : Nat) (hn : x0.length ≤ 35184372088832) (hk : x0.length < k) : laws_toIntS.f k x0 = some x0 := by
  unfold laws_toIntS.f
  rw [if_pos (by omega), if_pos (by rw [Int.toNat_natCast]; omega), Int.toNat_natCast]
  exact laws_toIntS_l0 x0 (by omega) x0.length k 0 _ (by omega) (by omega) hk (by simp) (fun j hj => by omega)

theorem laws_eqIntS_l0 (x0 : List Int) (hn : x0.length ≤ 4611686018427387904) : ∀ (d k i : Nat), x0.length - i = d → i ≤ x0.length → d < k → laws_eqIntS.l0 k x0 x0 (i : Int) = some true := by
  intro d
  induction d with
  | zero =>
    intro k i hd hi hk
    obtain ⟨k, rfl⟩ : ∃ m, k = m + 1 := ⟨k - 1, by omega⟩
    simp only [laws_eqIntS.l0]
    rw [if_neg (by omega)]
  | succ d ih =>
    intro k i hd hi hk
    obtain ⟨k, rfl⟩ : ∃ m, k = m + 1 := ⟨k - 1, by omega⟩
    simp only [laws_eqIntS.l0]
    rw [if_pos (by omega), if_pos (by omega), if_pos (by omega), w64 (a := (i : Int) + 1) (by omega) (by omega), show (i : Int) + 1 = ((i + 1 : Nat) : Int) by omega]
    rw [if_pos trivial]
    exact ih k (i + 1) (by omega) (by omega) (by omega)
theorem laws_eqIntS_eq (x0 : List Int) (k : Nat) (hn : x0.length ≤ 4611686018427387904) (hk : x0.length < k) : laws_eqIntS.f k x0 x0 = some true := by
  unfold laws_eqIntS.f
  rw [if_pos rfl]
  exact laws_eqIntS_l0 x0 hn x0.length k 0 (by omega) (by omega) hk

theorem laws_toStringS_l0 (x0 : List ByteArray) (hn : x0.length ≤ 4611686018427387904) : ∀ (d k i : Nat) (x3 : List ByteArray), x0.length - i = d → i ≤ x0.length → d < k → x3.length = x0.length → (∀ j, j < i → x3[j]? = x0[j]?) → laws_toStringS.l0 k x0 x3 (i : Int) = some x0 := by
  intro d
  induction d with
  | zero =>
    intro k i x3 hd hi hk hl hj
    obtain ⟨k, rfl⟩ : ∃ m, k = m + 1 := ⟨k - 1, by omega⟩
    simp only [laws_toStringS.l0]
    rw [if_neg (by omega)]
    congr 1
    apply List.ext_getElem?
    intro j
    by_cases h : j < i
    · exact hj j h
    · rw [List.getElem?_eq_none (by omega), List.getElem?_eq_none (by omega)]
  | succ d ih =>
    intro k i x3 hd hi hk hl hj
    obtain ⟨k, rfl⟩ : ∃ m, k = m + 1 := ⟨k - 1, by omega⟩
    have hlt : i < x0.length := by omega
    simp only [laws_toStringS.l0]
    rw [if_pos (by omega), if_pos (by omega), if_pos (by omega), w64 (a := (i : Int) + 1) (by omega) (by omega), show (i : Int) + 1 = ((i + 1 : Nat) : Int) by omega]
    refine ih k (i + 1) _ (by omega) (by omega) (by omega) (by simpa using hl) ?_
    intro j hj'
    have hr : rdOf ByteArray.empty x0 (i : Int) = x0[i] := by
      show x0.getD (i : Int).toNat ByteArray.empty = _
      rw [Int.toNat_natCast, List.getD_eq_getElem?_getD, List.getElem?_eq_getElem hlt]; rfl
    simp only [Int.toNat_natCast, hr]
    by_cases e : j = i
    · subst e
      rw [List.getElem?_set_self (by omega), List.getElem?_eq_getElem hlt]
    · rw [List.getElem?_set_ne (fun h => e h.symm)]
      exact hj j (by omega)
theorem laws_toStringS_eq (x0 : List ByteArray) (k : Nat) (hn : x0.length ≤ 17592186044416) (hk : x0.length < k) : laws_toStringS.f k x0 = some x0 := by
  unfold laws_toStringS.f
  rw [if_pos (by omega), if_pos (by rw [Int.toNat_natCast]; omega), Int.toNat_natCast]
  exact laws_toStringS_l0 x0 (by omega) x0.length k 0 _ (by omega) (by omega) hk (by simp) (fun j hj => by omega)

theorem laws_eqStringS_l0 (x0 : List ByteArray) (hn : x0.length ≤ 4611686018427387904) : ∀ (d k i : Nat), x0.length - i = d → i ≤ x0.length → d < k → laws_eqStringS.l0 k x0 x0 (i : Int) = some true := by
  intro d
  induction d with
  | zero =>
    intro k i hd hi hk
    obtain ⟨k, rfl⟩ : ∃ m, k = m + 1 := ⟨k - 1, by omega⟩
    simp only [laws_eqStringS.l0]
    rw [if_neg (by omega)]
  | succ d ih =>
    intro k i hd hi hk
    obtain ⟨k, rfl⟩ : ∃ m, k = m + 1 := ⟨k - 1, by omega⟩
    simp only [laws_eqStringS.l0]
    rw [if_pos (by omega), if_pos (by omega), if_pos (by omega), w64 (a := (i : Int) + 1) (by omega) (by omega), show (i : Int) + 1 = ((i + 1 : Nat) : Int) by omega]
    rw [if_pos trivial]
    exact ih k (i + 1) (by omega) (by omega) (by omega)
theorem laws_eqStringS_eq (x0 : List ByteArray) (k : Nat) (hn : x0.length ≤ 4611686018427387904) (hk : x0.length < k) : laws_eqStringS.f k x0 x0 = some true := by
  unfold laws_eqStringS.f
  rw [if_pos rfl]
  exact laws_eqStringS_l0 x0 hn x0.length k 0 (by omega) (by omega) hk

theorem bt_range (s : ByteArray) (i : Int) : 0 ≤ bt s i ∧ bt s i ≤ 255 := by
  unfold bt
  split
  · rename_i h
    have := (s[i.toNat]'h).toNat_lt
    omega
  · omega
theorem wsucc {i n : Nat} (h : i < n) (hn : n ≤ 4611686018427387904) : wrap64 ((i : Int) + 1) = ((i + 1 : Nat) : Int) := by rw [w64 (by omega) (by omega)]; omega
theorem wpred {i n : Nat} (h : i < n) (hn : n ≤ 4611686018427387904) (h0 : (i : Int) > 0) : wrap64 ((i : Int) - 1) = ((i - 1 : Nat) : Int) := by rw [w64 (by omega) (by omega)]; omega
theorem rd63 (l : List S63) (i : Nat) (h : i < l.length) : rd_T63 l (i : Int) = l[i] := by
  show l.getD (i : Int).toNat z63 = _
  rw [Int.toNat_natCast, List.getD_eq_getElem?_getD, List.getElem?_eq_getElem h]; rfl
theorem rd62 (l : List S62) (i : Nat) (h : i < l.length) : rd_T62 l (i : Int) = l[i] := by
  show l.getD (i : Int).toNat z62 = _
  rw [Int.toNat_natCast, List.getD_eq_getElem?_getD, List.getElem?_eq_getElem h]; rfl
/-- A byte of a name. -/
def isCh (c : Int) : Prop := (97 ≤ c ∧ c ≤ 122) ∨ (65 ≤ c ∧ c ≤ 90) ∨ (48 ≤ c ∧ c ≤ 57) ∨ c = 45
instance (c : Int) : Decidable (isCh c) := by unfold isCh; exact inferInstance
theorem name_both (s : ByteArray) (hs : s.size ≤ 4611686018427387904) : ∃ b, Ev (fun k => spec_l1Name.f k s) b ∧ Ev (fun k => impl_isName.f k s) b := by
  have go : ∀ (d i : Nat), s.size - i = d → i ≤ s.size → ∃ b, Ev (fun k => spec_l1Name.l0 k s (i : Int)) b ∧ Ev (fun k => impl_isName.l0 k s (s.size : Int) (i : Int)) b := by
    intro d
    induction d with
    | zero =>
      intro i hd hi
      refine ⟨decide (1 ≤ (s.size : Int)) && decide ((s.size : Int) ≤ 20), ev_now fun k => ?_, ev_now fun k => ?_⟩
      · simp only [spec_l1Name.l0]
        rw [if_neg (by omega), in_s, Option.bind_some]
      · simp only [impl_isName.l0]
        rw [if_neg (by omega), in_i, Option.bind_some]
    | succ d ih =>
      intro i hd hi
      have hlt : i < s.size := by omega
      have hw := wsucc hlt hs
      obtain ⟨b, e1, e2⟩ := ih (i + 1) (by omega) (by omega)
      have hb := bt_range s (i : Int)
      have hwb : wrap64 (bt s (i : Int)) = bt s (i : Int) := w64 (by omega) (by omega)
      have us : ∀ k, spec_l1Name.l0 (k + 1) s (i : Int) = if isCh (bt s (i : Int)) then spec_l1Name.l0 k s ((i + 1 : Nat) : Int) else some false := by
        intro k
        simp only [spec_l1Name.l0, in_s, Option.bind_some, hw, hwb, Bool.and_eq_true, decide_eq_true_eq]
        clear e1 e2 hw hwb ih
        generalize bt s (i : Int) = c at *
        rw [if_pos (by omega), if_pos (by omega)]
        repeat' split
        all_goals first | rfl | (exfalso; simp only [isCh] at *; omega)
      have ui : ∀ k, impl_isName.l0 (k + 1) s (s.size : Int) (i : Int) = if isCh (bt s (i : Int)) then impl_isName.l0 k s (s.size : Int) ((i + 1 : Nat) : Int) else some false := by
        intro k
        simp only [impl_isName.l0, hw]
        clear e1 e2 hw hwb ih
        generalize bt s (i : Int) = c at *
        rw [if_pos (by omega), if_pos (by omega), if_pos (by omega)]
        repeat' split
        all_goals first | rfl | (exfalso; simp only [isCh] at *; omega)
      by_cases h : isCh (bt s (i : Int))
      · exact ⟨b, ev_step e1 fun k => by rw [us, if_pos h], ev_step e2 fun k => by rw [ui, if_pos h]⟩
      · exact ⟨false, ev_now fun k => by rw [us, if_neg h], ev_now fun k => by rw [ui, if_neg h]⟩
  exact go s.size 0 (by omega) (by omega)
theorem find_range (a : ByteArray) : ∀ (l : List S63) (i : Int), impl_ruleAt.find a l i = -1 ∨ (i ≤ impl_ruleAt.find a l i ∧ impl_ruleAt.find a l i < i + l.length)
  | [], i => .inl rfl
  | x :: xs, i => by
    unfold impl_ruleAt.find
    split
    · exact .inr ⟨Int.le_refl _, by rw [List.length_cons]; omega⟩
    · rcases find_range a xs (i + 1) with h | h
      · exact .inl h
      · exact .inr ⟨by omega, by rw [List.length_cons]; omega⟩
theorem find_s (x : List S63) (a : ByteArray) (hn : x.length ≤ 4611686018427387904) : Ev (fun k => spec_l14Find.f k x a) (impl_ruleAt.find a x 0) := by
  have go : ∀ (d i : Nat), x.length - i = d → i ≤ x.length → Ev (fun k => spec_l14Find.l0 k x a (i : Int)) (impl_ruleAt.find a (x.drop i) (i : Int)) := by
    intro d
    induction d with
    | zero =>
      intro i hd hi
      refine ev_now fun k => ?_
      simp only [spec_l14Find.l0]
      rw [if_neg (by omega), List.drop_eq_nil_of_le (by omega)]; rfl
    | succ d ih =>
      intro i hd hi
      have hlt : i < x.length := by omega
      have hw := wsucc hlt hn
      have e := ih (i + 1) (by omega) (by omega)
      rw [List.drop_eq_getElem_cons hlt]
      unfold impl_ruleAt.find
      by_cases h : (x[i]).f0.toList = a.toList
      · rw [if_pos h]
        refine ev_now fun k => ?_
        simp only [spec_l14Find.l0, rd63 x i hlt]
        rw [if_pos (by omega), if_pos (by omega), if_pos h]
      · rw [if_neg h]
        rw [show (i : Int) + 1 = ((i + 1 : Nat) : Int) by omega]
        refine ev_step e fun k => ?_
        simp only [spec_l14Find.l0, rd63 x i hlt, hw]
        clear hw
        rw [if_pos (by omega), if_pos (by omega), if_neg h]
  exact go x.length 0 (by omega) (by omega)
theorem rise_ev (xs : List Int) (hn : xs.length ≤ 4611686018427387904) : ∃ b, Ev (fun k => spec_l1Rise.f k xs) b ∧ (b = true ↔ Rise xs) := by
  obtain ⟨b, _, e⟩ := rise_s xs (xs.length + 1) hn (by omega)
  refine ⟨b, ⟨xs.length + 1, fun k hk => ?_⟩, e⟩
  obtain ⟨b', h', e'⟩ := rise_s xs k hn (by omega)
  rw [show b = b' by rw [Bool.eq_iff_iff]; exact e.trans e'.symm]; exact h'
theorem all_ev (xs : List Int) (lo hi : Int) (hn : xs.length ≤ 4611686018427387904) : ∃ b, Ev (fun k => spec_l1All.f k xs lo hi) b ∧ (b = true ↔ All xs lo hi) := by
  obtain ⟨b, _, e⟩ := all_s xs lo hi (xs.length + 1) hn (by omega)
  refine ⟨b, ⟨xs.length + 1, fun k hk => ?_⟩, e⟩
  obtain ⟨b', h', e'⟩ := all_s xs lo hi k hn (by omega)
  rw [show b = b' by rw [Bool.eq_iff_iff]; exact e.trans e'.symm]; exact h'
theorem ascends_ev (xs : List Int) (lo hi : Int) (hn : xs.length ≤ 4611686018427387904) : ∃ b, Ev (fun k => impl_ascends.f k xs lo hi) b ∧ (b = true ↔ Rise xs ∧ All xs lo hi) := by
  obtain ⟨b, _, e⟩ := ascends_i xs lo hi (xs.length + 1) hn (by omega)
  refine ⟨b, ⟨xs.length + 1, fun k hk => ?_⟩, e⟩
  obtain ⟨b', h', e'⟩ := ascends_i xs lo hi k hn (by omega)
  rw [show b = b' by rw [Bool.eq_iff_iff]; exact e.trans e'.symm]; exact h'
/-- A list of rules whose parts are not too long. -/
def Fit (x : List S63) : Prop := x.length ≤ 1048576 ∧ ∀ r ∈ x, r.f2.length ≤ 1048576 ∧ r.f0.size ≤ 1048576 ∧ r.f4.size ≤ 1048576
/-- A rule's name is above the one ahead. -/
def Above (x : List S63) (j : Nat) : Prop := Op.bytesLess (rd_T63 x ((j - 1 : Nat) : Int)).f0.toList (rd_T63 x (j : Int)).f0.toList = true
section
variable (x : List S63) (hx : Fit x)
include hx
theorem needs_both (i : Nat) (hi : i < x.length) (bn : Bool) (n1 : Ev (fun k => spec_RulesOk.l0 k x ((i + 1 : Nat) : Int)) bn) (n2 : Ev (fun k => impl_RulesOk.l0 k x x (x.length : Int) ((i + 1 : Nat) : Int)) bn) (q : Bool) (f0 : ByteArray) (f1 : Int) (f2 : List Int) (f3 : Bool) (f4 : ByteArray) : ∃ b, (Ev (fun k => spec_RulesOk.j1 k x (i : Int) q f0 f1 f2 f3 f4) b ∧ Ev (fun k => impl_RulesOk.j1 k x (i : Int) x (x.length : Int) (i : Int) q f0 f1 f2 f3 f4) b) ∧ (b = true → bn = true) := by
  have hw := wsucc hi (show x.length ≤ 4611686018427387904 from Nat.le_trans hx.1 (by omega))
  cases q
  · by_cases h4 : f4.toList = ([] : List UInt8)
    · refine ⟨bn, ⟨ev_step n1 fun k => ?_, ev_step n2 fun k => ?_⟩, fun g => g⟩
      · simp only [spec_RulesOk.j1, Bool.false_eq_true, if_false, if_pos h4, hw]
      · simp only [impl_RulesOk.j1, Bool.false_eq_true, if_false, if_pos h4, hw]
    · have ef := find_s x f4 (Nat.le_trans hx.1 (by omega))
      have fr := find_range f4 x 0
      have fi : impl_ruleAt.f x f4 = some (impl_ruleAt.find f4 x 0) := rfl
      generalize impl_ruleAt.find f4 x 0 = t at *
      have un : ∀ k, impl_RulesOk.j1 (k + 1) x (i : Int) x (x.length : Int) (i : Int) false f0 f1 f2 f3 f4 = if t < 0 then (some false) else (if t = (i : Int) then (some false) else (if 0 ≤ t then (if t < (x.length : Int) then (if ((rd_T63 x t).f4).toList = ([] : List UInt8) then (impl_RulesOk.l0 k x x (x.length : Int) ((i + 1 : Nat) : Int)) else (some false)) else (none)) else (none))) := by
        intro k
        simp only [impl_RulesOk.j1, Bool.false_eq_true, if_false, if_neg h4, fi, Option.bind_some, hw]
      have us : ∀ k, spec_RulesOk.j1 (k + 1) x (i : Int) false f0 f1 f2 f3 f4 = (spec_l14Find.f k x f4).bind fun t124 => (if t124 < 0 then (some false) else (if t124 = (i : Int) then (some false) else (if 0 ≤ t124 then (if t124 < (x.length : Int) then (if ((rd_T63 x t124).f4).toList = ([] : List UInt8) then (spec_RulesOk.l0 k x ((i + 1 : Nat) : Int)) else (some false)) else (none)) else (none)))) := by
        intro k
        simp only [spec_RulesOk.j1, Bool.false_eq_true, if_false, if_neg h4, hw]
      have sb : ∀ b, Ev (fun k => if t < 0 then (some false) else (if t = (i : Int) then (some false) else (if 0 ≤ t then (if t < (x.length : Int) then (if ((rd_T63 x t).f4).toList = ([] : List UInt8) then (spec_RulesOk.l0 k x ((i + 1 : Nat) : Int)) else (some false)) else (none)) else (none)))) b → Ev (fun k => spec_RulesOk.j1 k x (i : Int) false f0 f1 f2 f3 f4) b := fun b h => ev_step (ev_bind (F := fun k => spec_l14Find.f k x f4) (G := fun k t124 => (if t124 < 0 then (some false) else (if t124 = (i : Int) then (some false) else (if 0 ≤ t124 then (if t124 < (x.length : Int) then (if ((rd_T63 x t124).f4).toList = ([] : List UInt8) then (spec_RulesOk.l0 k x ((i + 1 : Nat) : Int)) else (some false)) else (none)) else (none))))) ef h) us
      by_cases h0 : t < 0
      · exact ⟨false, ⟨sb _ (by simp only [if_pos h0]; exact ev_const rfl), ev_now fun k => by rw [un, if_pos h0]⟩, fun g => absurd g Bool.false_ne_true⟩
      · by_cases h1 : t = (i : Int)
        · exact ⟨false, ⟨sb _ (by simp only [if_neg h0, if_pos h1]; exact ev_const rfl), ev_now fun k => by rw [un, if_neg h0, if_pos h1]⟩, fun g => absurd g Bool.false_ne_true⟩
        · have h2 : 0 ≤ t := by omega
          have h3 : t < (x.length : Int) := by omega
          by_cases h5 : ((rd_T63 x t).f4).toList = ([] : List UInt8)
          · exact ⟨bn, ⟨sb _ (by simp only [if_neg h0, if_neg h1, if_pos h2, if_pos h3, if_pos h5]; exact n1), ev_step n2 fun k => by rw [un, if_neg h0, if_neg h1, if_pos h2, if_pos h3, if_pos h5]⟩, fun g => g⟩
          · exact ⟨false, ⟨sb _ (by simp only [if_neg h0, if_neg h1, if_pos h2, if_pos h3, if_neg h5]; exact ev_const rfl), ev_now fun k => by rw [un, if_neg h0, if_neg h1, if_pos h2, if_pos h3, if_neg h5]⟩, fun g => absurd g Bool.false_ne_true⟩
  · refine ⟨false, ⟨ev_now fun k => ?_, ev_now fun k => ?_⟩, fun g => absurd g Bool.false_ne_true⟩
    · simp only [spec_RulesOk.j1, if_true]
    · simp only [impl_RulesOk.j1, if_true]
theorem rules_l : ∀ (d i : Nat), x.length - i = d → i ≤ x.length → ∃ b, (Ev (fun k => spec_RulesOk.l0 k x (i : Int)) b ∧ Ev (fun k => impl_RulesOk.l0 k x x (x.length : Int) (i : Int)) b) ∧ (b = true → ∀ j : Nat, i ≤ j → 1 ≤ j → j < x.length → Above x j) := by
  have hx1 := hx.1
  intro d
  induction d with
  | zero =>
    intro i hd hi
    refine ⟨decide ((x.length : Int) ≤ 30), ⟨ev_now fun k => ?_, ev_now fun k => ?_⟩, fun _ j h1 _ h2 => by omega⟩
    · simp only [spec_RulesOk.l0]; rw [if_neg (by omega)]
    · simp only [impl_RulesOk.l0]; rw [if_neg (by omega)]
  | succ d ih =>
    intro i hd hi
    have hlt : i < x.length := by omega
    obtain ⟨bn, ⟨n1, n2⟩, na⟩ := ih (i + 1) (by omega) (by omega)
    obtain ⟨l2, l0, _⟩ := hx.2 _ (List.getElem_mem hlt)
    have nb := needs_both x hx i hlt bn n1 n2
    obtain ⟨nm, e1, e2⟩ := name_both (x[i]).f0 (by omega)
    obtain ⟨rb, r1, r2⟩ := rise_ev (x[i]).f2 (by omega)
    obtain ⟨ab, a1, a2⟩ := all_ev (x[i]).f2 0 9 (by omega)
    obtain ⟨cb, c1, c2⟩ := ascends_ev (x[i]).f2 0 9 (by omega)
    have hcb : cb = (rb && ab) := by rw [Bool.eq_iff_iff, c2, Bool.and_eq_true, r2, a2]
    have tf : ∀ b, (Ev (fun k => spec_RulesOk.j1 k x (i : Int) true (x[i]).f0 (x[i]).f1 (x[i]).f2 (x[i]).f3 (x[i]).f4) b ∧ Ev (fun k => impl_RulesOk.j1 k x (i : Int) x (x.length : Int) (i : Int) true (x[i]).f0 (x[i]).f1 (x[i]).f2 (x[i]).f3 (x[i]).f4) b) → ¬ b = true := by
      intro b ⟨⟨K, h⟩, _⟩ e
      have h := h (K + 1) (by omega)
      subst e
      simp only [spec_RulesOk.j1, if_true] at h
      cases h
    obtain ⟨bT, ⟨t1, t2⟩, ta⟩ := nb true (x[i]).f0 (x[i]).f1 (x[i]).f2 (x[i]).f3 (x[i]).f4
    obtain ⟨bR, ⟨q1, q2⟩, qa⟩ := nb (!cb) (x[i]).f0 (x[i]).f1 (x[i]).f2 (x[i]).f3 (x[i]).f4
    have mid : ∃ b, (Ev (fun k => ((spec_l1In.f (x[i]).f1 1 3).bind fun t118 => (if t118 = true then ((spec_l1Rise.f k (x[i]).f2).bind fun t119 => (if t119 = true then ((spec_l1All.f k (x[i]).f2 0 9).bind fun t120 => (spec_RulesOk.j1 k x (i : Int) (!t120) (x[i]).f0 (x[i]).f1 (x[i]).f2 (x[i]).f3 (x[i]).f4)) else (spec_RulesOk.j1 k x (i : Int) true (x[i]).f0 (x[i]).f1 (x[i]).f2 (x[i]).f3 (x[i]).f4))) else (spec_RulesOk.j1 k x (i : Int) true (x[i]).f0 (x[i]).f1 (x[i]).f2 (x[i]).f3 (x[i]).f4)))) b ∧ Ev (fun k => ((impl_in.f (x[i]).f1 1 3).bind fun t157 => (if t157 = true then ((impl_ascends.f k (x[i]).f2 0 9).bind fun t158 => (impl_RulesOk.j1 k x (i : Int) x (x.length : Int) (i : Int) (!t158) (x[i]).f0 (x[i]).f1 (x[i]).f2 (x[i]).f3 (x[i]).f4)) else (impl_RulesOk.j1 k x (i : Int) x (x.length : Int) (i : Int) true (x[i]).f0 (x[i]).f1 (x[i]).f2 (x[i]).f3 (x[i]).f4)))) b) ∧ (b = true → bn = true) := by
      simp only [in_s, in_i, Option.bind_some]
      cases hr : (decide (1 ≤ (x[i]).f1) && decide ((x[i]).f1 ≤ 3))
      · simp only [Bool.false_eq_true, if_false]
        exact ⟨bT, ⟨t1, t2⟩, ta⟩
      · simp only [if_true]
        refine ⟨bR, ⟨ev_bind (F := fun k => spec_l1Rise.f k (x[i]).f2) (G := fun k t119 => (if t119 = true then ((spec_l1All.f k (x[i]).f2 0 9).bind fun t120 => (spec_RulesOk.j1 k x (i : Int) (!t120) (x[i]).f0 (x[i]).f1 (x[i]).f2 (x[i]).f3 (x[i]).f4)) else (spec_RulesOk.j1 k x (i : Int) true (x[i]).f0 (x[i]).f1 (x[i]).f2 (x[i]).f3 (x[i]).f4))) r1 ?_, ev_bind (F := fun k => impl_ascends.f k (x[i]).f2 0 9) (G := fun k t158 => (impl_RulesOk.j1 k x (i : Int) x (x.length : Int) (i : Int) (!t158) (x[i]).f0 (x[i]).f1 (x[i]).f2 (x[i]).f3 (x[i]).f4)) c1 q2⟩, qa⟩
        cases rb
        · simp only [Bool.false_eq_true, if_false]
          rw [hcb] at q1
          exact q1
        · simp only [if_true]
          refine ev_bind (F := fun k => spec_l1All.f k (x[i]).f2 0 9) (G := fun k t120 => (spec_RulesOk.j1 k x (i : Int) (!t120) (x[i]).f0 (x[i]).f1 (x[i]).f2 (x[i]).f3 (x[i]).f4)) a1 ?_
          rw [hcb, Bool.true_and] at q1
          exact q1
    obtain ⟨bM, ⟨m1, m2⟩, ma⟩ := mid
    clear r1 a1 c1 q1 q2 hcb
    have us : ∀ k, spec_RulesOk.l0 (k + 1) x (i : Int) = (spec_l1Name.f k (x[i]).f0).bind fun t116 => (if t116 = true then (if (i : Int) > 0 then (if ((Op.bytesLess (((rd_T63 x (wrap64 ((i : Int) - 1))).f0).toList) (((x[i]).f0).toList)) = true) then ((spec_l1In.f (x[i]).f1 1 3).bind fun t118 => (if t118 = true then ((spec_l1Rise.f k (x[i]).f2).bind fun t119 => (if t119 = true then ((spec_l1All.f k (x[i]).f2 0 9).bind fun t120 => (spec_RulesOk.j1 k x (i : Int) (!t120) (x[i]).f0 (x[i]).f1 (x[i]).f2 (x[i]).f3 (x[i]).f4)) else (spec_RulesOk.j1 k x (i : Int) true (x[i]).f0 (x[i]).f1 (x[i]).f2 (x[i]).f3 (x[i]).f4))) else (spec_RulesOk.j1 k x (i : Int) true (x[i]).f0 (x[i]).f1 (x[i]).f2 (x[i]).f3 (x[i]).f4))) else (spec_RulesOk.j1 k x (i : Int) true (x[i]).f0 (x[i]).f1 (x[i]).f2 (x[i]).f3 (x[i]).f4)) else ((spec_l1In.f (x[i]).f1 1 3).bind fun t118 => (if t118 = true then ((spec_l1Rise.f k (x[i]).f2).bind fun t119 => (if t119 = true then ((spec_l1All.f k (x[i]).f2 0 9).bind fun t120 => (spec_RulesOk.j1 k x (i : Int) (!t120) (x[i]).f0 (x[i]).f1 (x[i]).f2 (x[i]).f3 (x[i]).f4)) else (spec_RulesOk.j1 k x (i : Int) true (x[i]).f0 (x[i]).f1 (x[i]).f2 (x[i]).f3 (x[i]).f4))) else (spec_RulesOk.j1 k x (i : Int) true (x[i]).f0 (x[i]).f1 (x[i]).f2 (x[i]).f3 (x[i]).f4)))) else (spec_RulesOk.j1 k x (i : Int) true (x[i]).f0 (x[i]).f1 (x[i]).f2 (x[i]).f3 (x[i]).f4)) := by
      intro k
      clear na ta qa ma tf nb t1 t2 m1 m2 e1 e2 c2 a2 r2 n1 n2 ih
      simp only [spec_RulesOk.l0, rd63 x i hlt]
      rw [if_pos (by omega), if_pos (by omega)]
      by_cases h0 : (i : Int) > 0
      · have hm : 0 ≤ wrap64 ((i : Int) - 1) ∧ wrap64 ((i : Int) - 1) < (x.length : Int) := by rw [w64 (by omega) (by omega)]; omega
        simp only [if_pos h0, if_pos hm.1, if_pos hm.2]
      · simp only [if_neg h0]
    have ui : ∀ k, impl_RulesOk.l0 (k + 1) x x (x.length : Int) (i : Int) = (impl_isName.f k (x[i]).f0).bind fun t155 => (if t155 = true then (if (i : Int) > 0 then (if ((Op.bytesLess (((rd_T63 x (wrap64 ((i : Int) - 1))).f0).toList) (((x[i]).f0).toList)) = true) then ((impl_in.f (x[i]).f1 1 3).bind fun t157 => (if t157 = true then ((impl_ascends.f k (x[i]).f2 0 9).bind fun t158 => (impl_RulesOk.j1 k x (i : Int) x (x.length : Int) (i : Int) (!t158) (x[i]).f0 (x[i]).f1 (x[i]).f2 (x[i]).f3 (x[i]).f4)) else (impl_RulesOk.j1 k x (i : Int) x (x.length : Int) (i : Int) true (x[i]).f0 (x[i]).f1 (x[i]).f2 (x[i]).f3 (x[i]).f4))) else (impl_RulesOk.j1 k x (i : Int) x (x.length : Int) (i : Int) true (x[i]).f0 (x[i]).f1 (x[i]).f2 (x[i]).f3 (x[i]).f4)) else ((impl_in.f (x[i]).f1 1 3).bind fun t157 => (if t157 = true then ((impl_ascends.f k (x[i]).f2 0 9).bind fun t158 => (impl_RulesOk.j1 k x (i : Int) x (x.length : Int) (i : Int) (!t158) (x[i]).f0 (x[i]).f1 (x[i]).f2 (x[i]).f3 (x[i]).f4)) else (impl_RulesOk.j1 k x (i : Int) x (x.length : Int) (i : Int) true (x[i]).f0 (x[i]).f1 (x[i]).f2 (x[i]).f3 (x[i]).f4)))) else (impl_RulesOk.j1 k x (i : Int) x (x.length : Int) (i : Int) true (x[i]).f0 (x[i]).f1 (x[i]).f2 (x[i]).f3 (x[i]).f4)) := by
      intro k
      clear na ta qa ma tf nb t1 t2 m1 m2 e1 e2 c2 a2 r2 n1 n2 ih us
      simp only [impl_RulesOk.l0, rd63 x i hlt]
      rw [if_pos (by omega), if_pos (by omega), if_pos (by omega)]
      by_cases h0 : (i : Int) > 0
      · have hm : 0 ≤ wrap64 ((i : Int) - 1) ∧ wrap64 ((i : Int) - 1) < (x.length : Int) := by rw [w64 (by omega) (by omega)]; omega
        simp only [if_pos h0, if_pos hm.1, if_pos hm.2]
      · simp only [if_neg h0]
    cases nm
    · refine ⟨bT, ⟨ev_step (ev_bind (F := fun k => spec_l1Name.f k (x[i]).f0) e1 ?_) us, ev_step (ev_bind (F := fun k => impl_isName.f k (x[i]).f0) e2 ?_) ui⟩, fun g => absurd g (tf _ ⟨t1, t2⟩)⟩
      · simp only [Bool.false_eq_true, if_false]; exact t1
      · simp only [Bool.false_eq_true, if_false]; exact t2
    · by_cases h0 : (i : Int) > 0
      · by_cases hb : (Op.bytesLess (((rd_T63 x (wrap64 ((i : Int) - 1))).f0).toList) (((x[i]).f0).toList)) = true
        · have ab : Above x i := by
            clear us ui
            unfold Above
            rw [rd63 x i hlt, ← wpred hlt (show x.length ≤ 4611686018427387904 from Nat.le_trans hx1 (by omega)) h0]
            exact hb
          refine ⟨bM, ⟨ev_step (ev_bind (F := fun k => spec_l1Name.f k (x[i]).f0) e1 ?_) us, ev_step (ev_bind (F := fun k => impl_isName.f k (x[i]).f0) e2 ?_) ui⟩, fun g j h1 h2 h3 => ?_⟩
          · simp only [if_true, if_pos h0, if_pos hb]; exact m1
          · simp only [if_true, if_pos h0, if_pos hb]; exact m2
          · by_cases e : j = i
            · rw [e]
              exact ab
            · exact na (ma g) j (Nat.lt_of_le_of_ne h1 (fun q => e q.symm)) h2 h3
        · refine ⟨bT, ⟨ev_step (ev_bind (F := fun k => spec_l1Name.f k (x[i]).f0) e1 ?_) us, ev_step (ev_bind (F := fun k => impl_isName.f k (x[i]).f0) e2 ?_) ui⟩, fun g => absurd g (tf _ ⟨t1, t2⟩)⟩
          · simp only [if_true, if_pos h0, if_neg hb]; exact t1
          · simp only [if_true, if_pos h0, if_neg hb]; exact t2
      · refine ⟨bM, ⟨ev_step (ev_bind (F := fun k => spec_l1Name.f k (x[i]).f0) e1 ?_) us, ev_step (ev_bind (F := fun k => impl_isName.f k (x[i]).f0) e2 ?_) ui⟩, fun g j h1 h2 h3 => na (ma g) j (Nat.lt_of_le_of_ne h1 (fun q => by subst q; exact h0 (Int.ofNat_lt.2 h2))) h2 h3⟩
        · simp only [if_true, if_neg h0]; exact m1
        · simp only [if_true, if_neg h0]; exact m2
theorem rules_asc : ∃ b, (Ev (fun k => spec_RulesOk.f k x) b ∧ Ev (fun k => impl_RulesOk.f k x) b) ∧ (b = true → ∀ j : Nat, 1 ≤ j → j < x.length → Above x j) := by
  obtain ⟨b, h, g⟩ := rules_l x hx x.length 0 (by omega) (by omega)
  exact ⟨b, h, fun e j h1 h2 => g e j (Nat.zero_le _) h1 h2⟩
theorem rules_both : ∃ b, Ev (fun k => spec_RulesOk.f k x) b ∧ Ev (fun k => impl_RulesOk.f k x) b := by
  obtain ⟨b, h, _⟩ := rules_asc x hx
  exact ⟨b, h⟩
end
def conv (x : S62) : S63 := ⟨x.f0, x.f1, x.f2, x.f3, x.f4⟩
/-- What is asked of a rule that is not too long. -/
def Ok1 (x : S62) : Prop := x.f2.length ≤ 1048576 ∧ x.f0.size ≤ 1048576 ∧ x.f4.size ≤ 1048576
theorem sz_one (x : S62) (left : Int) (h0 : 0 ≤ left) (h1 : left ≤ 1048576) (hk : ok62 x) : ∃ v, laws_szWarnRule.f x.f0 x.f1 x.f2 x.f3 x.f4 left = some v ∧ (v < 0 ∨ (0 ≤ v ∧ v ≤ 1048576 ∧ Ok1 x)) := by
  obtain ⟨k0, _, ⟨k2, _⟩, _, k4⟩ := hk
  have k0 : x.f0.size ≤ 9223372036854775807 := k0
  have k2 : x.f2.length ≤ 9223372036854775807 := k2
  have k4 : x.f4.size ≤ 9223372036854775807 := k4
  unfold laws_szWarnRule.f laws_szIntS.f
  rw [w64 (a := left - (x.f0.size : Int)) (by omega) (by omega)]
  by_cases c0 : left - (x.f0.size : Int) < 0
  · rw [if_pos c0]; exact ⟨-1, rfl, .inl (by omega)⟩
  · rw [if_neg c0, w64 (a := left - (x.f0.size : Int) - (x.f2.length : Int)) (by omega) (by omega)]
    by_cases c1 : left - (x.f0.size : Int) - (x.f2.length : Int) < 0
    · rw [if_pos c1, Option.bind_some, if_pos (by omega)]; exact ⟨-1, rfl, .inl (by omega)⟩
    · rw [if_neg c1, Option.bind_some, if_neg c1, w64 (a := left - (x.f0.size : Int) - (x.f2.length : Int) - (x.f4.size : Int)) (by omega) (by omega)]
      by_cases c2 : left - (x.f0.size : Int) - (x.f2.length : Int) - (x.f4.size : Int) < 0
      · rw [if_pos c2]; exact ⟨-1, rfl, .inl (by omega)⟩
      · rw [if_neg c2]; exact ⟨_, rfl, .inr ⟨by omega, by omega, by omega, by omega, by omega⟩⟩
theorem sz_rules (l : List S62) (hl : l.length ≤ maxLen) (hk : ∀ x ∈ l, ok62 x) : ∃ v, Ev (fun k => laws_szWarnRuleS.f k l 1048576) v ∧ (v < 0 ∨ (0 ≤ v ∧ v ≤ 1048576 ∧ l.length ≤ 1048576 ∧ ∀ x ∈ l, Ok1 x)) := by
  have hl : l.length ≤ 9223372036854775807 := hl
  unfold laws_szWarnRuleS.f
  rw [w64 (a := 1048576 - (l.length : Int)) (by omega) (by omega)]
  by_cases c : 1048576 - (l.length : Int) < 0
  · simp only [if_pos c]; exact ⟨-1, ev_const rfl, .inl (by omega)⟩
  · simp only [if_neg c]
    have go : ∀ (d i : Nat) (left : Int), l.length - i = d → i ≤ l.length → 0 ≤ left → left ≤ 1048576 → ∃ v, Ev (fun k => laws_szWarnRuleS.l0 k l left (i : Int)) v ∧ (v < 0 ∨ (0 ≤ v ∧ v ≤ 1048576 ∧ ∀ x ∈ l.drop i, Ok1 x)) := by
      intro d
      induction d with
      | zero =>
        intro i left hd hi h0 h1
        refine ⟨left, ev_now fun k => ?_, .inr ⟨h0, h1, fun x hx => ?_⟩⟩
        · simp only [laws_szWarnRuleS.l0]; rw [if_neg (by omega)]
        · rw [List.drop_eq_nil_of_le (by omega)] at hx; cases hx
      | succ d ih =>
        intro i left hd hi h0 h1
        have hlt : i < l.length := by omega
        have hw := wsucc hlt (show l.length ≤ 4611686018427387904 by omega)
        obtain ⟨v, hv, o⟩ := sz_one l[i] left h0 h1 (hk _ (List.getElem_mem hlt))
        have un : ∀ k, laws_szWarnRuleS.l0 (k + 1) l left (i : Int) = if v < 0 then some (-1) else laws_szWarnRuleS.l0 k l v ((i + 1 : Nat) : Int) := by
          intro k
          simp only [laws_szWarnRuleS.l0, rd62 l i hlt, hv, Option.bind_some, hw]
          clear hw
          rw [if_pos (by omega), if_pos (by omega)]
        by_cases cv : v < 0
        · exact ⟨-1, ev_now fun k => by rw [un, if_pos cv], .inl (by omega)⟩
        · rcases o with o | ⟨o1, o2, o3⟩
          · exact absurd o cv
          · obtain ⟨t, ht, ot⟩ := ih (i + 1) v (by omega) (by omega) o1 o2
            refine ⟨t, ev_step ht fun k => by rw [un, if_neg cv], ?_⟩
            rcases ot with ot | ⟨p1, p2, p3⟩
            · exact .inl ot
            · refine .inr ⟨p1, p2, fun x hx => ?_⟩
              rw [List.drop_eq_getElem_cons hlt] at hx
              rcases List.mem_cons.1 hx with rfl | hx
              · exact o3
              · exact p3 x hx
    obtain ⟨v, hv, o⟩ := go l.length 0 (1048576 - (l.length : Int)) (by omega) (by omega) (by omega) (by omega)
    refine ⟨v, hv, ?_⟩
    rcases o with o | ⟨p1, p2, p3⟩
    · exact .inl o
    · exact .inr ⟨p1, p2, by omega, fun x hx => p3 x (by rwa [List.drop_zero])⟩
theorem fit_conv {l : List S62} (hl : l.length ≤ 1048576) (hk : ∀ x ∈ l, Ok1 x) : Fit (l.map conv) := by
  refine ⟨by rwa [List.length_map], fun r hr => ?_⟩
  obtain ⟨x, hx, rfl⟩ := List.mem_map.1 hr
  obtain ⟨a, b, c⟩ := hk x hx
  exact ⟨a, b, c⟩
theorem to_rules (l : List S62) (hl : l.length ≤ 1048576) (hk : ∀ x ∈ l, Ok1 x) : Ev (fun k => laws_toWarnRuleS.f k l) (l.map conv) := by
  have go : ∀ (d i : Nat) (x3 : List S63), l.length - i = d → i ≤ l.length → x3.length = l.length → (∀ j, j < i → x3[j]? = (l.map conv)[j]?) → Ev (fun k => laws_toWarnRuleS.l0 k l x3 (i : Int)) (l.map conv) := by
    intro d
    induction d with
    | zero =>
      intro i x3 hd hi hl3 hj
      refine ev_now fun k => ?_
      simp only [laws_toWarnRuleS.l0]
      rw [if_neg (by omega)]
      congr 1
      apply List.ext_getElem?
      intro j
      by_cases h : j < i
      · exact hj j h
      · rw [List.getElem?_eq_none (by omega), List.getElem?_eq_none (by rw [List.length_map]; omega)]
    | succ d ih =>
      intro i x3 hd hi hl3 hj
      have hlt : i < l.length := by omega
      have hw := wsucc hlt (show l.length ≤ 4611686018427387904 by omega)
      have hq := (hk _ (List.getElem_mem hlt)).1
      have e := ih (i + 1) (x3.set i (conv l[i])) (by omega) (by omega) (by rwa [List.length_set]) (fun j hj' => by
        by_cases e : j = i
        · subst e
          rw [List.getElem?_set_self (by omega), List.getElem?_map, List.getElem?_eq_getElem hlt]; rfl
        · rw [List.getElem?_set_ne (fun h => e h.symm)]
          exact hj j (by omega))
      have et : Ev (fun k => laws_toWarnRule.f k (l[i]).f0 (l[i]).f1 (l[i]).f2 (l[i]).f3 (l[i]).f4) ((l[i]).f0, (l[i]).f1, (l[i]).f2, (l[i]).f3, (l[i]).f4) := by
        unfold laws_toWarnRule.f
        exact ev_bind (F := fun k => laws_toIntS.f k (l[i]).f2) ⟨(l[i]).f2.length + 1, fun k hk' => laws_toIntS_eq _ k (by omega) (by omega)⟩ (ev_const rfl)
      refine ev_step (ev_bind (F := fun k => laws_toWarnRule.f k (l[i]).f0 (l[i]).f1 (l[i]).f2 (l[i]).f3 (l[i]).f4) (G := fun k bt141 => (if (i : Int) < (x3.length : Int) then (laws_toWarnRuleS.l0 k l (x3.set i (⟨bt141.1, bt141.2.1, bt141.2.2.1, bt141.2.2.2.1, bt141.2.2.2.2⟩ : S63)) ((i + 1 : Nat) : Int)) else (none))) et ?_) fun k => ?_
      · simp only [if_pos (show (i : Int) < (x3.length : Int) by omega)]; exact e
      · simp only [laws_toWarnRuleS.l0, rd62 l i hlt, hw, Int.toNat_natCast]
        clear hw
        rw [if_pos (by omega), if_pos (by omega)]
  unfold laws_toWarnRuleS.f
  simp only [if_pos (show (0 : Int) ≤ (l.length : Int) by omega), Int.toNat_natCast, if_pos (show l.length ≤ 3909374676536 by omega)]
  exact go l.length 0 _ (by omega) (by omega) (by rw [List.length_replicate]) (fun j hj => by omega)
theorem eq_rules (x : List S63) (hx : Fit x) : Ev (fun k => laws_eqWarnRuleS.f k x x) true := by
  have hx1 := hx.1
  have go : ∀ (d i : Nat), x.length - i = d → i ≤ x.length → Ev (fun k => laws_eqWarnRuleS.l0 k x x (i : Int)) true := by
    intro d
    induction d with
    | zero =>
      intro i hd hi
      refine ev_now fun k => ?_
      simp only [laws_eqWarnRuleS.l0]; rw [if_neg (by omega)]
    | succ d ih =>
      intro i hd hi
      have hlt : i < x.length := by omega
      have hw := wsucc hlt (show x.length ≤ 4611686018427387904 by omega)
      obtain ⟨hq, _⟩ := hx.2 _ (List.getElem_mem hlt)
      have et : Ev (fun k => laws_eqWarnRule.f k (x[i]).f0 (x[i]).f1 (x[i]).f2 (x[i]).f3 (x[i]).f4 (x[i]).f0 (x[i]).f1 (x[i]).f2 (x[i]).f3 (x[i]).f4) true := by
        unfold laws_eqWarnRule.f
        simp only [if_true, bne_self_eq_false, Bool.false_eq_true, if_false]
        exact ev_bind (F := fun k => laws_eqIntS.f k (x[i]).f2 (x[i]).f2) ⟨(x[i]).f2.length + 1, fun k hk' => laws_eqIntS_eq _ k (by omega) (by omega)⟩ (by simp only [if_true]; exact ev_const rfl)
      refine ev_step (ev_bind (F := fun k => laws_eqWarnRule.f k (x[i]).f0 (x[i]).f1 (x[i]).f2 (x[i]).f3 (x[i]).f4 (x[i]).f0 (x[i]).f1 (x[i]).f2 (x[i]).f3 (x[i]).f4) (G := fun k t170 => (if t170 = true then (laws_eqWarnRuleS.l0 k x x ((i + 1 : Nat) : Int)) else (some false))) et ?_) fun k => ?_
      · simp only [if_true]; exact ih (i + 1) (by omega) (by omega)
      · simp only [laws_eqWarnRuleS.l0, rd63 x i hlt, hw]
        clear hw
        rw [if_pos (by omega), if_pos (by omega), if_pos (by omega)]
  unfold laws_eqWarnRuleS.f
  simp only [if_true]
  exact go x.length 0 (by omega) (by omega)
theorem rdB (l : List ByteArray) (i : Nat) (h : i < l.length) : rdOf ByteArray.empty l (i : Int) = l[i] := by
  show l.getD (i : Int).toNat ByteArray.empty = _
  rw [Int.toNat_natCast, List.getD_eq_getElem?_getD, List.getElem?_eq_getElem h]; rfl
theorem sz_strs (l : List ByteArray) (a : Int) (hl : l.length ≤ maxLen) (hk : ∀ x ∈ l, x.size ≤ maxLen) (a0 : 0 ≤ a) (a1 : a ≤ 1048576) : ∃ v, Ev (fun k => laws_szStringS.f k l a) v ∧ (v < 0 ∨ (0 ≤ v ∧ v ≤ 1048576 ∧ l.length ≤ 1048576 ∧ ∀ x ∈ l, x.size ≤ 1048576)) := by
  have hl : l.length ≤ 9223372036854775807 := hl
  unfold laws_szStringS.f
  rw [w64 (a := a - (l.length : Int)) (by omega) (by omega)]
  by_cases c : a - (l.length : Int) < 0
  · simp only [if_pos c]; exact ⟨-1, ev_const rfl, .inl (by omega)⟩
  · simp only [if_neg c]
    have go : ∀ (d i : Nat) (left : Int), l.length - i = d → i ≤ l.length → 0 ≤ left → left ≤ 1048576 → ∃ v, Ev (fun k => laws_szStringS.l0 k l left (i : Int)) v ∧ (v < 0 ∨ (0 ≤ v ∧ v ≤ 1048576 ∧ ∀ x ∈ l.drop i, x.size ≤ 1048576)) := by
      intro d
      induction d with
      | zero =>
        intro i left hd hi h0 h1
        refine ⟨left, ev_now fun k => ?_, .inr ⟨h0, h1, fun x hx => ?_⟩⟩
        · simp only [laws_szStringS.l0]; rw [if_neg (by omega)]
        · rw [List.drop_eq_nil_of_le (by omega)] at hx; cases hx
      | succ d ih =>
        intro i left hd hi h0 h1
        have hlt : i < l.length := by omega
        have hs : (l[i]).size ≤ 9223372036854775807 := hk _ (List.getElem_mem hlt)
        have ws : wrap64 (left - ((l[i]).size : Int)) = left - ((l[i]).size : Int) := w64 (by omega) (by omega)
        have hw := wsucc hlt (show l.length ≤ 4611686018427387904 by omega)
        have un : ∀ k, laws_szStringS.l0 (k + 1) l left (i : Int) = if left - ((l[i]).size : Int) < 0 then some (-1) else laws_szStringS.l0 k l (left - ((l[i]).size : Int)) ((i + 1 : Nat) : Int) := by
          intro k
          simp only [laws_szStringS.l0, rdB l i hlt, ws, hw]
          clear hw ws
          rw [if_pos (by omega), if_pos (by omega)]
        clear ws hw
        by_cases cv : left - ((l[i]).size : Int) < 0
        · exact ⟨-1, ev_now fun k => by rw [un, if_pos cv], .inl (by omega)⟩
        · obtain ⟨t, ht, ot⟩ := ih (i + 1) (left - ((l[i]).size : Int)) (by omega) (by omega) (by omega) (by omega)
          refine ⟨t, ev_step ht fun k => by rw [un, if_neg cv], ?_⟩
          rcases ot with ot | ⟨p1, p2, p3⟩
          · exact .inl ot
          · refine .inr ⟨p1, p2, fun x hx => ?_⟩
            rw [List.drop_eq_getElem_cons hlt] at hx
            rcases List.mem_cons.1 hx with rfl | hx
            · omega
            · exact p3 x hx
    obtain ⟨v, hv, o⟩ := go l.length 0 (a - (l.length : Int)) (by omega) (by omega) (by omega) (by omega)
    refine ⟨v, hv, ?_⟩
    rcases o with o | ⟨p1, p2, p3⟩
    · exact .inl o
    · exact .inr ⟨p1, p2, by omega, fun x hx => p3 x (by rwa [List.drop_zero])⟩
/-- Is a name among the names? -/
def hasT (l : List ByteArray) (a : ByteArray) : Bool := l.any fun t => decide (a.toList = t.toList)
theorem contains_i (l : List ByteArray) (a : ByteArray) (hl : l.length ≤ 4611686018427387904) : Ev (fun k => slices_Contains_string_string.f k l a) (hasT l a) := by
  have go : ∀ (d i : Nat), l.length - i = d → i ≤ l.length → ∃ v : Int, Ev (fun k => slices_Index_string_string.l0 k l a (l.length : Int) (i : Int)) v ∧ (decide (v ≥ 0) = hasT (l.drop i) a) := by
    intro d
    induction d with
    | zero =>
      intro i hd hi
      refine ⟨-1, ev_now fun k => ?_, ?_⟩
      · simp only [slices_Index_string_string.l0]; rw [if_neg (by omega)]
      · rw [List.drop_eq_nil_of_le (by omega)]; rfl
    | succ d ih =>
      intro i hd hi
      have hlt : i < l.length := by omega
      obtain ⟨v, hv, hd'⟩ := ih (i + 1) (by omega) (by omega)
      have hw := wsucc hlt hl
      rw [List.drop_eq_getElem_cons hlt]
      by_cases h : a.toList = (l[i]).toList
      · refine ⟨(i : Int), ev_now fun k => ?_, ?_⟩
        · simp only [slices_Index_string_string.l0, rdB l i hlt]
          rw [if_pos (by omega), if_pos (by omega), if_pos (by omega), if_pos h]
        · unfold hasT
          rw [List.any_cons, decide_eq_true h, Bool.true_or, decide_eq_true (by omega)]
      · refine ⟨v, ev_step hv fun k => ?_, ?_⟩
        · simp only [slices_Index_string_string.l0, rdB l i hlt, hw]
          clear hw
          rw [if_pos (by omega), if_pos (by omega), if_pos (by omega), if_neg h]
        · unfold hasT at hd' ⊢
          rw [List.any_cons, decide_eq_false h, Bool.false_or]; exact hd'
  obtain ⟨v, hv, hd⟩ := go l.length 0 (by omega) (by omega)
  unfold slices_Contains_string_string.f
  refine ev_bind (F := fun k => slices_Index_string_string.f k l a) hv (ev_const ?_)
  rw [hd, List.drop_zero]
theorem bl_irr : ∀ x : List UInt8, Op.bytesLess x x = false
  | [] => rfl
  | a :: x => by
    have h := bl_irr x
    simp [Op.bytesLess, h]
theorem bl_trans : ∀ x y z : List UInt8, Op.bytesLess x y = true → Op.bytesLess y z = true → Op.bytesLess x z = true
  | [], [], _, h, _ => by simp [Op.bytesLess] at h
  | _ :: _, [], _, h, _ => by simp [Op.bytesLess] at h
  | _, _ :: _, [], _, g => by simp [Op.bytesLess] at g
  | [], _ :: _, _ :: _, _, _ => rfl
  | a :: x, b :: y, c :: z, h, g => by
    simp only [Op.bytesLess, Bool.or_eq_true, Bool.and_eq_true, decide_eq_true_eq, beq_iff_eq] at h g ⊢
    rcases h with h | ⟨rfl, h⟩ <;> rcases g with g | ⟨rfl, g⟩
    · exact .inl (UInt8.lt_trans h g)
    · exact .inl h
    · exact .inl g
    · exact .inr ⟨rfl, bl_trans x y z h g⟩
/-- Rules whose names ascend: a name stands once. -/
theorem asc_lt (x : List S63) (ha : ∀ j : Nat, 1 ≤ j → j < x.length → Above x j) : ∀ (d i : Nat), i + d + 1 < x.length → Op.bytesLess (rd_T63 x (i : Int)).f0.toList (rd_T63 x ((i + d + 1 : Nat) : Int)).f0.toList = true
  | 0, i, h => by
    have := ha (i + 1) (by omega) h
    unfold Above at this
    exact this
  | d + 1, i, h => by
    have a := asc_lt x ha d i (by omega)
    have b := ha (i + (d + 1) + 1) (by omega) h
    unfold Above at b
    exact bl_trans _ _ _ a b
theorem asc_inj (x : List S63) (ha : ∀ j : Nat, 1 ≤ j → j < x.length → Above x j) (i j : Nat) (hi : i < x.length) (hj : j < x.length) (h : (x[i]).f0.toList = (x[j]).f0.toList) : i = j := by
  rcases Nat.lt_trichotomy i j with g | g | g
  · have := asc_lt x ha (j - i - 1) i (by omega)
    rw [show i + (j - i - 1) + 1 = j by omega, rd63 x i hi, rd63 x j hj, h, bl_irr] at this
    cases this
  · exact g
  · have := asc_lt x ha (i - j - 1) j (by omega)
    rw [show j + (i - j - 1) + 1 = i by omega, rd63 x i hi, rd63 x j hj, h, bl_irr] at this
    cases this
theorem find_spec (a : ByteArray) : ∀ (l : List S63) (i : Int), 0 ≤ i → (impl_ruleAt.find a l i = -1 ∧ ∀ r ∈ l, ¬ r.f0.toList = a.toList) ∨ ∃ (j : Nat) (hj : j < l.length), impl_ruleAt.find a l i = i + (j : Int) ∧ (l[j]).f0.toList = a.toList
  | [], _, _ => .inl ⟨rfl, fun r h => by cases h⟩
  | x :: xs, i, h0 => by
    unfold impl_ruleAt.find
    by_cases h : x.f0.toList = a.toList
    · rw [if_pos h]
      exact .inr ⟨0, by simp, by simp, h⟩
    · rw [if_neg h]
      rcases find_spec a xs (i + 1) (by omega) with ⟨e, g⟩ | ⟨j, hj, e, g⟩
      · refine .inl ⟨e, fun r hr => ?_⟩
        rcases List.mem_cons.1 hr with rfl | hr
        · exact h
        · exact g r hr
      · exact .inr ⟨j + 1, by simpa using hj, by rw [e]; omega, g⟩
/-- A number's mark is some text. -/
theorem markText_ev (a : Int) (h0 : 0 ≤ a) (h1 : a ≤ 4611686018427387904) : ∃ t, Ev (fun k => laws_markText.f k a) t := by
  unfold laws_markText.f
  by_cases c : a ≤ 0
  · simp only [if_pos c]; exact ⟨_, ev_const rfl⟩
  · simp only [if_neg c]
    have go : ∀ (n : Nat) (x : Int) (s : ByteArray), 0 ≤ x → x.toNat ≤ n → s.size + n ≤ 9223372036854775806 → ∃ t, Ev (fun k => laws_markText.l0 k x s) t := by
      intro n
      induction n with
      | zero =>
        intro x s hx hn hs
        refine ⟨_, ev_now (r := (⟨#[109]⟩ : ByteArray) ++ s) fun k => ?_⟩
        simp only [laws_markText.l0]
        rw [if_neg (by omega), if_pos (by omega)]
      | succ n ih =>
        intro x s hx hn hs
        by_cases p : x > 0
        · have hd : Int.tdiv x 10 = x / 10 := Int.tdiv_eq_ediv_of_nonneg hx
          have hw : wrap64 (Int.tdiv x 10) = x / 10 := by rw [hd]; exact w64 (by omega) (by omega)
          have hz : (strOfNums ([(wrap64 (48 + (Int.tmod x 10))) % 256] : List Int)).size = 1 := by rw [strOfNums_size]; rfl
          obtain ⟨t, ht⟩ := ih (x / 10) (strOfNums ([(wrap64 (48 + (Int.tmod x 10))) % 256] : List Int) ++ s) (by omega) (by omega) (by rw [ByteArray.size_append, hz]; omega)
          refine ⟨t, ev_step ht fun k => ?_⟩
          simp only [laws_markText.l0, Option.bind_some, hw]
          rw [if_pos p, if_pos (by rw [hz]; omega)]
        · refine ⟨_, ev_now (r := (⟨#[109]⟩ : ByteArray) ++ s) fun k => ?_⟩
          simp only [laws_markText.l0]
          rw [if_neg p, if_pos (by omega)]
    exact go a.toNat a _ h0 (Nat.le_refl _) (by show 0 + a.toNat ≤ _; omega)
noncomputable def mT (a : Int) : ByteArray := open Classical in if h : ∃ t, Ev (fun k => laws_markText.f k a) t then h.choose else ByteArray.empty
theorem mT_ev (a : Int) (h0 : 0 ≤ a) (h1 : a ≤ 4611686018427387904) : Ev (fun k => laws_markText.f k a) (mT a) := by
  have h := markText_ev a h0 h1
  unfold mT
  rw [dif_pos h]
  exact h.choose_spec
theorem mark_strs_l (m : Int) (n : Nat) (hm : 0 ≤ m) (hn : m + n ≤ 4611686018427387904) : ∀ (d i : Nat) (x0 : List ByteArray), x0.length = n → n - i = d → i ≤ n → (∀ j : Nat, j < i → x0[j]? = some (mT (m + (j : Int)))) → ∃ x, Ev (fun k => laws_markStringS.l0 k x0 (m + (i : Int)) (i : Int)) (m + (n : Int), x) ∧ x.length = n ∧ ∀ j : Nat, j < n → x[j]? = some (mT (m + (j : Int))) := by
  intro d
  induction d with
  | zero =>
    intro i x0 hl hd hi hj
    obtain rfl : i = n := by omega
    refine ⟨x0, ev_now fun k => ?_, hl, hj⟩
    simp only [laws_markStringS.l0]
    rw [if_neg (by omega)]
  | succ d ih =>
    intro i x0 hl hd hi hj
    have w1 : wrap64 ((i : Int) + 1) = ((i + 1 : Nat) : Int) := by rw [w64 (by omega) (by omega)]; omega
    have w2 : wrap64 (m + (i : Int) + 1) = m + ((i + 1 : Nat) : Int) := by rw [w64 (by omega) (by omega)]; omega
    obtain ⟨x, e, hx, hx2⟩ := ih (i + 1) (x0.set i (mT (m + (i : Int)))) (by simpa using hl) (by omega) (by omega) (fun j hj' => by
      by_cases e : j = i
      · subst e; rw [List.getElem?_set_self (by omega)]
      · rw [List.getElem?_set_ne (fun h => e h.symm)]; exact hj j (by omega))
    refine ⟨x, ev_step (ev_bind (F := fun k => laws_markText.f k (m + (i : Int))) (G := fun k t => laws_markStringS.l0 k (x0.set i t) (m + ((i + 1 : Nat) : Int)) ((i + 1 : Nat) : Int)) (mT_ev _ (by omega) (by omega)) e) fun k => ?_, hx, hx2⟩
    simp only [laws_markStringS.l0, w1, w2, Int.toNat_natCast]
    clear w1 w2 ih
    rw [if_pos (by omega)]
    simp only [if_pos (show (0 : Int) ≤ (i : Int) by omega)]
theorem held_strs_l (m : Int) (n : Nat) (hm : 0 ≤ m) (hn : m + n ≤ 4611686018427387904) (x : List ByteArray) (hl : x.length = n) (hx : ∀ j : Nat, j < n → x[j]? = some (mT (m + (j : Int)))) : ∀ (d i : Nat), n - i = d → i ≤ n → Ev (fun k => laws_heldStringS.l0 k x (m + (i : Int)) (i : Int)) (m + (n : Int)) := by
  intro d
  induction d with
  | zero =>
    intro i hd hi
    obtain rfl : i = n := by omega
    refine ev_now fun k => ?_
    simp only [laws_heldStringS.l0]
    rw [if_neg (by omega)]
  | succ d ih =>
    intro i hd hi
    have w1 : wrap64 ((i : Int) + 1) = ((i + 1 : Nat) : Int) := by rw [w64 (by omega) (by omega)]; omega
    have w2 : wrap64 (m + (i : Int) + 1) = m + ((i + 1 : Nat) : Int) := by rw [w64 (by omega) (by omega)]; omega
    have hr : rdOf ByteArray.empty x (i : Int) = mT (m + (i : Int)) := by
      show x.getD (i : Int).toNat ByteArray.empty = _
      rw [Int.toNat_natCast, List.getD_eq_getElem?_getD, hx i (by omega)]; rfl
    refine ev_step (ev_bind (F := fun k => laws_markText.f k (m + (i : Int))) (G := fun k t => if (mT (m + (i : Int))).toList = t.toList then laws_heldStringS.l0 k x (m + ((i + 1 : Nat) : Int)) ((i + 1 : Nat) : Int) else some (-1)) (mT_ev _ (by omega) (by omega)) ?_) fun k => ?_
    · simp only [if_true]; exact ih (i + 1) (by omega) (by omega)
    · simp only [laws_heldStringS.l0, w1, w2, hr]
      clear w1 w2 ih hr
      rw [if_pos (by omega), if_pos (by omega)]
/-- Names written over, and read again. -/
theorem mark_strs (l : List ByteArray) (m : Int) (hm : 0 ≤ m) (hn : m + l.length ≤ 4611686018427387904) : ∃ x, Ev (fun k => laws_markStringS.f k l m) (m + (l.length : Int), x) ∧ x.length = l.length ∧ Ev (fun k => laws_heldStringS.f k x m) (m + (l.length : Int)) := by
  obtain ⟨x, e, h1, h2⟩ := mark_strs_l m l.length hm hn l.length 0 l rfl (by omega) (by omega) (fun j hj => by omega)
  have h := held_strs_l m l.length hm hn x h1 h2 l.length 0 (by omega) (by omega)
  rw [show m + ((0 : Nat) : Int) = m by omega] at e h
  exact ⟨x, e, h1, h⟩
theorem laws_markIntS_l0 (m : Int) (n : Nat) (hm : 0 ≤ m) (hn : m + n ≤ 4611686018427387904) : ∀ (d k i : Nat) (x0 : List Int), x0.length = n → n - i = d → i ≤ n → d < k → (∀ j, j < i → x0[j]? = some (m + (j : Int))) → ∃ x, laws_markIntS.l0 k x0 (m + i) (i : Int) = some (m + n, x) ∧ x.length = n ∧ ∀ j, j < n → x[j]? = some (m + (j : Int)) := by
  intro d
  induction d with
  | zero =>
    intro k i x0 hl hd hi hk hj
    obtain ⟨k, rfl⟩ : ∃ m, k = m + 1 := ⟨k - 1, by omega⟩
    obtain rfl : i = n := by omega
    simp only [laws_markIntS.l0]
    rw [if_neg (by omega)]
    exact ⟨x0, rfl, hl, hj⟩
  | succ d ih =>
    intro k i x0 hl hd hi hk hj
    obtain ⟨k, rfl⟩ : ∃ m, k = m + 1 := ⟨k - 1, by omega⟩
    simp only [laws_markIntS.l0]
    rw [if_pos (by omega), if_pos (by omega), w64 (a := (i : Int) + 1) (by omega) (by omega), w64 (a := m + (i : Int) + 1) (by omega) (by omega), show (i : Int) + 1 = ((i + 1 : Nat) : Int) by omega, show m + (i : Int) + 1 = m + ((i + 1 : Nat) : Int) by omega]
    refine ih k (i + 1) _ (by simpa using hl) (by omega) (by omega) (by omega) ?_
    intro j hj'
    rw [Int.toNat_natCast]
    by_cases e : j = i
    · subst e
      rw [List.getElem?_set_self (by omega)]
    · rw [List.getElem?_set_ne (fun h => e h.symm)]
      exact hj j (by omega)
theorem mark_ints (l : List Int) (m : Int) (hm : 0 ≤ m) (hn : m + l.length ≤ 4611686018427387904) (k : Nat) (hk : l.length < k) : ∃ x, laws_markIntS.f k l m = some (m + l.length, x) ∧ x.length = l.length := by
  obtain ⟨x, h1, h2, h3⟩ := laws_markIntS_l0 m l.length hm hn l.length k 0 l rfl (by omega) (by omega) hk (fun j hj => by omega)
  refine ⟨x, ?_, h2⟩
  · unfold laws_markIntS.f
    have := h1
    rwa [show m + ((0 : Nat) : Int) = m by omega] at this

theorem mark_ints_ev (l : List Int) (m : Int) (hm : 0 ≤ m) (hn : m + l.length ≤ 4611686018427387904) : ∃ x, Ev (fun k => laws_markIntS.f k l m) (m + (l.length : Int), x) := by
  obtain ⟨x, h, hx⟩ := mark_ints l m hm hn (l.length + 1) (by omega)
  have mo : ∀ d, laws_markIntS.f (l.length + 1 + d) l m = some (m + (l.length : Int), x) := by
    intro d
    induction d with
    | zero => exact h
    | succ d ih => exact laws_markIntS.mono l m (l.length + 1 + d) _ ih
  refine ⟨x, l.length + 1, fun k hk => ?_⟩
  have := mo (k - (l.length + 1))
  rwa [show l.length + 1 + (k - (l.length + 1)) = k by omega] at this
/-- Rules written over: the numbers go up, no further. -/
theorem mark_rules_go : ∀ (x : List S63) (a : Int), (∀ r ∈ x, r.f2.length ≤ 1048576) → 0 ≤ a → a + x.length * 1048580 ≤ 2305843009213693952 → ∃ r, Ev (fun k => laws_markWarnRuleS.go k x a) r ∧ a ≤ r ∧ r ≤ a + x.length * 1048580
  | [], a, _, _, _ => ⟨a, ev_const rfl, Int.le_refl _, by simp⟩
  | y :: ys, a, hk, h0, h1 => by
    have hy := hk y List.mem_cons_self
    rw [List.length_cons] at h1
    have w1 : wrap64 (a + 1) = a + 1 := w64 (by omega) (by omega)
    have w2 : wrap64 (a + 1 + 1) = a + 1 + 1 := w64 (by omega) (by omega)
    have w3 : wrap64 (a + 1 + 1 + (y.f2.length : Int) + 1) = a + 1 + 1 + (y.f2.length : Int) + 1 := w64 (by omega) (by omega)
    have w4 : wrap64 (a + 1 + 1 + (y.f2.length : Int) + 1 + 1) = a + 1 + 1 + (y.f2.length : Int) + 1 + 1 := w64 (by omega) (by omega)
    obtain ⟨z, hz⟩ := mark_ints_ev y.f2 (a + 1 + 1) (by omega) (by omega)
    obtain ⟨r, hr, g1, g2⟩ := mark_rules_go ys (a + 1 + 1 + (y.f2.length : Int) + 1 + 1) (fun r hr => hk r (List.mem_cons_of_mem _ hr)) (by omega) (by omega)
    refine ⟨r, ?_, by omega, by rw [List.length_cons]; omega⟩
    unfold laws_markWarnRuleS.go
    simp only [w1, w2]
    refine ev_bind (F := fun k => laws_markText.f k a) (mT_ev _ h0 (by omega)) ?_
    refine ev_bind (F := fun k => laws_markIntS.f k y.f2 (a + 1 + 1)) hz ?_
    simp only [w3, w4]
    exact ev_bind (F := fun k => laws_markText.f k (a + 1 + 1 + (y.f2.length : Int) + 1)) (mT_ev _ (by omega) (by omega)) hr
theorem mark_rules (x : List S63) (hx : Fit x) : ∃ r : Int, Ev (fun k => laws_markWarnRuleS.f k x 1) r ∧ 1 ≤ r ∧ r ≤ 1099515822081 := by
  have := hx.1
  obtain ⟨r, h, h1, h2⟩ := mark_rules_go x 1 (fun r hr => (hx.2 r hr).1) (by omega) (by omega)
  exact ⟨r, h, h1, by omega⟩
/-- How many names at the head are below a name. -/
def pos (a : ByteArray) : List ByteArray → Nat
  | [] => 0
  | t :: ts => if Op.bytesLess t.toList a.toList = true then pos a ts + 1 else 0
theorem pos_le (a : ByteArray) : ∀ l : List ByteArray, pos a l ≤ l.length
  | [] => Nat.le_refl _
  | t :: ts => by
    have := pos_le a ts
    unfold pos
    split
    · simp only [List.length_cons]; omega
    · exact Nat.zero_le _
theorem pos_lt (a : ByteArray) : ∀ (l : List ByteArray) (i : Nat) (h : i < l.length), i < pos a l → Op.bytesLess (l[i]).toList a.toList = true
  | [], i, h, _ => by simp at h
  | t :: ts, i, h, g => by
    unfold pos at g
    split at g
    · rename_i c
      cases i with
      | zero => exact c
      | succ i => exact pos_lt a ts i (by simpa using h) (by omega)
    · omega
theorem pos_at (a : ByteArray) : ∀ (l : List ByteArray) (h : pos a l < l.length), Op.bytesLess (l[pos a l]).toList a.toList = false
  | [], h => by simp at h
  | t :: ts, h => by
    by_cases c : Op.bytesLess t.toList a.toList = true
    · have e : pos a (t :: ts) = pos a ts + 1 := by rw [pos, if_pos c]
      have := pos_at a ts (by rw [e] at h; simpa using h)
      simp only [e, List.getElem_cons_succ]
      exact this
    · have e : pos a (t :: ts) = 0 := by rw [pos, if_neg c]
      simp only [e, List.getElem_cons_zero]
      simpa using c
/-- Names that ascend. -/
def AscB (l : List ByteArray) : Prop := ∀ (i j : Nat) (hi : i < j) (hj : j < l.length), Op.bytesLess (l[i]).toList (l[j]).toList = true
theorem asc_of (l : List ByteArray) (h : ∀ j : Nat, 1 ≤ j → (hj : j < l.length) → Op.bytesLess (l[j - 1]).toList (l[j]).toList = true) : AscB l := by
  have go : ∀ (d i : Nat) (hj : i + d + 1 < l.length), Op.bytesLess (l[i]).toList (l[i + d + 1]).toList = true := by
    intro d
    induction d with
    | zero => intro i hj; exact h (i + 1) (by omega) hj
    | succ d ih => intro i hj; exact bl_trans _ _ _ (ih i (by omega)) (h (i + d + 1 + 1) (by omega) hj)
  intro i j hi hj
  have := go (j - i - 1) i (by omega)
  simpa only [show i + (j - i - 1) + 1 = j by omega] using this
theorem pos_is (l : List ByteArray) (a : ByteArray) (n : Nat) (hn : n ≤ l.length) (h1 : ∀ i (h : i < l.length), i < n → Op.bytesLess (l[i]).toList a.toList = true) (h2 : ∀ i (h : i < l.length), n ≤ i → Op.bytesLess (l[i]).toList a.toList = false) : n = pos a l := by
  rcases Nat.lt_trichotomy n (pos a l) with g | g | g
  · have hl : n < l.length := Nat.lt_of_lt_of_le g (pos_le a l)
    have := pos_lt a l n hl g
    rw [h2 n hl (Nat.le_refl _)] at this; cases this
  · exact g
  · have hl : pos a l < l.length := by omega
    have := h1 _ hl g
    rw [pos_at a l hl] at this; cases this
theorem pos_has (l : List ByteArray) (a : ByteArray) (ha : AscB l) : hasT l a = true ↔ ∃ h : pos a l < l.length, (l[pos a l]).toList = a.toList := by
  unfold hasT
  rw [List.any_eq_true]
  constructor
  · rintro ⟨t, ht, e⟩
    rw [decide_eq_true_eq] at e
    obtain ⟨i, hi, rfl⟩ := List.mem_iff_getElem.1 ht
    have : i = pos a l := by
      rcases Nat.lt_trichotomy i (pos a l) with g | g | g
      · have := pos_lt a l i hi g
        rw [← e, bl_irr] at this; cases this
      · exact g
      · have h1 := pos_at a l (by omega)
        have h2 := ha (pos a l) i g hi
        rw [← e] at h2
        rw [h1] at h2; cases h2
    subst this
    exact ⟨hi, e.symm⟩
  · rintro ⟨h, e⟩
    exact ⟨l[pos a l], List.getElem_mem h, by rw [decide_eq_true_eq]; exact e.symm⟩
theorem less_eq (s t : ByteArray) : cmp_Less_string.f s t = some (Op.bytesLess s.toList t.toList) := by
  unfold cmp_Less_string.f cmp_isNaN_string.f
  simp
theorem mid_eq (lo hi : Nat) (h : lo + hi < 4611686018427387904) : wrap64 ((IntKind.u64.wrap (wrap64 ((lo : Int) + (hi : Int)))) / 2) = (((lo + hi) / 2 : Nat) : Int) := by
  rw [w64 (a := (lo : Int) + (hi : Int)) (by omega) (by omega)]
  have : IntKind.u64.wrap ((lo : Int) + (hi : Int)) = (lo : Int) + (hi : Int) := by
    unfold IntKind.wrap
    simp only [IntKind.signed, IntKind.bits, Bool.false_and, Bool.false_eq_true, if_false]
    exact Int.emod_eq_of_lt (by omega) (by omega)
  rw [this, w64 (by omega) (by omega)]
  omega
theorem bs_l (l : List ByteArray) (a : ByteArray) (ha : AscB l) (hl : l.length ≤ 1048577) : ∀ (d lo hi : Nat), hi - lo ≤ d → lo ≤ hi → hi ≤ l.length → (∀ i (h : i < l.length), i < lo → Op.bytesLess (l[i]).toList a.toList = true) → (∀ i (h : i < l.length), hi ≤ i → Op.bytesLess (l[i]).toList a.toList = false) → Ev (fun k => slices_BinarySearch_string_string.l0 k l a (l.length : Int) (lo : Int) (hi : Int)) ((pos a l : Int), hasT l a) := by
  intro d
  induction d with
  | zero =>
    intro lo hi hd h1 h2 g1 g2
    obtain rfl : lo = hi := by omega
    have e := pos_is l a lo h2 g1 g2
    refine ev_now fun k => ?_
    simp only [slices_BinarySearch_string_string.l0]
    rw [if_neg (by omega)]
    by_cases c : lo < l.length
    · rw [if_pos (by omega), if_pos (by omega), if_pos (by omega), rdB l lo c]
      by_cases q : (l[lo]).toList = a.toList
      · rw [if_pos q, (pos_has l a ha).2 (by subst e; exact ⟨c, q⟩), ← e]
      · rw [if_neg q]
        have : hasT l a = false := by
          rw [Bool.eq_false_iff]
          intro h
          obtain ⟨h', q'⟩ := (pos_has l a ha).1 h
          subst e
          exact q q'
        simp only [slices_isNaN_string.f, bne_self_eq_false, Option.bind_some, Bool.false_eq_true, if_false]
        rw [this, ← e]
    · rw [if_neg (by omega)]
      have : hasT l a = false := by
        rw [Bool.eq_false_iff]
        intro h
        obtain ⟨h', _⟩ := (pos_has l a ha).1 h
        omega
      rw [this, ← e]
  | succ d ih =>
    intro lo hi hd h1 h2 g1 g2
    by_cases c : lo = hi
    · exact ih lo hi (by omega) h1 h2 g1 g2
    · have hm := mid_eq lo hi (by omega)
      have q1 : lo ≤ (lo + hi) / 2 := by omega
      have q2 : (lo + hi) / 2 < hi := by omega
      generalize (lo + hi) / 2 = m at hm q1 q2
      have hml : m < l.length := by omega
      have w1 : wrap64 ((m : Int) + 1) = ((m + 1 : Nat) : Int) := wsucc hml (by omega)
      have un : ∀ k, slices_BinarySearch_string_string.l0 (k + 1) l a (l.length : Int) (lo : Int) (hi : Int) = if Op.bytesLess (l[m]).toList a.toList = true then slices_BinarySearch_string_string.l0 k l a (l.length : Int) ((m + 1 : Nat) : Int) (hi : Int) else slices_BinarySearch_string_string.l0 k l a (l.length : Int) (lo : Int) (m : Int) := by
        intro k
        simp only [slices_BinarySearch_string_string.l0, hm, less_eq, Option.bind_some, rdB l m hml, w1]
        clear hm w1
        rw [if_pos (by omega), if_pos (by omega), if_pos (by omega)]
      cases b : Op.bytesLess (l[m]).toList a.toList
      · refine ev_step (ih lo m (by omega) q1 (by omega) g1 (fun i hi' hmi => ?_)) fun k => by rw [un, b, if_neg (by decide)]
        rcases Nat.eq_or_lt_of_le hmi with rfl | hlt
        · exact b
        · rw [Bool.eq_false_iff]
          intro h
          rw [bl_trans _ _ _ (ha m i hlt hi') h] at b
          cases b
      · refine ev_step (ih (m + 1) hi (by omega) (by omega) h2 (fun i hi' hmi => ?_) g2) fun k => by rw [un, b, if_pos rfl]
        rcases Nat.eq_or_lt_of_le (Nat.le_of_lt_succ hmi) with rfl | hlt
        · exact b
        · exact bl_trans _ _ _ (ha i m hlt hml) b
theorem bs (l : List ByteArray) (a : ByteArray) (ha : AscB l) (hl : l.length ≤ 1048577) : Ev (fun k => slices_BinarySearch_string_string.f k l a) ((pos a l : Int), hasT l a) :=
  bs_l l a ha hl l.length 0 l.length (by omega) (by omega) (Nat.le_refl _) (fun i _ h => by omega) (fun i h g => by omega)
theorem clone_eq (l : List ByteArray) (hl : l.length ≤ 1048577) : slices_Clone_string_string.f l = some l := by
  unfold slices_Clone_string_string.f
  simp only [Option.bind_some, List.nil_append, List.length_nil]
  rw [if_pos (by omega)]
/-- A name among names that ascend. -/
def wth (l : List ByteArray) (a : ByteArray) : List ByteArray := if hasT l a = true then l else impl_Take14.put l (pos a l) a
theorem wth_len (l : List ByteArray) (a : ByteArray) : (wth l a).length ≤ l.length + 1 := by
  unfold wth
  split
  · omega
  · have := pos_le a l
    unfold impl_Take14.put
    simp only [List.length_append, List.length_cons, List.length_take, List.length_drop]
    omega
theorem with_ev (l : List ByteArray) (a : ByteArray) (ha : AscB l) (hl : l.length ≤ 1048577) : Ev (fun k => impl_Take14.withf k l a) (wth l a) := by
  unfold impl_Take14.withf wth
  refine ev_bind (F := fun k => slices_BinarySearch_string_string.f k l a) (bs l a ha hl) ?_
  have hp := pos_le a l
  cases hasT l a
  · simp only [Bool.false_eq_true, if_false, clone_eq l hl, Option.bind_some, Int.toNat_natCast]
    rw [if_pos ⟨by omega, hp, by omega⟩]
    exact ev_const rfl
  · simp only [if_true]
    exact ev_const rfl
theorem has_s (l : List ByteArray) (a : ByteArray) (hl : l.length ≤ 4611686018427387904) : Ev (fun k => spec_l14Has.f k l a) (hasT l a) := by
  have go : ∀ (d i : Nat), l.length - i = d → i ≤ l.length → Ev (fun k => spec_l14Has.l0 k l a (i : Int)) (hasT (l.drop i) a) := by
    intro d
    induction d with
    | zero =>
      intro i hd hi
      refine ev_now fun k => ?_
      simp only [spec_l14Has.l0]
      rw [if_neg (by omega), List.drop_eq_nil_of_le (by omega)]; rfl
    | succ d ih =>
      intro i hd hi
      have hlt : i < l.length := by omega
      have hw := wsucc hlt hl
      have e := ih (i + 1) (by omega) (by omega)
      rw [List.drop_eq_getElem_cons hlt]
      unfold hasT at e ⊢
      rw [List.any_cons]
      by_cases h : (l[i]).toList = a.toList
      · rw [decide_eq_true h.symm, Bool.true_or]
        refine ev_now fun k => ?_
        simp only [spec_l14Has.l0, rdB l i hlt]
        rw [if_pos (by omega), if_pos (by omega), if_pos h]
      · rw [decide_eq_false (fun q => h q.symm), Bool.false_or]
        refine ev_step e fun k => ?_
        simp only [spec_l14Has.l0, rdB l i hlt, hw]
        clear hw
        rw [if_pos (by omega), if_pos (by omega), if_neg h]
  have := go l.length 0 (by omega) (by omega)
  rwa [List.drop_zero] at this
theorem names_both (x : List S63) (hx : x.length ≤ 4611686018427387904) (l : List ByteArray) (hl : l.length ≤ 4611686018427387904) : ∃ b, Ev (fun k => spec_l14Names.f k x l) b ∧ Ev (fun k => impl_namesOk.f k x l) b ∧ (b = true → AscB l) := by
  have go : ∀ (d i : Nat), l.length - i = d → i ≤ l.length → ∃ b, Ev (fun k => spec_l14Names.l0 k x l (i : Int)) b ∧ Ev (fun k => impl_namesOk.l0 k x l l (l.length : Int) (i : Int)) b ∧ (b = true → ∀ j : Nat, i ≤ j → 1 ≤ j → (hj : j < l.length) → Op.bytesLess (l[j - 1]).toList (l[j]).toList = true) := by
    intro d
    induction d with
    | zero =>
      intro i hd hi
      refine ⟨true, ev_now fun k => ?_, ev_now fun k => ?_, fun _ j h1 _ h2 => by omega⟩
      · simp only [spec_l14Names.l0]; rw [if_neg (by omega)]
      · simp only [impl_namesOk.l0]; rw [if_neg (by omega)]
    | succ d ih =>
      intro i hd hi
      have hlt : i < l.length := by omega
      obtain ⟨b, e1, e2, ha⟩ := ih (i + 1) (by omega) (by omega)
      have hw := wsucc hlt hl
      have hf := find_s x l[i] hx
      have hr : impl_ruleAt.f x l[i] = some (impl_ruleAt.find l[i] x 0) := rfl
      generalize impl_ruleAt.find l[i] x 0 = t at hf hr
      have us : ∀ k, spec_l14Names.l0 (k + 1) x l (i : Int) = (spec_l14Find.f k x l[i]).bind fun t => if t < 0 then (some false) else (if (i : Int) > 0 then (if Op.bytesLess (rdOf ByteArray.empty l (wrap64 ((i : Int) - 1))).toList (l[i]).toList = true then spec_l14Names.l0 k x l ((i + 1 : Nat) : Int) else some false) else spec_l14Names.l0 k x l ((i + 1 : Nat) : Int)) := by
        intro k
        clear hf hr e1 e2 ha ih
        simp only [spec_l14Names.l0, rdB l i hlt, hw]
        clear hw
        rw [if_pos (by omega), if_pos (by omega)]
        by_cases h0 : (i : Int) > 0
        · have hm : 0 ≤ wrap64 ((i : Int) - 1) ∧ wrap64 ((i : Int) - 1) < (l.length : Int) := by rw [w64 (by omega) (by omega)]; omega
          simp only [if_pos h0, if_pos hm.1, if_pos hm.2]
        · simp only [if_neg h0]
      have ui : ∀ k, impl_namesOk.l0 (k + 1) x l l (l.length : Int) (i : Int) = if t < 0 then (some false) else (if (i : Int) > 0 then (if Op.bytesLess (rdOf ByteArray.empty l (wrap64 ((i : Int) - 1))).toList (l[i]).toList = true then impl_namesOk.l0 k x l l (l.length : Int) ((i + 1 : Nat) : Int) else some false) else impl_namesOk.l0 k x l l (l.length : Int) ((i + 1 : Nat) : Int)) := by
        intro k
        clear hf e1 e2 ha ih us
        simp only [impl_namesOk.l0, rdB l i hlt, hr, Option.bind_some, hw]
        clear hw hr
        rw [if_pos (by omega), if_pos (by omega), if_pos (by omega)]
        by_cases h0 : (i : Int) > 0
        · have hm : 0 ≤ wrap64 ((i : Int) - 1) ∧ wrap64 ((i : Int) - 1) < (l.length : Int) := by rw [w64 (by omega) (by omega)]; omega
          simp only [if_pos h0, if_pos hm.1, if_pos hm.2]
        · simp only [if_neg h0]
      by_cases c0 : t < 0
      · refine ⟨false, ev_step (ev_bind (F := fun k => spec_l14Find.f k x l[i]) hf (by simp only [if_pos c0]; exact ev_const rfl)) us, ev_now fun k => by rw [ui, if_pos c0], fun h => by cases h⟩
      · by_cases h0 : (i : Int) > 0
        · have hp : wrap64 ((i : Int) - 1) = ((i - 1 : Nat) : Int) := wpred hlt hl h0
          rw [hp, rdB l (i - 1) (by omega)] at us ui
          cases hb : Op.bytesLess (l[i - 1]).toList (l[i]).toList
          · refine ⟨false, ev_step (ev_bind (F := fun k => spec_l14Find.f k x l[i]) hf (by simp only [if_neg c0, if_pos h0, hb, Bool.false_eq_true, if_false]; exact ev_const rfl)) us, ev_now fun k => by rw [ui, if_neg c0, if_pos h0, hb, if_neg (by decide)], fun h => by cases h⟩
          · refine ⟨b, ev_step (ev_bind (F := fun k => spec_l14Find.f k x l[i]) hf (by simp only [if_neg c0, if_pos h0, hb, if_true]; exact e1)) us, ev_step e2 fun k => by rw [ui, if_neg c0, if_pos h0, hb, if_pos rfl], fun h j h1 h2 h3 => ?_⟩
            rcases Nat.eq_or_lt_of_le h1 with rfl | g
            · exact hb
            · exact ha h j g h2 h3
        · refine ⟨b, ev_step (ev_bind (F := fun k => spec_l14Find.f k x l[i]) hf (by simp only [if_neg c0, if_neg h0]; exact e1)) us, ev_step e2 fun k => by rw [ui, if_neg c0, if_neg h0], fun h j h1 h2 h3 => ha h j (by omega) h2 h3⟩
  obtain ⟨b, e1, e2, ha⟩ := go l.length 0 (by omega) (by omega)
  exact ⟨b, e1, e2, fun h => asc_of l (fun j h1 hj => ha h j (by omega) h1 hj)⟩
/-- What is taken, behind the looks. -/
theorem l1_ev (a : ByteArray) (c0 c1 l : List ByteArray) (hl : l.length ≤ 1048577) : ∀ (d i : Nat), l.length - i = d → i ≤ l.length → Ev (fun k => spec_Take14.l1 k a (i : Int) c0 c1 l) (c0, c1, impl_Take14.put l (i + pos a (l.drop i)) a, true) := by
  have fin : ∀ i : Nat, i ≤ l.length → ([] ++ l.take i) ++ ([a] ++ l.drop i) = impl_Take14.put l i a := by intro i _; unfold impl_Take14.put; simp
  intro d
  induction d with
  | zero =>
    intro i hd hi
    obtain rfl : i = l.length := by omega
    have hp : pos a (l.drop l.length) = 0 := by rw [List.drop_length]; rfl
    rw [hp, Nat.add_zero, ← fin _ hi]
    refine ev_now fun k => ?_
    simp only [spec_Take14.l1, Option.bind_some, Int.toNat_natCast]
    rw [if_neg (by omega), if_pos (by omega), if_pos (by omega), if_pos (by simp; try omega), if_pos (by simp; try omega), if_pos (by simp; try omega)]
  | succ d ih =>
    intro i hd hi
    have hlt : i < l.length := by omega
    have hw := wsucc hlt (show l.length ≤ 4611686018427387904 by omega)
    rw [List.drop_eq_getElem_cons hlt]
    unfold pos
    by_cases h : Op.bytesLess (l[i]).toList a.toList = true
    · rw [if_pos h, show i + (pos a (l.drop (i + 1)) + 1) = i + 1 + pos a (l.drop (i + 1)) by omega]
      refine ev_step (ih (i + 1) (by omega) (by omega)) fun k => ?_
      simp only [spec_Take14.l1, rdB l i hlt, hw]
      clear hw ih
      rw [if_pos (by omega), if_pos (by omega), if_pos h]
    · rw [if_neg h, Nat.add_zero, ← fin _ hi]
      refine ev_now fun k => ?_
      simp only [spec_Take14.l1, rdB l i hlt, Option.bind_some, Int.toNat_natCast]
      clear hw ih
      rw [if_pos (by omega), if_pos (by omega), if_neg h, if_pos (by omega), if_pos (by simp; try omega), if_pos (by simp; try omega), if_pos (by simp; try omega)]
theorem l0_ev (a : ByteArray) (p0 p1 p2 c0 : List ByteArray) (hl0 : p0.length ≤ 1048577) (hl1 : p1.length ≤ 1048577) (hl2 : p2.length ≤ 1048577) : ∀ (d i : Nat) (acc : List ByteArray), p1.length - i = d → i ≤ p1.length → acc.length ≤ i → Ev (fun k => spec_Take14.l0 k a (i : Int) p0 p1 p2 c0 acc p2) (c0, acc ++ impl_Take14.without (p1.drop i) a, (if hasT p0 a = true then wth p2 a else p2), true) := by
  have j2 : ∀ (c1 : List ByteArray) (b : Bool), Ev (fun k => spec_Take14.j2 k a b c0 c1 p2) (c0, c1, (if b = true then impl_Take14.put p2 (pos a p2) a else p2), true) := by
    intro c1 b
    cases b
    · refine ev_now fun k => ?_
      simp only [spec_Take14.j2, Bool.false_eq_true, if_false]
    · have := l1_ev a c0 c1 p2 hl2 p2.length 0 (by omega) (by omega)
      rw [List.drop_zero, Nat.zero_add] at this
      refine ev_step this fun k => ?_
      simp only [spec_Take14.j2, if_true]
      rfl
  intro d
  induction d with
  | zero =>
    intro i acc hd hi ha
    have e0 := has_s p0 a (by omega)
    have e2 := has_s p2 a (by omega)
    rw [List.drop_eq_nil_of_le (by omega), show impl_Take14.without [] a = [] from rfl, List.append_nil]
    refine ev_step (ev_bind (F := fun k => spec_l14Has.f k p0 a) (G := fun k t => (if t = true then ((spec_l14Has.f k p2 a).bind fun t266 => (spec_Take14.j2 k a (!t266) c0 acc p2)) else (spec_Take14.j2 k a false c0 acc p2))) e0 ?_) fun k => ?_
    · cases hasT p0 a
      · simp only [Bool.false_eq_true, if_false]
        exact j2 acc false
      · simp only [if_true]
        refine ev_bind (F := fun k => spec_l14Has.f k p2 a) e2 ?_
        have := j2 acc (!hasT p2 a)
        unfold wth
        revert this
        cases hasT p2 a
        · exact fun h => h
        · exact fun h => h
    · simp only [spec_Take14.l0]
      rw [if_neg (by omega)]
  | succ d ih =>
    intro i acc hd hi ha
    have hlt : i < p1.length := by omega
    have hw := wsucc hlt (show p1.length ≤ 4611686018427387904 by omega)
    rw [List.drop_eq_getElem_cons hlt]
    have e : impl_Take14.without (p1[i] :: p1.drop (i + 1)) a = if (p1[i]).toList = a.toList then impl_Take14.without (p1.drop (i + 1)) a else p1[i] :: impl_Take14.without (p1.drop (i + 1)) a := by
      unfold impl_Take14.without
      rw [List.filter_cons]
      by_cases h : (p1[i]).toList = a.toList
      · simp [h]
      · simp [h]
    rw [e]
    by_cases h : (p1[i]).toList = a.toList
    · rw [if_pos h]
      refine ev_step (ih (i + 1) acc (by omega) (by omega) (by omega)) fun k => ?_
      simp only [spec_Take14.l0, rdB p1 i hlt, hw]
      clear hw ih
      rw [if_pos (by omega), if_pos (by omega), if_pos h]
    · rw [if_neg h]
      have := ih (i + 1) (acc ++ [p1[i]]) (by omega) (by omega) (by simp; omega)
      rw [List.append_assoc, List.singleton_append] at this
      refine ev_step this fun k => ?_
      simp only [spec_Take14.l0, rdB p1 i hlt, hw]
      clear hw ih this
      rw [if_pos (by omega), if_pos (by omega), if_neg h, if_pos (by omega)]
theorem without_len (l : List ByteArray) (a : ByteArray) : (impl_Take14.without l a).length ≤ l.length := List.length_filter_le _ _
theorem take_both (x : List S63) (hx : Fit x) (p0 p1 p2 : List ByteArray) (hl0 : p0.length ≤ 1048576) (hl1 : p1.length ≤ 1048576) (hl2 : p2.length ≤ 1048576) (a : ByteArray) : ∃ r : List ByteArray × List ByteArray × List ByteArray × Bool, Ev (fun k => spec_Take14.f k x p0 p1 p2 a) r ∧ Ev (fun k => impl_Take14.f k x p0 p1 p2 a) r ∧ r.1.length ≤ 1048577 ∧ r.2.1.length ≤ 1048577 ∧ r.2.2.1.length ≤ 1048577 := by
  have hx1 := hx.1
  obtain ⟨b, s1, s2⟩ := rules_both x hx
  obtain ⟨n0, s3, s4, _⟩ := names_both x (by omega) p0 (by omega)
  obtain ⟨n1, s5, s6, _⟩ := names_both x (by omega) p1 (by omega)
  obtain ⟨n2, s7, s8, a2⟩ := names_both x (by omega) p2 (by omega)
  have cp : spec_l14Copy.f p0 p1 p2 = some (p0, p1, p2) := by
    unfold spec_l14Copy.f
    simp only [Option.bind_some, List.nil_append, List.length_nil]
    rw [if_pos (by omega), if_pos (by omega), if_pos (by omega)]
  have cl : impl_clonePanel.f p0 p1 p2 = some (p0, p1, p2) := by
    unfold impl_clonePanel.f
    rw [clone_eq p0 (by omega), clone_eq p1 (by omega), clone_eq p2 (by omega)]
    rfl
  have h0 := has_s p0 a (by omega)
  have h1 := has_s p1 a (by omega)
  have i0 := contains_i p0 a (by omega)
  have i1 := contains_i p1 a (by omega)
  have po : Ev (fun k => impl_panelOk.f k x p0 p1 p2) (b && n0 && n1 && n2) := by
    unfold impl_panelOk.f
    refine ev_bind (F := fun k => impl_RulesOk.f k x) s2 ?_
    cases b
    · simp only [Bool.false_eq_true, if_false]; exact ev_const rfl
    simp only [if_true]
    refine ev_bind (F := fun k => impl_namesOk.f k x p0) s4 ?_
    cases n0
    · simp only [Bool.false_eq_true, if_false]; exact ev_const rfl
    simp only [if_true]
    refine ev_bind (F := fun k => impl_namesOk.f k x p1) s6 ?_
    cases n1
    · simp only [Bool.false_eq_true, if_false]; exact ev_const rfl
    simp only [if_true]
    refine ev_bind (F := fun k => impl_namesOk.f k x p2) s8 ?_
    exact ev_const (by simp)
  have sp : Ev (fun k => spec_l14Panel.f k x p0 p1 p2) (n0 && n1 && n2) := by
    unfold spec_l14Panel.f
    refine ev_bind (F := fun k => spec_l14Names.f k x p0) s3 ?_
    cases n0
    · simp only [Bool.false_eq_true, if_false]; exact ev_const rfl
    simp only [if_true]
    refine ev_bind (F := fun k => spec_l14Names.f k x p1) s5 ?_
    cases n1
    · simp only [Bool.false_eq_true, if_false]; exact ev_const rfl
    simp only [if_true]
    refine ev_bind (F := fun k => spec_l14Names.f k x p2) s7 ?_
    exact ev_const (by simp)
  have sf : ∀ R, Ev (fun k => spec_Take14.j0 k a (!(b && n0 && n1 && n2) || (!hasT p1 a && !hasT p0 a)) p0 p1 p2 p0 p1 p2) R → Ev (fun k => spec_Take14.f k x p0 p1 p2 a) R := by
    intro R h
    unfold spec_Take14.f
    simp only [cp, Option.bind_some]
    refine ev_bind (F := fun k => spec_RulesOk.f k x) s1 ?_
    cases b
    · simp only [Bool.false_eq_true, if_false]; exact h
    simp only [if_true]
    refine ev_bind (F := fun k => spec_l14Panel.f k x p0 p1 p2) sp ?_
    rw [Bool.true_and] at h
    cases hq : (n0 && n1 && n2)
    · simp only [Bool.false_eq_true, if_false]
      rw [hq] at h; exact h
    simp only [if_true]
    rw [hq] at h
    refine ev_bind (F := fun k => spec_l14Has.f k p0 a) h0 ?_
    cases hp : hasT p0 a
    · simp only [Bool.false_eq_true, if_false]
      refine ev_bind (F := fun k => spec_l14Has.f k p1 a) h1 ?_
      rw [hp] at h
      simpa using h
    · simp only [if_true]
      rw [hp] at h
      simpa using h
  have imf : ∀ R, (∀ k, (if (!(b && n0 && n1 && n2) || (!hasT p1 a && !hasT p0 a)) = true then some (p0, p1, p2, false) else if hasT p0 a = true then (impl_Take14.withf k p2 a).bind fun t => some (p0, impl_Take14.without p1 a, t, true) else some (p0, impl_Take14.without p1 a, p2, true)) = R k) → ∀ r, Ev R r → Ev (fun k => impl_Take14.f k x p0 p1 p2 a) r := by
    intro R hR r h
    unfold impl_Take14.f
    simp only [cl, Option.bind_some]
    refine ev_bind (F := fun k => slices_Contains_string_string.f k p1 a) i1 ?_
    refine ev_bind (F := fun k => slices_Contains_string_string.f k p0 a) i0 ?_
    refine ev_bind (F := fun k => impl_panelOk.f k x p0 p1 p2) po ?_
    exact ev_cong h hR
  cases hb : (!(b && n0 && n1 && n2) || (!hasT p1 a && !hasT p0 a))
  · have hn2 : n2 = true := by cases n2 <;> simp_all
    have ha2 := a2 hn2
    refine ⟨(p0, impl_Take14.without p1 a, (if hasT p0 a = true then wth p2 a else p2), true), sf _ ?_, imf _ (fun _ => rfl) _ ?_, ?_, ?_, ?_⟩
    · rw [hb]
      have := l0_ev a p0 p1 p2 p0 (by omega) (by omega) (by omega) p1.length 0 [] (by omega) (by omega) (by simp)
      rw [List.drop_zero, List.nil_append] at this
      refine ev_step this fun k => ?_
      simp only [spec_Take14.j0, Bool.false_eq_true, if_false]
      rfl
    · simp only [hb, Bool.false_eq_true, if_false]
      cases hasT p0 a
      · simp only [Bool.false_eq_true, if_false]; exact ev_const rfl
      · simp only [if_true]
        exact ev_bind (F := fun k => impl_Take14.withf k p2 a) (with_ev p2 a ha2 (by omega)) (ev_const rfl)
    · show p0.length ≤ _; omega
    · show (impl_Take14.without p1 a).length ≤ _
      have := without_len p1 a
      omega
    · show (if hasT p0 a = true then wth p2 a else p2).length ≤ _
      have := wth_len p2 a
      split <;> omega
  · refine ⟨(p0, p1, p2, false), sf _ ?_, imf _ (fun _ => rfl) _ ?_, ?_, ?_, ?_⟩
    · rw [hb]
      exact ev_now fun k => by simp only [spec_Take14.j0, if_true]
    · simp only [hb, if_true]; exact ev_const rfl
    · show p0.length ≤ _; omega
    · show p1.length ≤ _; omega
    · show p2.length ≤ _; omega
theorem sz_panel (p0 p1 p2 : List ByteArray) (a : Int) (h0 : p0.length ≤ maxLen ∧ ∀ x ∈ p0, x.size ≤ maxLen) (h1 : p1.length ≤ maxLen ∧ ∀ x ∈ p1, x.size ≤ maxLen) (h2 : p2.length ≤ maxLen ∧ ∀ x ∈ p2, x.size ≤ maxLen) (a0 : 0 ≤ a) (a1 : a ≤ 1048576) : ∃ v, Ev (fun k => laws_szPanel.f k p0 p1 p2 a) v ∧ (v < 0 ∨ p0.length ≤ 1048576 ∧ p1.length ≤ 1048576 ∧ p2.length ≤ 1048576) := by
  unfold laws_szPanel.f
  obtain ⟨v, hv, o⟩ := sz_strs p0 a h0.1 h0.2 a0 a1
  by_cases c : v < 0
  · exact ⟨-1, ev_bind (F := fun k => laws_szStringS.f k p0 a) hv (by simp only [if_pos c]; exact ev_const rfl), .inl (by omega)⟩
  rcases o with o | ⟨v0, v1, q0, _⟩
  · exact absurd o c
  obtain ⟨u, hu, o⟩ := sz_strs p1 v h1.1 h1.2 v0 v1
  by_cases d : u < 0
  · exact ⟨-1, ev_bind (F := fun k => laws_szStringS.f k p0 a) hv (by simp only [if_neg c]; exact ev_bind (F := fun k => laws_szStringS.f k p1 v) hu (by simp only [if_pos d]; exact ev_const rfl)), .inl (by omega)⟩
  rcases o with o | ⟨u0, u1, q1, _⟩
  · exact absurd o d
  obtain ⟨t, ht, o⟩ := sz_strs p2 u h2.1 h2.2 u0 u1
  by_cases e : t < 0
  · exact ⟨-1, ev_bind (F := fun k => laws_szStringS.f k p0 a) hv (by simp only [if_neg c]; exact ev_bind (F := fun k => laws_szStringS.f k p1 v) hu (by simp only [if_neg d]; exact ev_bind (F := fun k => laws_szStringS.f k p2 u) ht (by simp only [if_pos e]; exact ev_const rfl))), .inl (by omega)⟩
  rcases o with o | ⟨t0, t1, q2, _⟩
  · exact absurd o e
  exact ⟨t, ev_bind (F := fun k => laws_szStringS.f k p0 a) hv (by simp only [if_neg c]; exact ev_bind (F := fun k => laws_szStringS.f k p1 v) hu (by simp only [if_neg d]; exact ev_bind (F := fun k => laws_szStringS.f k p2 u) ht (by simp only [if_neg e]; exact ev_const rfl))), .inr ⟨q0, q1, q2⟩⟩
theorem to_panel (p0 p1 p2 : List ByteArray) (h0 : p0.length ≤ 1048576) (h1 : p1.length ≤ 1048576) (h2 : p2.length ≤ 1048576) : Ev (fun k => laws_toPanel.f k p0 p1 p2) (p0, p1, p2) := by
  unfold laws_toPanel.f
  refine ev_bind (F := fun k => laws_toStringS.f k p0) ⟨p0.length + 1, fun k hk => laws_toStringS_eq p0 k (by omega) (by omega)⟩ ?_
  refine ev_bind (F := fun k => laws_toStringS.f k p1) ⟨p1.length + 1, fun k hk => laws_toStringS_eq p1 k (by omega) (by omega)⟩ ?_
  refine ev_bind (F := fun k => laws_toStringS.f k p2) ⟨p2.length + 1, fun k hk => laws_toStringS_eq p2 k (by omega) (by omega)⟩ ?_
  exact ev_const rfl
theorem eq_panel (p0 p1 p2 : List ByteArray) (h0 : p0.length ≤ 1048577) (h1 : p1.length ≤ 1048577) (h2 : p2.length ≤ 1048577) : Ev (fun k => laws_eqPanel.f k p0 p1 p2 p0 p1 p2) true := by
  unfold laws_eqPanel.f
  refine ev_bind (F := fun k => laws_eqStringS.f k p0 p0) ⟨p0.length + 1, fun k hk => laws_eqStringS_eq p0 k (by omega) (by omega)⟩ ?_
  simp only [if_true]
  refine ev_bind (F := fun k => laws_eqStringS.f k p1 p1) ⟨p1.length + 1, fun k hk => laws_eqStringS_eq p1 k (by omega) (by omega)⟩ ?_
  simp only [if_true]
  refine ev_bind (F := fun k => laws_eqStringS.f k p2 p2) ⟨p2.length + 1, fun k hk => laws_eqStringS_eq p2 k (by omega) (by omega)⟩ ?_
  simp only [if_true]
  exact ev_const rfl
theorem mark_panel (p0 p1 p2 : List ByteArray) (m : Int) (hm : 0 ≤ m) (hm' : m ≤ 1099515822081) (h0 : p0.length ≤ 1048577) (h1 : p1.length ≤ 1048577) (h2 : p2.length ≤ 1048577) : ∃ y0 y1 y2, Ev (fun k => laws_markPanel.f k p0 p1 p2 m) (m + p0.length + p1.length + p2.length, y0, y1, y2) ∧ Ev (fun k => laws_heldPanel.f k y0 y1 y2 m) (m + p0.length + p1.length + p2.length) := by
  obtain ⟨y0, e0, _, f0⟩ := mark_strs p0 m (by omega) (by omega)
  obtain ⟨y1, e1, _, f1⟩ := mark_strs p1 (m + p0.length) (by omega) (by omega)
  obtain ⟨y2, e2, _, f2⟩ := mark_strs p2 (m + p0.length + p1.length) (by omega) (by omega)
  refine ⟨y0, y1, y2, ?_, ?_⟩
  · unfold laws_markPanel.f
    exact ev_bind (F := fun k => laws_markStringS.f k p0 m) e0 (ev_bind (F := fun k => laws_markStringS.f k p1 (m + p0.length)) e1 (ev_bind (F := fun k => laws_markStringS.f k p2 (m + p0.length + p1.length)) e2 (ev_const rfl)))
  · unfold laws_heldPanel.f
    refine ev_bind (F := fun k => laws_heldStringS.f k y0 m) f0 ?_
    simp only [if_neg (show ¬ m + (p0.length : Int) < 0 by omega)]
    refine ev_bind (F := fun k => laws_heldStringS.f k y1 (m + p0.length)) f1 ?_
    simp only [if_neg (show ¬ m + (p0.length : Int) + p1.length < 0 by omega)]
    refine ev_bind (F := fun k => laws_heldStringS.f k y2 (m + p0.length + p1.length)) f2 ?_
    simp only [if_neg (show ¬ m + (p0.length : Int) + p1.length + p2.length < 0 by omega)]
    exact ev_const rfl
theorem FnExactTake14 : laws_FnExactTake14.Pure := by
  intro l p0 p1 p2 a ⟨hl, hk⟩ g0 g1 g2 _
  suffices H : Ev (fun k => laws_FnExactTake14.f k l p0 p1 p2 a) true by obtain ⟨K, hK⟩ := H; exact ⟨K, hK K (Nat.le_refl _)⟩
  unfold laws_FnExactTake14.f
  by_cases ca : (a.size : Int) > 1048576
  · simp only [if_pos ca]; exact ev_const rfl
  simp only [if_neg ca]
  obtain ⟨v, hv, o⟩ := sz_rules l hl hk
  refine ev_bind (F := fun k => laws_szWarnRuleS.f k l 1048576) hv ?_
  by_cases c : v < 0
  · simp only [if_pos c]; exact ev_const rfl
  simp only [if_neg c]
  rcases o with o | ⟨v0, v1, h1, h2⟩
  · exact absurd o c
  obtain ⟨u, hu, o⟩ := sz_panel p0 p1 p2 v g0 g1 g2 v0 v1
  refine ev_bind (F := fun k => laws_szPanel.f k p0 p1 p2 v) hu ?_
  by_cases d : u < 0
  · simp only [if_pos d]; exact ev_const rfl
  simp only [if_neg d]
  rcases o with o | ⟨q0, q1, q2⟩
  · exact absurd o d
  have ht := to_rules l h1 h2
  have hf := fit_conv h1 h2
  have he := eq_rules (l.map conv) hf
  have tp := to_panel p0 p1 p2 q0 q1 q2
  have ep := eq_panel p0 p1 p2 (by omega) (by omega) (by omega)
  obtain ⟨⟨w0, w1, w2, w3⟩, s1, s2, b0, b1, b2⟩ := take_both (l.map conv) hf p0 p1 p2 q0 q1 q2 a
  have b0 : w0.length ≤ 1048577 := b0
  have b1 : w1.length ≤ 1048577 := b1
  have b2 : w2.length ≤ 1048577 := b2
  have ew := eq_panel w0 w1 w2 b0 b1 b2
  obtain ⟨m, hm, m1, m2⟩ := mark_rules (l.map conv) hf
  obtain ⟨z0, z1, z2, hz, _⟩ := mark_panel p0 p1 p2 m (by omega) (by omega) (by omega) (by omega) (by omega)
  obtain ⟨y0, y1, y2, hy, hh⟩ := mark_panel w0 w1 w2 1 (by omega) (by omega) b0 b1 b2
  have J2 : Ev (fun k => laws_FnExactTake14.j2 k (1 + w0.length + w1.length + w2.length) false y0 y1 y2) true := by
    refine ev_step (ev_bind (F := fun k => laws_heldPanel.f k y0 y1 y2 1) (G := fun _ t => (if t < 0 then (some false) else (if t = 1 + (w0.length : Int) + w1.length + w2.length then (some true) else (some false)))) hh ?_) fun k => ?_
    · simp only [if_true]; rw [if_neg (by omega)]; exact ev_const rfl
    · simp only [laws_FnExactTake14.j2, Bool.false_eq_true, if_false]
  have J1 : Ev (fun k => laws_FnExactTake14.j1 k l a w3 false p0 p1 p2 w0 w1 w2 w0 w1 w2) true := by
    have un : ∀ k, laws_FnExactTake14.j1 (k + 1) l a w3 false p0 p1 p2 w0 w1 w2 w0 w1 w2 = ((laws_markPanel.f k w0 w1 w2 1).bind fun bt424 => ((laws_heldPanel.f k bt424.2.1 bt424.2.2.1 bt424.2.2.2 1).bind fun t428 => (if t428 < 0 then (some false) else (if t428 = bt424.1 then ((laws_toWarnRuleS.f k l).bind fun t429 => ((laws_toPanel.f k p0 p1 p2).bind fun bt432 => ((impl_Take14.f k t429 bt432.1 bt432.2.1 bt432.2.2 a).bind fun bt441 => ((laws_eqPanel.f k bt441.1 bt441.2.1 bt441.2.2.1 w0 w1 w2).bind fun t452 => (if t452 = true then (laws_FnExactTake14.j2 k bt424.1 (bt441.2.2.2 != w3) bt424.2.1 bt424.2.2.1 bt424.2.2.2) else (laws_FnExactTake14.j2 k bt424.1 true bt424.2.1 bt424.2.2.1 bt424.2.2.2)))))) else (some false))))) := by
      intro k
      simp only [laws_FnExactTake14.j1, Bool.false_eq_true, if_false]
    refine ev_step (ev_bind (F := fun k => laws_markPanel.f k w0 w1 w2 1) hy (ev_bind (F := fun k => laws_heldPanel.f k y0 y1 y2 1) hh ?_)) un
    simp only [if_true]
    simp only [if_neg (show ¬ (1 + (w0.length : Int) + w1.length + w2.length < 0) by omega)]
    refine ev_bind (F := fun k => laws_toWarnRuleS.f k l) ht ?_
    refine ev_bind (F := fun k => laws_toPanel.f k p0 p1 p2) tp ?_
    refine ev_bind (F := fun k => impl_Take14.f k (l.map conv) p0 p1 p2 a) s2 ?_
    refine ev_bind (F := fun k => laws_eqPanel.f k w0 w1 w2 w0 w1 w2) ew ?_
    simp only [if_true, bne_self_eq_false]
    exact J2
  refine ev_bind (F := fun k => laws_toWarnRuleS.f k l) ht ?_
  refine ev_bind (F := fun k => laws_toPanel.f k p0 p1 p2) tp ?_
  refine ev_bind (F := fun k => spec_Take14.f k (l.map conv) p0 p1 p2 a) s1 ?_
  refine ev_bind (F := fun k => laws_toWarnRuleS.f k l) ht ?_
  refine ev_bind (F := fun k => laws_toPanel.f k p0 p1 p2) tp ?_
  refine ev_bind (F := fun k => impl_Take14.f k (l.map conv) p0 p1 p2 a) s2 ?_
  refine ev_bind (F := fun k => laws_eqPanel.f k w0 w1 w2 w0 w1 w2) ew ?_
  simp only [bne_self_eq_false, if_true]
  have un : ∀ k, laws_FnExactTake14.j0 (k + 1) l a w3 (l.map conv) w3 false p0 p1 p2 w0 w1 w2 p0 p1 p2 w0 w1 w2 = ((laws_toWarnRuleS.f k l).bind fun t404 => ((laws_eqWarnRuleS.f k (l.map conv) t404).bind fun t407 => (if t407 = true then ((laws_toPanel.f k p0 p1 p2).bind fun bt408 => ((laws_eqPanel.f k p0 p1 p2 bt408.1 bt408.2.1 bt408.2.2).bind fun t417 => (if t417 = true then ((laws_markWarnRuleS.f k (l.map conv) 1).bind fun t418 => ((laws_markPanel.f k p0 p1 p2 t418).bind fun bt419 => (if bt419.1 < 0 then (laws_FnExactTake14.j1 k l a w3 true p0 p1 p2 w0 w1 w2 w0 w1 w2) else ((laws_eqPanel.f k w0 w1 w2 w0 w1 w2).bind fun t423 => (if t423 = true then (laws_FnExactTake14.j1 k l a w3 false p0 p1 p2 w0 w1 w2 w0 w1 w2) else (laws_FnExactTake14.j1 k l a w3 true p0 p1 p2 w0 w1 w2 w0 w1 w2)))))) else (some false)))) else (some false)))) := by
    intro k
    simp only [laws_FnExactTake14.j0, Bool.false_eq_true, if_false, bne_self_eq_false]
  refine ev_step (ev_bind (F := fun k => laws_toWarnRuleS.f k l) ht (ev_bind (F := fun k => laws_eqWarnRuleS.f k (l.map conv) (l.map conv)) he ?_)) un
  simp only [if_true]
  refine ev_bind (F := fun k => laws_toPanel.f k p0 p1 p2) tp ?_
  refine ev_bind (F := fun k => laws_eqPanel.f k p0 p1 p2 p0 p1 p2) ep ?_
  simp only [if_true]
  refine ev_bind (F := fun k => laws_markWarnRuleS.f k (l.map conv) 1) hm ?_
  refine ev_bind (F := fun k => laws_markPanel.f k p0 p1 p2 m) hz ?_
  simp only [if_neg (show ¬ m + (p0.length : Int) + p1.length + p2.length < 0 by omega)]
  refine ev_bind (F := fun k => laws_eqPanel.f k w0 w1 w2 w0 w1 w2) ew ?_
  simp only [if_true]
  exact J1
end Go.Proofs.Ytjndpoofjidamaa.Pure.FnExactTake14
namespace Go.Proofs.Ytjndpoofjidamaa.Pure
theorem FnExactTake14 : Go.Proofs.Ytjndpoofjidamaa.PFnExactTake14.laws_FnExactTake14.Pure := FnExactTake14.FnExactTake14
end Go.Proofs.Ytjndpoofjidamaa.Pure
