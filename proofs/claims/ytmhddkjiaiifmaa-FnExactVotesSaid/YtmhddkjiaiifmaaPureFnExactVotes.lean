/- For every Voter and all rounds the program's Votes answers what the reference's answers, writes into nothing, keeps nothing, and owns its answer (FnExactVotes returns true); no condition. -/
import Derived.Test.YtmhddkjiaiifmaaAskFnExactVotes
import Derived.Test.YtmhddkjiaiifmaaNum
namespace Go.Proofs.Ytmhddkjiaiifmaa.Pure.FnExactVotes
open Go.RowKit Go.Proofs.Ytmhddkjiaiifmaa.PFnExactVotes Go.Proofs.YtmhddkjiaiifmaaW.PrintWords Go.Proofs.YtmhddkjiaiifmaaW.PrintLast Go.Proofs.YtmhddkjiaiifmaaW.PrintMore Go.Proofs.Ytmhddkjiaiifmaa.Num
set_option linter.unusedVariables false
set_option linter.unusedSimpArgs false
theorem in_s (a b c : Int) : spec_l1In.f a b c = some (decide (b ≤ a) && decide (a ≤ c)) := by
 unfold spec_l1In.f
 by_cases h : a ≥ b
 ·
  rw [if_pos h, decide_eq_true (show b ≤ a from h)]; rfl
 ·
  rw [if_neg h, decide_eq_false (show ¬ b ≤ a from h)]; rfl
theorem in_i (a b c : Int) : impl_in.f a b c = some (decide (b ≤ a) && decide (a ≤ c)) := by
 unfold impl_in.f
 by_cases h : a ≥ b
 ·
  rw [if_pos h, decide_eq_true (show b ≤ a from h)]; rfl
 ·
  rw [if_neg h, decide_eq_false (show ¬ b ≤ a from h)]; rfl
/-- All numbers are in bounds. -/
def All (xs : List Int) (lo hi : Int) : Prop := ∀ j : Nat, j < xs.length → lo ≤ rd xs (j : Int) ∧ rd xs (j : Int) ≤ hi
/-- Each number is above the one ahead. -/
def Rise (xs : List Int) : Prop := ∀ j : Nat, 1 ≤ j → j < xs.length → rd xs ((j - 1 : Nat) : Int) < rd xs (j : Int)
theorem allIn_l0 (xs : List Int) (lo hi : Int) (hn : xs.length ≤ 4611686018427387904) : ∀ (d k i : Nat), xs.length - i = d → i ≤ xs.length → d < k → ∃ b, impl_allIn.l0 k lo hi xs (xs.length : Int) (i : Int) = some b ∧ (b = true ↔ ∀ j : Nat, i ≤ j → j < xs.length → lo ≤ rd xs (j : Int) ∧ rd xs (j : Int) ≤ hi) := by
 intro d
 induction d with
 | zero =>
  intro k i hd hi' hk
  obtain ⟨k, rfl⟩ : ∃ m, k = m + 1 := ⟨k - 1, by omega⟩
  simp only [impl_allIn.l0]
  rw [if_neg (by omega)]
  exact ⟨true, rfl, by simp; intro j h1 h2; omega⟩
 | succ d ih =>
  intro k i hd hi' hk
  obtain ⟨k, rfl⟩ : ∃ m, k = m + 1 := ⟨k - 1, by omega⟩
  simp only [impl_allIn.l0, in_i, Option.bind_some]
  rw [if_pos (by omega), if_pos (by omega), if_pos (by omega), w64 (a := (i : Int) + 1) (by omega) (by omega), show (i : Int) + 1 = ((i + 1 : Nat) : Int) by omega, ← Bool.decide_and]
  by_cases h : lo ≤ rd xs (i : Int) ∧ rd xs (i : Int) ≤ hi
  ·
   rw [decide_eq_true h, if_pos rfl]
   obtain ⟨b, h1, h2⟩ := ih k (i + 1) (by omega) (by omega) (by omega)
   refine ⟨b, h1, h2.trans ⟨fun g j hj hl => ?_, fun g j hj hl => g j (by omega) hl⟩⟩
   by_cases e : j = i
   ·
    subst e; exact h
   ·
    exact g j (by omega) hl
  ·
   rw [decide_eq_false h, if_neg (by decide)]
   exact ⟨false, rfl, ⟨fun g => absurd g Bool.false_ne_true, fun g => absurd (g i (by omega) (by omega)) h⟩⟩
theorem allIn_i (xs : List Int) (lo hi : Int) (k : Nat) (hn : xs.length ≤ 4611686018427387904) (hk : xs.length < k) : ∃ b, impl_allIn.f k xs lo hi = some b ∧ (b = true ↔ All xs lo hi) := by
 obtain ⟨b, h1, h2⟩ := allIn_l0 xs lo hi hn xs.length k 0 (by omega) (by omega) hk
 exact ⟨b, h1, h2.trans ⟨fun g j hl => g j (by omega) hl, fun g j _ hl => g j hl⟩⟩
theorem l1All_l0 (xs : List Int) (lo hi : Int) (hn : xs.length ≤ 4611686018427387904) : ∀ (d k i : Nat), xs.length - i = d → i ≤ xs.length → d < k → ∃ b, spec_l1All.l0 k xs lo hi (i : Int) = some b ∧ (b = true ↔ ∀ j : Nat, i ≤ j → j < xs.length → lo ≤ rd xs (j : Int) ∧ rd xs (j : Int) ≤ hi) := by
 intro d
 induction d with
 | zero =>
  intro k i hd hi' hk
  obtain ⟨k, rfl⟩ : ∃ m, k = m + 1 := ⟨k - 1, by omega⟩
  simp only [spec_l1All.l0]
  rw [if_neg (by omega)]
  exact ⟨true, rfl, by simp; intro j h1 h2; omega⟩
 | succ d ih =>
  intro k i hd hi' hk
  obtain ⟨k, rfl⟩ : ∃ m, k = m + 1 := ⟨k - 1, by omega⟩
  simp only [spec_l1All.l0, in_s, Option.bind_some]
  rw [if_pos (by omega), if_pos (by omega), w64 (a := (i : Int) + 1) (by omega) (by omega), show (i : Int) + 1 = ((i + 1 : Nat) : Int) by omega, ← Bool.decide_and]
  by_cases h : lo ≤ rd xs (i : Int) ∧ rd xs (i : Int) ≤ hi
  ·
   rw [decide_eq_true h, if_pos rfl]
   obtain ⟨b, h1, h2⟩ := ih k (i + 1) (by omega) (by omega) (by omega)
   refine ⟨b, h1, h2.trans ⟨fun g j hj hl => ?_, fun g j hj hl => g j (by omega) hl⟩⟩
   by_cases e : j = i
   ·
    subst e; exact h
   ·
    exact g j (by omega) hl
  ·
   rw [decide_eq_false h, if_neg (by decide)]
   exact ⟨false, rfl, ⟨fun g => absurd g Bool.false_ne_true, fun g => absurd (g i (by omega) (by omega)) h⟩⟩
theorem all_s (xs : List Int) (lo hi : Int) (k : Nat) (hn : xs.length ≤ 4611686018427387904) (hk : xs.length < k) : ∃ b, spec_l1All.f k xs lo hi = some b ∧ (b = true ↔ All xs lo hi) := by
 obtain ⟨b, h1, h2⟩ := l1All_l0 xs lo hi hn xs.length k 0 (by omega) (by omega) hk
 exact ⟨b, h1, h2.trans ⟨fun g j hl => g j (by omega) hl, fun g j _ hl => g j hl⟩⟩
/-- From some count of rounds on it answers r. -/
def Ev {α : Type} (F : Nat → Option α) (r : α) : Prop := ∃ K, ∀ k, K ≤ k → F k = some r
theorem ev_step {α : Type} {F G : Nat → Option α} {r : α} (h : Ev G r) (e : ∀ k, F (k + 1) = G k) : Ev F r := by
 obtain ⟨K, h⟩ := h
 refine ⟨K + 1, fun k hk => ?_⟩
 obtain ⟨m, rfl⟩ : ∃ m, k = m + 1 := ⟨k - 1, by omega⟩
 rw [e m]; exact h m (by omega)
theorem ev_now {α : Type} {F : Nat → Option α} {r : α} (e : ∀ k, F (k + 1) = some r) : Ev F r :=
 ⟨1, fun k hk => by obtain ⟨m, rfl⟩ : ∃ m, k = m + 1 := ⟨k - 1, by omega⟩; exact e m⟩
theorem ev_const {α : Type} {o : Option α} {r : α} (e : o = some r) : Ev (fun _ => o) r := ⟨0, fun _ _ => e⟩
theorem ev_bind {α β : Type} {F : Nat → Option α} {G : Nat → α → Option β} {a : α} {r : β} (h : Ev F a) (g : Ev (fun k => G k a) r) : Ev (fun k => (F k).bind (G k)) r := by
 obtain ⟨K, h⟩ := h
 obtain ⟨L, g⟩ := g
 exact ⟨max K L, fun k hk => by show (F k).bind (G k) = _; rw [h k (by omega), Option.bind_some]; exact g k (by omega)⟩
theorem ev_cong {α : Type} {F G : Nat → Option α} {r : α} (h : Ev G r) (e : ∀ k, F k = G k) : Ev F r := by
 obtain ⟨K, h⟩ := h
 exact ⟨K, fun k hk => (e k).trans (h k hk)⟩
theorem laws_toIntS_l0 (x0 : List Int) (hn : x0.length ≤ 4611686018427387904) : ∀ (d k i : Nat) (x3 : List Int), x0.length - i = d → i ≤ x0.length → d < k → x3.length = x0.length → (∀ j, j < i → x3[j]? = x0[j]?) → laws_toIntS.l0 k x0 x3 (i : Int) = some x0 := by
 intro d
 induction d with
 | zero =>
  intro k i x3 hd hi hk hl hj
  obtain ⟨k, rfl⟩ : ∃ m, k = m + 1 := ⟨k - 1, by omega⟩
  simp only [laws_toIntS.l0]
  rw [if_neg (by omega)]
  congr 1
  apply List.ext_getElem?
  intro j
  by_cases h : j < i
  ·
   exact hj j h
  ·
   rw [List.getElem?_eq_none (by omega), List.getElem?_eq_none (by omega)]
 | succ d ih =>
  intro k i x3 hd hi hk hl hj
  obtain ⟨k, rfl⟩ : ∃ m, k = m + 1 := ⟨k - 1, by omega⟩
  have hlt : i < x0.length := by omega
  simp only [laws_toIntS.l0]
  rw [if_pos (by omega), if_pos (by omega), if_pos (by omega), w64 (a := (i : Int) + 1) (by omega) (by omega), show (i : Int) + 1 = ((i + 1 : Nat) : Int) by omega]
  refine ih k (i + 1) _ (by omega) (by omega) (by omega) (by simpa using hl) ?_
  intro j hj'
  have hr : rd x0 (i : Int) = x0[i] := by
   show x0.getD (i : Int).toNat 0 = _
   rw [Int.toNat_natCast, List.getD_eq_getElem?_getD, List.getElem?_eq_getElem hlt]; rfl
  simp only [Int.toNat_natCast, hr]
  by_cases e : j = i
  ·
   subst e
   rw [List.getElem?_set_self (by omega), List.getElem?_eq_getElem hlt]
  ·
   rw [List.getElem?_set_ne (fun h => e h.symm)]
   exact hj j (by omega)
theorem laws_toIntS_eq (x0 : List Int) (k : Nat) (hn : x0.length ≤ 35184372088832) (hk : x0.length < k) : laws_toIntS.f k x0 = some x0 := by
 unfold laws_toIntS.f
 rw [if_pos (by omega), if_pos (by rw [Int.toNat_natCast]; omega), Int.toNat_natCast]
 exact laws_toIntS_l0 x0 (by omega) x0.length k 0 _ (by omega) (by omega) hk (by simp) (fun j hj => by omega)

theorem laws_toBoolS_l0 (x0 : List Bool) (hn : x0.length ≤ 4611686018427387904) : ∀ (d k i : Nat) (x3 : List Bool), x0.length - i = d → i ≤ x0.length → d < k → x3.length = x0.length → (∀ j, j < i → x3[j]? = x0[j]?) → laws_toBoolS.l0 k x0 x3 (i : Int) = some x0 := by
 intro d
 induction d with
 | zero =>
  intro k i x3 hd hi hk hl hj
  obtain ⟨k, rfl⟩ : ∃ m, k = m + 1 := ⟨k - 1, by omega⟩
  simp only [laws_toBoolS.l0]
  rw [if_neg (by omega)]
  congr 1
  apply List.ext_getElem?
  intro j
  by_cases h : j < i
  ·
   exact hj j h
  ·
   rw [List.getElem?_eq_none (by omega), List.getElem?_eq_none (by omega)]
 | succ d ih =>
  intro k i x3 hd hi hk hl hj
  obtain ⟨k, rfl⟩ : ∃ m, k = m + 1 := ⟨k - 1, by omega⟩
  have hlt : i < x0.length := by omega
  simp only [laws_toBoolS.l0]
  rw [if_pos (by omega), if_pos (by omega), if_pos (by omega), w64 (a := (i : Int) + 1) (by omega) (by omega), show (i : Int) + 1 = ((i + 1 : Nat) : Int) by omega]
  refine ih k (i + 1) _ (by omega) (by omega) (by omega) (by simpa using hl) ?_
  intro j hj'
  have hr : rdOf false x0 (i : Int) = x0[i] := by
   show x0.getD (i : Int).toNat false = _
   rw [Int.toNat_natCast, List.getD_eq_getElem?_getD, List.getElem?_eq_getElem hlt]; rfl
  simp only [Int.toNat_natCast, hr]
  by_cases e : j = i
  ·
   subst e
   rw [List.getElem?_set_self (by omega), List.getElem?_eq_getElem hlt]
  ·
   rw [List.getElem?_set_ne (fun h => e h.symm)]
   exact hj j (by omega)
theorem laws_toBoolS_eq (x0 : List Bool) (k : Nat) (hn : x0.length ≤ 281474976710656) (hk : x0.length < k) : laws_toBoolS.f k x0 = some x0 := by
 unfold laws_toBoolS.f
 rw [if_pos (by omega), if_pos (by rw [Int.toNat_natCast]; omega), Int.toNat_natCast]
 exact laws_toBoolS_l0 x0 (by omega) x0.length k 0 _ (by omega) (by omega) hk (by simp) (fun j hj => by omega)

theorem laws_eqIntS_l0 (x0 : List Int) (hn : x0.length ≤ 4611686018427387904) : ∀ (d k i : Nat), x0.length - i = d → i ≤ x0.length → d < k → laws_eqIntS.l0 k x0 x0 (i : Int) = some true := by
 intro d
 induction d with
 | zero =>
  intro k i hd hi hk
  obtain ⟨k, rfl⟩ : ∃ m, k = m + 1 := ⟨k - 1, by omega⟩
  simp only [laws_eqIntS.l0]
  rw [if_neg (by omega)]
 | succ d ih =>
  intro k i hd hi hk
  obtain ⟨k, rfl⟩ : ∃ m, k = m + 1 := ⟨k - 1, by omega⟩
  simp only [laws_eqIntS.l0]
  rw [if_pos (by omega), if_pos (by omega), if_pos (by omega), w64 (a := (i : Int) + 1) (by omega) (by omega), show (i : Int) + 1 = ((i + 1 : Nat) : Int) by omega]
  rw [if_pos trivial]
  exact ih k (i + 1) (by omega) (by omega) (by omega)
theorem laws_eqIntS_eq (x0 : List Int) (k : Nat) (hn : x0.length ≤ 4611686018427387904) (hk : x0.length < k) : laws_eqIntS.f k x0 x0 = some true := by
 unfold laws_eqIntS.f
 rw [if_pos rfl]
 exact laws_eqIntS_l0 x0 hn x0.length k 0 (by omega) (by omega) hk

theorem laws_eqBoolS_l0 (x0 : List Bool) (hn : x0.length ≤ 4611686018427387904) : ∀ (d k i : Nat), x0.length - i = d → i ≤ x0.length → d < k → laws_eqBoolS.l0 k x0 x0 (i : Int) = some true := by
 intro d
 induction d with
 | zero =>
  intro k i hd hi hk
  obtain ⟨k, rfl⟩ : ∃ m, k = m + 1 := ⟨k - 1, by omega⟩
  simp only [laws_eqBoolS.l0]
  rw [if_neg (by omega)]
 | succ d ih =>
  intro k i hd hi hk
  obtain ⟨k, rfl⟩ : ∃ m, k = m + 1 := ⟨k - 1, by omega⟩
  simp only [laws_eqBoolS.l0]
  rw [if_pos (by omega), if_pos (by omega), if_pos (by omega), w64 (a := (i : Int) + 1) (by omega) (by omega), show (i : Int) + 1 = ((i + 1 : Nat) : Int) by omega]
  rw [if_neg (by simp)]
  exact ih k (i + 1) (by omega) (by omega) (by omega)
theorem laws_eqBoolS_eq (x0 : List Bool) (k : Nat) (hn : x0.length ≤ 4611686018427387904) (hk : x0.length < k) : laws_eqBoolS.f k x0 x0 = some true := by
 unfold laws_eqBoolS.f
 rw [if_pos rfl]
 exact laws_eqBoolS_l0 x0 hn x0.length k 0 (by omega) (by omega) hk

theorem laws_markIntS_l0 (m : Int) (n : Nat) (hm : 0 ≤ m) (hn : m + n ≤ 4611686018427387904) : ∀ (d k i : Nat) (x0 : List Int), x0.length = n → n - i = d → i ≤ n → d < k → (∀ j, j < i → x0[j]? = some (m + (j : Int))) → ∃ x, laws_markIntS.l0 k x0 (m + i) (i : Int) = some (m + n, x) ∧ x.length = n ∧ ∀ j, j < n → x[j]? = some (m + (j : Int)) := by
 intro d
 induction d with
 | zero =>
  intro k i x0 hl hd hi hk hj
  obtain ⟨k, rfl⟩ : ∃ m, k = m + 1 := ⟨k - 1, by omega⟩
  obtain rfl : i = n := by omega
  simp only [laws_markIntS.l0]
  rw [if_neg (by omega)]
  exact ⟨x0, rfl, hl, hj⟩
 | succ d ih =>
  intro k i x0 hl hd hi hk hj
  obtain ⟨k, rfl⟩ : ∃ m, k = m + 1 := ⟨k - 1, by omega⟩
  simp only [laws_markIntS.l0]
  rw [if_pos (by omega), if_pos (by omega), w64 (a := (i : Int) + 1) (by omega) (by omega), w64 (a := m + (i : Int) + 1) (by omega) (by omega), show (i : Int) + 1 = ((i + 1 : Nat) : Int) by omega, show m + (i : Int) + 1 = m + ((i + 1 : Nat) : Int) by omega]
  refine ih k (i + 1) _ (by simpa using hl) (by omega) (by omega) (by omega) ?_
  intro j hj'
  rw [Int.toNat_natCast]
  by_cases e : j = i
  ·
   subst e
   rw [List.getElem?_set_self (by omega)]
  ·
   rw [List.getElem?_set_ne (fun h => e h.symm)]
   exact hj j (by omega)
theorem laws_heldIntS_l0 (m : Int) (n : Nat) (hm : 0 ≤ m) (hn : m + n ≤ 4611686018427387904) (x : List Int) (hl : x.length = n) (hx : ∀ j, j < n → x[j]? = some (m + (j : Int))) : ∀ (d k i : Nat), n - i = d → i ≤ n → d < k → laws_heldIntS.l0 k x (m + i) (i : Int) = some (m + n) := by
 intro d
 induction d with
 | zero =>
  intro k i hd hi hk
  obtain ⟨k, rfl⟩ : ∃ m, k = m + 1 := ⟨k - 1, by omega⟩
  obtain rfl : i = n := by omega
  simp only [laws_heldIntS.l0]
  rw [if_neg (by omega)]
 | succ d ih =>
  intro k i hd hi hk
  obtain ⟨k, rfl⟩ : ∃ m, k = m + 1 := ⟨k - 1, by omega⟩
  simp only [laws_heldIntS.l0]
  have hr : rd x (i : Int) = (m + (i : Int)) := by
   show x.getD (i : Int).toNat 0 = _
   rw [Int.toNat_natCast, List.getD_eq_getElem?_getD, hx i (by omega)]; rfl
  rw [if_pos (by omega), if_pos (by omega), if_pos hr, w64 (a := (i : Int) + 1) (by omega) (by omega), w64 (a := m + (i : Int) + 1) (by omega) (by omega), show (i : Int) + 1 = ((i + 1 : Nat) : Int) by omega, show m + (i : Int) + 1 = m + ((i + 1 : Nat) : Int) by omega]
  exact ih k (i + 1) (by omega) (by omega) (by omega)
theorem mark_int (l : List Int) (m : Int) (hm : 0 ≤ m) (hn : m + l.length ≤ 4611686018427387904) (k : Nat) (hk : l.length < k) : ∃ x, laws_markIntS.f k l m = some (m + l.length, x) ∧ x.length = l.length ∧ ∀ k', l.length < k' → laws_heldIntS.f k' x m = some (m + l.length) := by
 obtain ⟨x, h1, h2, h3⟩ := laws_markIntS_l0 m l.length hm hn l.length k 0 l rfl (by omega) (by omega) hk (fun j hj => by omega)
 refine ⟨x, ?_, h2, fun k' hk' => ?_⟩
 ·
  unfold laws_markIntS.f
  have := h1
  rwa [show m + ((0 : Nat) : Int) = m by omega] at this
 ·
  unfold laws_heldIntS.f
  have := laws_heldIntS_l0 m l.length hm hn x h2 h3 l.length k' 0 (by omega) (by omega) hk'
  rwa [show m + ((0 : Nat) : Int) = m by omega] at this

theorem laws_markBoolS_l0 (m : Int) (n : Nat) (hm : 0 ≤ m) (hn : m + n ≤ 4611686018427387904) : ∀ (d k i : Nat) (x0 : List Bool), x0.length = n → n - i = d → i ≤ n → d < k → (∀ j, j < i → x0[j]? = some (Int.tmod (m + (j : Int)) 3 == 0)) → ∃ x, laws_markBoolS.l0 k x0 (m + i) (i : Int) = some (m + n, x) ∧ x.length = n ∧ ∀ j, j < n → x[j]? = some (Int.tmod (m + (j : Int)) 3 == 0) := by
 intro d
 induction d with
 | zero =>
  intro k i x0 hl hd hi hk hj
  obtain ⟨k, rfl⟩ : ∃ m, k = m + 1 := ⟨k - 1, by omega⟩
  obtain rfl : i = n := by omega
  simp only [laws_markBoolS.l0]
  rw [if_neg (by omega)]
  exact ⟨x0, rfl, hl, hj⟩
 | succ d ih =>
  intro k i x0 hl hd hi hk hj
  obtain ⟨k, rfl⟩ : ∃ m, k = m + 1 := ⟨k - 1, by omega⟩
  simp only [laws_markBoolS.l0]
  rw [if_pos (by omega), if_pos (by omega), w64 (a := (i : Int) + 1) (by omega) (by omega), w64 (a := m + (i : Int) + 1) (by omega) (by omega), show (i : Int) + 1 = ((i + 1 : Nat) : Int) by omega, show m + (i : Int) + 1 = m + ((i + 1 : Nat) : Int) by omega]
  refine ih k (i + 1) _ (by simpa using hl) (by omega) (by omega) (by omega) ?_
  intro j hj'
  rw [Int.toNat_natCast]
  by_cases e : j = i
  ·
   subst e
   rw [List.getElem?_set_self (by omega)]
  ·
   rw [List.getElem?_set_ne (fun h => e h.symm)]
   exact hj j (by omega)
theorem laws_heldBoolS_l0 (m : Int) (n : Nat) (hm : 0 ≤ m) (hn : m + n ≤ 4611686018427387904) (x : List Bool) (hl : x.length = n) (hx : ∀ j, j < n → x[j]? = some (Int.tmod (m + (j : Int)) 3 == 0)) : ∀ (d k i : Nat), n - i = d → i ≤ n → d < k → laws_heldBoolS.l0 k x (m + i) (i : Int) = some (m + n) := by
 intro d
 induction d with
 | zero =>
  intro k i hd hi hk
  obtain ⟨k, rfl⟩ : ∃ m, k = m + 1 := ⟨k - 1, by omega⟩
  obtain rfl : i = n := by omega
  simp only [laws_heldBoolS.l0]
  rw [if_neg (by omega)]
 | succ d ih =>
  intro k i hd hi hk
  obtain ⟨k, rfl⟩ : ∃ m, k = m + 1 := ⟨k - 1, by omega⟩
  simp only [laws_heldBoolS.l0]
  have hr : rdOf false x (i : Int) = (Int.tmod (m + (i : Int)) 3 == 0) := by
   show x.getD (i : Int).toNat false = _
   rw [Int.toNat_natCast, List.getD_eq_getElem?_getD, hx i (by omega)]; rfl
  rw [if_pos (by omega), if_pos (by omega), if_neg (by rw [hr]; simp), w64 (a := (i : Int) + 1) (by omega) (by omega), w64 (a := m + (i : Int) + 1) (by omega) (by omega), show (i : Int) + 1 = ((i + 1 : Nat) : Int) by omega, show m + (i : Int) + 1 = m + ((i + 1 : Nat) : Int) by omega]
  exact ih k (i + 1) (by omega) (by omega) (by omega)
theorem mark_bool (l : List Bool) (m : Int) (hm : 0 ≤ m) (hn : m + l.length ≤ 4611686018427387904) (k : Nat) (hk : l.length < k) : ∃ x, laws_markBoolS.f k l m = some (m + l.length, x) ∧ x.length = l.length ∧ ∀ k', l.length < k' → laws_heldBoolS.f k' x m = some (m + l.length) := by
 obtain ⟨x, h1, h2, h3⟩ := laws_markBoolS_l0 m l.length hm hn l.length k 0 l rfl (by omega) (by omega) hk (fun j hj => by omega)
 refine ⟨x, ?_, h2, fun k' hk' => ?_⟩
 ·
  unfold laws_markBoolS.f
  have := h1
  rwa [show m + ((0 : Nat) : Int) = m by omega] at this
 ·
  unfold laws_heldBoolS.f
  have := laws_heldBoolS_l0 m l.length hm hn x h2 h3 l.length k' 0 (by omega) (by omega) hk'
  rwa [show m + ((0 : Nat) : Int) = m by omega] at this

def VoterGood (near hold : Int) (o : List Bool) (l : List Int) : Prop := (0 ≤ near ∧ near ≤ 1000) ∧ (1 ≤ hold ∧ hold ≤ 20) ∧ (1 ≤ (o.length : Int) ∧ (o.length : Int) ≤ 5) ∧ (l.length : Int) = (o.length : Int) ∧ All l 0 hold
theorem voterOk (near hold : Int) (o : List Bool) (l : List Int) (k : Nat) (hn : l.length ≤ 4611686018427387904) (hk : l.length < k) : ∃ b, spec_VoterOk.f k near hold o l = some b ∧ impl_VoterOk.f k near hold o l = some b ∧ (b = true ↔ VoterGood near hold o l) := by
 obtain ⟨b1, e1, g1⟩ := all_s l 0 hold k hn hk
 obtain ⟨b2, e2, g2⟩ := allIn_i l 0 hold k hn hk
 have e : b2 = b1 := by rw [Bool.eq_iff_iff]; exact g2.trans g1.symm
 subst e
 unfold spec_VoterOk.f impl_VoterOk.f
 simp only [in_s, in_i, e1, e2, Option.bind_some, ← Bool.decide_and]
 by_cases h1 : (0 : Int) ≤ near ∧ near ≤ 1000
 ·
  rw [decide_eq_true h1, if_pos rfl]
  by_cases h2 : (1 : Int) ≤ hold ∧ hold ≤ 20
  ·
   rw [decide_eq_true h2, if_pos rfl]
   by_cases h3 : (1 : Int) ≤ (o.length : Int) ∧ (o.length : Int) ≤ 5
   ·
    rw [decide_eq_true h3, if_pos rfl]
    by_cases h4 : (l.length : Int) = (o.length : Int)
    ·
     rw [if_pos h4]
     exact ⟨b2, rfl, rfl, g1.trans ⟨fun g => ⟨h1, h2, h3, h4, g⟩, fun g => g.2.2.2.2⟩⟩
    ·
     rw [if_neg h4]
     exact ⟨false, rfl, rfl, ⟨fun g => absurd g Bool.false_ne_true, fun g => absurd g.2.2.2.1 h4⟩⟩
   ·
    rw [decide_eq_false h3, if_neg (by decide)]
    exact ⟨false, rfl, rfl, ⟨fun g => absurd g Bool.false_ne_true, fun g => absurd g.2.2.1 h3⟩⟩
  ·
   rw [decide_eq_false h2, if_neg (by decide)]
   exact ⟨false, rfl, rfl, ⟨fun g => absurd g Bool.false_ne_true, fun g => absurd g.2.1 h2⟩⟩
 ·
  rw [decide_eq_false h1, if_neg (by decide)]
  exact ⟨false, rfl, rfl, ⟨fun g => absurd g Bool.false_ne_true, fun g => absurd g.1 h1⟩⟩
/-- What is heard from a lane on, in the lanes' order. -/
def raw (o : List Bool) (l : List Int) : Nat → Nat → List Int
 | 0, _ => []
 | d + 1, i => if rdOf false o (i : Int) = true then raw o l d (i + 1) else rd l (i : Int) :: raw o l d (i + 1)
theorem raw_len (o : List Bool) (l : List Int) : ∀ (d i : Nat), (raw o l d i).length ≤ d
 | 0, _ => Nat.le_refl _
 | d + 1, i => by
  have := raw_len o l d (i + 1)
  simp only [raw]
  split
  ·
   omega
  ·
   simp only [List.length_cons]; omega
def srt (x : List Int) : List Int := x.mergeSort fun a b => decide (a ≤ b)
theorem srt_len (x : List Int) : (srt x).length = x.length := List.length_mergeSort x
theorem srt_sorted (x : List Int) : (srt x).Pairwise (· ≤ ·) := by
 have := List.pairwise_mergeSort (le := fun a b : Int => decide (a ≤ b)) (fun a b c h1 h2 => by
  rw [decide_eq_true_eq] at *; omega) (fun a b => by
  rw [Bool.or_eq_true, decide_eq_true_eq, decide_eq_true_eq]; omega) x
 exact this.imp (fun h => of_decide_eq_true h)
theorem srt_uniq {x y : List Int} (h : y.Pairwise (· ≤ ·)) (hp : y.Perm x) : y = srt x :=
 List.Perm.eq_of_pairwise (le := fun a b : Int => a ≤ b) (fun a b _ _ h1 h2 => by omega) h (srt_sorted x) (hp.trans (List.mergeSort_perm x _).symm)
theorem heard_i (o : List Bool) (l : List Int) (hl : l.length = o.length) (hn : o.length ≤ 5) : ∀ (d i : Nat) (x : List Int), o.length - i = d → i ≤ o.length → x.length ≤ i → Ev (fun k => impl_heard.l0 k l x o (o.length : Int) (i : Int)) (srt (x ++ raw o l d i)) := by
 intro d
 induction d with
 | zero =>
  intro i x hd hi hx
  refine ev_now fun k => ?_
  simp only [impl_heard.l0, raw, List.append_nil, slices_Sort_int_int.f]
  rw [if_neg (by omega), if_pos (by omega)]
  rfl
 | succ d ih =>
  intro i x hd hi hx
  have w1 : wrap64 ((i : Int) + 1) = ((i + 1 : Nat) : Int) := by rw [w64 (by omega) (by omega)]; omega
  simp only [raw]
  by_cases h : rdOf false o (i : Int) = true
  ·
   rw [if_pos h]
   refine ev_step (ih (i + 1) x (by omega) (by omega) (by omega)) fun k => ?_
   simp only [impl_heard.l0, w1]
   rw [if_pos (by omega), if_pos (by omega), if_pos (by omega), if_pos h]
  ·
   rw [if_neg h]
   have := ih (i + 1) (x ++ [rd l (i : Int)]) (by omega) (by omega) (by simp; omega)
   rw [List.append_assoc, List.singleton_append] at this
   refine ev_step this fun k => ?_
   simp only [impl_heard.l0, w1]
   rw [if_pos (by omega), if_pos (by omega), if_pos (by omega), if_neg h, if_pos (by omega), if_pos (by omega)]
def ins (v : Int) : List Int → List Int
 | [] => [v]
 | a :: t => if a < v then a :: ins v t else v :: a :: t
theorem ins_perm (v : Int) : ∀ x : List Int, (ins v x).Perm (v :: x)
 | [] => List.Perm.refl _
 | a :: t => by
  simp only [ins]
  split
  ·
   exact ((ins_perm v t).cons a).trans (List.Perm.swap v a t)
  ·
   exact List.Perm.refl _
theorem ins_sorted (v : Int) : ∀ x : List Int, x.Pairwise (· ≤ ·) → (ins v x).Pairwise (· ≤ ·)
 | [], _ => by simp [ins]
 | a :: t, h => by
  simp only [ins]
  obtain ⟨h1, h2⟩ := List.pairwise_cons.1 h
  split
  ·
   refine List.pairwise_cons.2 ⟨fun b hb => ?_, ins_sorted v t h2⟩
   rcases List.mem_cons.1 ((ins_perm v t).mem_iff.1 hb) with rfl | hb
   ·
    omega
   ·
    exact h1 b hb
  ·
   refine List.pairwise_cons.2 ⟨fun b hb => ?_, h⟩
   rcases List.mem_cons.1 hb with rfl | hb
   ·
    omega
   ·
    have := h1 b hb; omega
/-- Where v goes in: behind what is less, from a place on. -/
theorem ins_at (v : Int) (x : List Int) : ∀ (p : List Int) (t : List Int), x = p ++ t → (∀ a ∈ p, a < v) → p ++ ins v t = ins v x
 | [], t, h, _ => by rw [h]; rfl
 | a :: p, t, h, hp => by
  have := ins_at v (p ++ t) p t rfl (fun b hb => hp b (List.mem_cons_of_mem _ hb))
  rw [h, List.cons_append, List.cons_append, this]
  simp only [ins]
  rw [if_pos (hp a List.mem_cons_self)]
theorem heard_ins (o : List Bool) (l : List Int) (near hold : Int) (odd : List Int) (hl : l.length ≤ 5) (i : Nat) (hi : i < l.length) (x : List Int) (hx : x.length ≤ 5) (r : List Int) (he : Ev (fun k => spec_l8Heard.l0 k l (ins (rd l (i : Int)) x) (wrap64 ((i : Int) + 1)) near hold o odd) r) : ∀ (d j : Nat), x.length - j = d → j ≤ x.length → (∀ a ∈ x.take j, a < rd l (i : Int)) → Ev (fun k => spec_l8Heard.l1 k l x (i : Int) (j : Int) near hold o odd) r := by
 have stop : ∀ j : Nat, j ≤ x.length → (∀ a ∈ x.take j, a < rd l (i : Int)) → (∀ h : j < x.length, ¬ x[j] < rd l (i : Int)) → x.take j ++ (rd l (i : Int) :: x.drop j) = ins (rd l (i : Int)) x := by
  intro j hj ha hb
  have := ins_at (rd l (i : Int)) x (x.take j) (x.drop j) (List.take_append_drop j x).symm ha
  rw [← this]
  congr 1
  by_cases h : j < x.length
  ·
   rw [List.drop_eq_getElem_cons h]
   simp only [ins]
   rw [if_neg (hb h)]
  ·
   rw [List.drop_eq_nil_of_le (by omega)]; rfl
 intro d
 induction d with
 | zero =>
  intro j hd hj ha
  refine ev_step he fun k => ?_
  have e := stop j hj ha (fun h => by omega)
  simp only [spec_l8Heard.l1, Option.bind_some, Int.toNat_natCast, List.singleton_append, List.nil_append, e]
  rw [if_neg (by omega), if_pos (by omega), if_pos (by omega), if_pos (by omega), if_pos (by omega), if_pos (by simp; omega), if_pos (by simp; omega), if_pos (by simp; omega)]
 | succ d ih =>
  intro j hd hj ha
  have hlt : j < x.length := by omega
  have hr : rd x (j : Int) = x[j] := by
   show x.getD (j : Int).toNat 0 = _
   rw [Int.toNat_natCast, List.getD_eq_getElem?_getD, List.getElem?_eq_getElem hlt]; rfl
  have w1 : wrap64 ((j : Int) + 1) = ((j + 1 : Nat) : Int) := by rw [w64 (by omega) (by omega)]; omega
  by_cases h : x[j] < rd l (i : Int)
  ·
   refine ev_step (ih (j + 1) (by omega) (by omega) (fun a hm => ?_)) fun k => ?_
   ·
    rw [List.take_succ_eq_append_getElem hlt] at hm
    rcases List.mem_append.1 hm with hm | hm
    ·
     exact ha a hm
    ·
     rw [List.mem_singleton.1 hm]; exact h
   ·
    simp only [spec_l8Heard.l1, hr, w1]
    rw [if_pos (by omega), if_pos (by omega), if_pos (by omega), if_pos (by omega), if_pos h]
  ·
   refine ev_step he fun k => ?_
   have e := stop j hj ha (fun _ => h)
   simp only [spec_l8Heard.l1, hr, Option.bind_some, Int.toNat_natCast, List.singleton_append, List.nil_append, e]
   rw [if_pos (by omega), if_pos (by omega), if_pos (by omega), if_pos (by omega), if_neg h, if_pos (by omega), if_pos (by simp; omega), if_pos (by simp; omega), if_pos (by simp; omega)]
theorem heard_s (o : List Bool) (l : List Int) (near hold : Int) (odd : List Int) (hl : l.length = o.length) (hn : o.length ≤ 5) : ∀ (d i : Nat) (x : List Int), o.length - i = d → i ≤ o.length → x.length ≤ i → x.Pairwise (· ≤ ·) → ∃ y, y.Pairwise (· ≤ ·) ∧ y.Perm (x ++ raw o l d i) ∧ Ev (fun k => spec_l8Heard.l0 k l x (i : Int) near hold o odd) y := by
 intro d
 induction d with
 | zero =>
  intro i x hd hi hx hs
  refine ⟨x, hs, by simp [raw], ev_now fun k => ?_⟩
  simp only [spec_l8Heard.l0]
  rw [if_neg (by omega)]
 | succ d ih =>
  intro i x hd hi hx hs
  have w1 : wrap64 ((i : Int) + 1) = ((i + 1 : Nat) : Int) := by rw [w64 (by omega) (by omega)]; omega
  simp only [raw]
  by_cases h : rdOf false o (i : Int) = true
  ·
   rw [if_pos h]
   obtain ⟨y, y1, y2, y3⟩ := ih (i + 1) x (by omega) (by omega) (by omega) hs
   refine ⟨y, y1, y2, ev_step y3 fun k => ?_⟩
   simp only [spec_l8Heard.l0, w1]
   rw [if_pos (by omega), if_pos (by omega), if_pos (by omega), if_pos h]
  ·
   rw [if_neg h]
   have hp := ins_perm (rd l (i : Int)) x
   obtain ⟨y, y1, y2, y3⟩ := ih (i + 1) (ins (rd l (i : Int)) x) (by omega) (by omega) (by have := hp.length_eq; simp at this; omega) (ins_sorted _ x hs)
   rw [← w1] at y3
   refine ⟨y, y1, y2.trans ?_, ev_step (heard_ins o l near hold odd (by omega) i (by omega) x (by omega) y y3 x.length 0 (by omega) (by omega) (fun a ha => by simp at ha)) fun k => ?_⟩
   ·
    exact (hp.append_right _).trans List.perm_middle.symm
   ·
    simp only [spec_l8Heard.l0]
    rw [if_pos (by omega), if_pos (by omega), if_pos (by omega), if_neg h]
    rfl
theorem heard_both (o : List Bool) (l : List Int) (near hold : Int) (odd : List Int) (hl : l.length = o.length) (hn : o.length ≤ 5) : Ev (fun k => spec_l8Heard.f k near hold o odd l) (srt (raw o l o.length 0)) ∧ Ev (fun k => impl_heard.f k near hold o odd l) (srt (raw o l o.length 0)) := by
 obtain ⟨y, y1, y2, y3⟩ := heard_s o l near hold odd hl hn o.length 0 [] (by omega) (by omega) (by simp) List.Pairwise.nil
 rw [List.nil_append] at y2
 have e := srt_uniq y1 y2
 subst e
 exact ⟨y3, heard_i o l hl hn o.length 0 [] (by omega) (by omega) (by simp)⟩
theorem seen_both (near hold : Int) (o : List Bool) (odd l : List Int) (hn : odd.length + l.length ≤ 4611686018427387904) : ∃ b, Ev (fun k => spec_l8Seen.f k near hold o odd l) b ∧ Ev (fun k => impl_seenOk.f k near hold o odd l) b ∧ (b = true ↔ VoterGood near hold o odd ∧ l.length = o.length ∧ All l (-1000000) 1000000) := by
 have hv : ∃ b, (∀ k, odd.length < k → spec_VoterOk.f k near hold o odd = some b) ∧ (∀ k, odd.length < k → impl_VoterOk.f k near hold o odd = some b) ∧ (b = true ↔ VoterGood near hold o odd) := by
  obtain ⟨b, e1, e2, e3⟩ := voterOk near hold o odd (odd.length + 1) (by omega) (by omega)
  refine ⟨b, fun k hk => ?_, fun k hk => ?_, e3⟩
  ·
   obtain ⟨b', f1, f2, f3⟩ := voterOk near hold o odd k (by omega) hk
   have : b' = b := by rw [Bool.eq_iff_iff]; exact f3.trans e3.symm
   subst this; exact f1
  ·
   obtain ⟨b', f1, f2, f3⟩ := voterOk near hold o odd k (by omega) hk
   have : b' = b := by rw [Bool.eq_iff_iff]; exact f3.trans e3.symm
   subst this; exact f2
 have ha : ∃ b, (∀ k, l.length < k → spec_l1All.f k l (-1000000) 1000000 = some b) ∧ (∀ k, l.length < k → impl_allIn.f k l (-1000000) 1000000 = some b) ∧ (b = true ↔ All l (-1000000) 1000000) := by
  obtain ⟨b, e1, e2⟩ := all_s l (-1000000) 1000000 (l.length + 1) (by omega) (by omega)
  refine ⟨b, fun k hk => ?_, fun k hk => ?_, e2⟩
  ·
   obtain ⟨b', f1, f2⟩ := all_s l (-1000000) 1000000 k (by omega) hk
   have : b' = b := by rw [Bool.eq_iff_iff]; exact f2.trans e2.symm
   subst this; exact f1
  ·
   obtain ⟨b', f1, f2⟩ := allIn_i l (-1000000) 1000000 k (by omega) hk
   have : b' = b := by rw [Bool.eq_iff_iff]; exact f2.trans e2.symm
   subst this; exact f1
 obtain ⟨b, b1, b2, b3⟩ := hv
 obtain ⟨c, c1, c2, c3⟩ := ha
 refine ⟨b && (decide ((l.length : Int) = (o.length : Int)) && c), ⟨odd.length + l.length + 1, fun k hk => ?_⟩, ⟨odd.length + l.length + 1, fun k hk => ?_⟩, ?_⟩
 ·
  show spec_l8Seen.f k near hold o odd l = _
  unfold spec_l8Seen.f
  rw [b1 k (by omega), c1 k (by omega)]
  cases b
  ·
   rfl
  ·
   simp only [Option.bind_some, if_true, Bool.true_and]
   by_cases h : (l.length : Int) = (o.length : Int)
   ·
    rw [if_pos h, decide_eq_true h, Bool.true_and]
   ·
    rw [if_neg h, decide_eq_false h, Bool.false_and]
 ·
  show impl_seenOk.f k near hold o odd l = _
  unfold impl_seenOk.f
  rw [b2 k (by omega), c2 k (by omega)]
  cases b
  ·
   rfl
  ·
   simp only [Option.bind_some, if_true, Bool.true_and]
   by_cases h : (l.length : Int) = (o.length : Int)
   ·
    rw [if_pos h, decide_eq_true h, Bool.true_and]
   ·
    rw [if_neg h, decide_eq_false h, Bool.false_and]
 ·
  rw [Bool.and_eq_true, Bool.and_eq_true, b3, c3, decide_eq_true_eq]
  exact ⟨fun ⟨a, b, c⟩ => ⟨a, by omega, c⟩, fun ⟨a, b, c⟩ => ⟨a, by omega, c⟩⟩
theorem toVoter (a b : Int) (o : List Bool) (l : List Int) (k : Nat) (hn : o.length + l.length ≤ 1048576) (hk : o.length + l.length < k) : laws_toVoter.f k a b o l = some (a, b, o, l) := by
 unfold laws_toVoter.f
 rw [laws_toBoolS_eq o _ (by omega) (by omega), laws_toIntS_eq l _ (by omega) (by omega)]; rfl
theorem eqVoter (a b : Int) (o : List Bool) (l : List Int) (k : Nat) (hn : o.length + l.length ≤ 1048576) (hk : o.length + l.length < k) : laws_eqVoter.f k a b o l a b o l = some true := by
 unfold laws_eqVoter.f
 rw [if_pos rfl, if_pos rfl, laws_eqBoolS_eq o _ (by omega) (by omega), laws_eqIntS_eq l _ (by omega) (by omega)]; rfl
theorem floor_i {a b : Int} (hb : 1 ≤ b) (h1 : -4611686018427387904 ≤ a) (h2 : a ≤ 4611686018427387904) : impl_floorOver.f a b = some (a / b) := by
 have hf := floor_tdiv (a := a) hb
 have ht := tdiv_in (M := 4611686018427387904) hb h1 h2
 have w : wrap64 (a.tdiv b) = a.tdiv b := w64 (by omega) (by omega)
 have w' : wrap64 (a.tdiv b - 1) = a.tdiv b - 1 := w64 (by omega) (by omega)
 have hbn : decide (b < 0) = false := decide_eq_false (by omega)
 unfold impl_floorOver.f
 rw [if_neg (show ¬ b = 0 by omega), w, w', hbn]
 by_cases hm : a.tmod b = 0
 ·
  rw [if_pos hm, hf.1 hm]
 ·
  rw [if_neg hm]
  by_cases ha : a < 0
  ·
   rw [decide_eq_true ha, if_pos (by decide), hf.2.2.1 hm ha]
  ·
   rw [decide_eq_false ha, if_neg (by decide), hf.2.1 hm (by omega)]
theorem down_s {a b : Int} (hb : 1 ≤ b) (h1 : -4611686018427387904 ≤ a) (h2 : a ≤ 4611686018427387904) : spec_l1Down.f a b = some (a / b) := by
 have hf := floor_tdiv (a := a) hb
 have ht := tdiv_in (M := 4611686018427387904) hb h1 h2
 have w : wrap64 (a.tdiv b) = a.tdiv b := w64 (by omega) (by omega)
 have w' : wrap64 (a.tdiv b - 1) = a.tdiv b - 1 := w64 (by omega) (by omega)
 unfold spec_l1Down.f
 rw [if_neg (show ¬ b = 0 by omega), w, w']
 by_cases hm : a.tmod b < 0
 ·
  rw [if_pos hm, hf.2.2.1 (hf.2.2.2.1 hm).1 (hf.2.2.2.1 hm).2]
 ·
  rw [if_neg hm]
  by_cases hz : a.tmod b = 0
  ·
   rw [hf.1 hz]
  ·
   rw [hf.2.1 hz (by have := hf.2.2.2; by_cases ha : a < 0; exact absurd (this.2 ⟨hz, ha⟩) hm; omega)]
theorem rd_all {xs : List Int} {lo hi : Int} (h : All xs lo hi) (h0 : lo ≤ 0) (h1 : 0 ≤ hi) (i : Int) : lo ≤ rd xs i ∧ rd xs i ≤ hi := by
 by_cases c : i.toNat < xs.length
 ·
  have := h i.toNat c
  rwa [show rd xs ((i.toNat : Nat) : Int) = rd xs i by
   show xs.getD ((i.toNat : Nat) : Int).toNat 0 = xs.getD i.toNat 0
   rw [Int.toNat_natCast]] at this
 ·
  show lo ≤ xs.getD i.toNat 0 ∧ xs.getD i.toNat 0 ≤ hi
  rw [List.getD_eq_getElem?_getD, List.getElem?_eq_none (by omega)]; exact ⟨h0, h1⟩
theorem rd_in {xs : List Int} {lo hi : Int} (h : ∀ a ∈ xs, lo ≤ a ∧ a ≤ hi) (h0 : lo ≤ 0) (h1 : 0 ≤ hi) (i : Int) : lo ≤ rd xs i ∧ rd xs i ≤ hi := by
 show lo ≤ xs.getD i.toNat 0 ∧ xs.getD i.toNat 0 ≤ hi
 rw [List.getD_eq_getElem?_getD]
 by_cases c : i.toNat < xs.length
 ·
  rw [List.getElem?_eq_getElem c]; exact h _ (List.getElem_mem c)
 ·
  rw [List.getElem?_eq_none (by omega)]; exact ⟨h0, h1⟩
theorem raw_in (o : List Bool) (l : List Int) {lo hi : Int} (h : ∀ i, lo ≤ rd l i ∧ rd l i ≤ hi) : ∀ (d i : Nat), ∀ a ∈ raw o l d i, lo ≤ a ∧ a ≤ hi
 | 0, _, a, ha => by simp [raw] at ha
 | d + 1, i, a, ha => by
  simp only [raw] at ha
  split at ha
  ·
   exact raw_in o l h d (i + 1) a ha
  ·
   rcases List.mem_cons.1 ha with rfl | ha
   ·
    exact h _
   ·
    exact raw_in o l h d (i + 1) a ha
theorem srt_in {x : List Int} {lo hi : Int} (h : ∀ a ∈ x, lo ≤ a ∧ a ≤ hi) : ∀ a ∈ srt x, lo ≤ a ∧ a ≤ hi := fun a ha => h a ((List.mergeSort_perm x _).mem_iff.1 ha)
theorem abs_both (d : Int) (h1 : -4000000 ≤ d) (h2 : d ≤ 4000000) : ∃ z, spec_l1Abs.f d = some z ∧ impl_size.f d = some z := by
 have w : wrap64 (-d) = -d := w64 (by omega) (by omega)
 unfold spec_l1Abs.f impl_size.f mx
 rw [w]
 by_cases c : d < 0
 ·
  exact ⟨-d, by rw [if_pos c], by rw [if_pos (by omega)]⟩
 ·
  refine ⟨d, by rw [if_neg c], ?_⟩
  by_cases c2 : d < -d
  ·
   omega
  ·
   rw [if_neg c2]
theorem min_both (a b : Int) : spec_l1Min.f b a = some (mn a b) := by
 unfold spec_l1Min.f mn
 by_cases c : b < a
 ·
  rw [if_pos c, if_pos c]
 ·
  rw [if_neg c, if_neg c]
theorem get_rd {a b : List Int} {i : Nat} (h : a[i]? = b[i]?) : rd a (i : Int) = rd b (i : Int) := by
 show a.getD (i : Int).toNat 0 = b.getD (i : Int).toNat 0
 rw [Int.toNat_natCast, List.getD_eq_getElem?_getD, List.getD_eq_getElem?_getD, h]
theorem get_rdOf {a b : List Bool} {i : Nat} (h : a[i]? = b[i]?) : rdOf false a (i : Int) = rdOf false b (i : Int) := by
 show a.getD (i : Int).toNat false = b.getD (i : Int).toNat false
 rw [Int.toNat_natCast, List.getD_eq_getElem?_getD, List.getD_eq_getElem?_getD, h]
theorem vote_loop (near hold x : Int) (o : List Bool) (odd l : List Int) (hl : l.length = o.length) (hd : odd.length = o.length) (hn : o.length ≤ 5) (hx1 : -1000000 ≤ x) (hx2 : x ≤ 1000000) (hL : ∀ i, -1000000 ≤ rd l i ∧ rd l i ≤ 1000000) (hO : ∀ i, 0 ≤ rd odd i ∧ rd odd i ≤ 20) :
  ∀ (d i : Nat) (oo : List Bool) (od : List Int), o.length - i = d → i ≤ o.length → oo.length = o.length → od.length = o.length → (∀ j, i ≤ j → oo[j]? = o[j]? ∧ od[j]? = odd[j]?) → ∃ ro rod, ro.length = o.length ∧ rod.length = o.length ∧
   Ev (fun k => spec_Vote.l0 k l x (i : Int) near hold o odd near hold oo od) (near, hold, ro, rod, x, 3) ∧ Ev (fun k => impl_Vote.l0 k l x 3 (o.length : Int) (i : Int) near hold o odd near hold oo od) (near, hold, ro, rod, x, 3) := by
 intro d
 induction d with
 | zero =>
  intro i oo od hd' hi h1 h2 _
  refine ⟨oo, od, h1, h2, ev_now fun k => ?_, ev_now fun k => ?_⟩
  ·
   simp only [spec_Vote.l0]; rw [if_neg (by omega)]
  ·
   simp only [impl_Vote.l0]; rw [if_neg (by omega)]
 | succ d ih =>
  intro i oo od hd' hi h1 h2 hs
  have w1 : wrap64 ((i : Int) + 1) = ((i + 1 : Nat) : Int) := by rw [w64 (by omega) (by omega)]; omega
  have hr : rdOf false oo (i : Int) = rdOf false o (i : Int) := get_rdOf (hs i (Nat.le_refl _)).1
  have hq : rd od (i : Int) = rd odd (i : Int) := get_rd (hs i (Nat.le_refl _)).2
  by_cases c : rdOf false o (i : Int) = true
  ·
   obtain ⟨ro, rod, g1, g2, e1, e2⟩ := ih (i + 1) oo od (by omega) (by omega) h1 h2 (fun j hj => hs j (by omega))
   refine ⟨ro, rod, g1, g2, ev_step e1 fun k => ?_, ev_step e2 fun k => ?_⟩
   ·
    simp only [spec_Vote.l0, w1]
    clear w1 ih hs
    rw [if_pos (by omega), if_pos (by omega), if_pos (by omega), if_pos c]
   ·
    simp only [impl_Vote.l0, w1, hr]
    clear w1 ih hs
    rw [if_pos (by omega), if_pos (by omega), if_pos (by omega), if_pos c]
  ·
   have hLi := hL (i : Int)
   have hOi := hO (i : Int)
   have w2 : wrap64 (rd l (i : Int) - x) = rd l (i : Int) - x := w64 (by omega) (by omega)
   have w3 : wrap64 (rd odd (i : Int) + 1) = rd odd (i : Int) + 1 := w64 (by omega) (by omega)
   obtain ⟨z, z1, z2⟩ := abs_both (rd l (i : Int) - x) (by omega) (by omega)
   have step : ∀ v : Int, (z > near → v = mn (rd odd (i : Int) + 1) hold) → (¬ z > near → v = 0) → ∃ ro rod, ro.length = o.length ∧ rod.length = o.length ∧
     Ev (fun k => spec_Vote.l0 k l x (i : Int) near hold o odd near hold oo od) (near, hold, ro, rod, x, 3) ∧ Ev (fun k => impl_Vote.l0 k l x 3 (o.length : Int) (i : Int) near hold o odd near hold oo od) (near, hold, ro, rod, x, 3) := by
    intro v v1 v2
    obtain ⟨ro, rod, g1, g2, e1, e2⟩ := ih (i + 1) (oo.set i (rd (od.set i v) (i : Int) == hold)) (od.set i v) (by omega) (by omega) (by rw [List.length_set]; exact h1) (by rw [List.length_set]; exact h2) (fun j hj => by
     rw [List.getElem?_set_ne (by omega), List.getElem?_set_ne (by omega)]
     exact hs j (by omega))
    refine ⟨ro, rod, g1, g2, ev_step e1 fun k => ?_, ev_step e2 fun k => ?_⟩
    ·
     simp only [spec_Vote.l0, w1, w2, w3, z1, min_both, Option.bind_some, Int.toNat_natCast]
     clear w1 w2 w3 ih hs e1 e2
     rw [if_pos (by omega), if_pos (by omega), if_pos (by omega), if_neg c]
     by_cases cz : z > near
     ·
      rw [if_pos cz, if_pos (by omega), if_pos (by omega), if_pos (by omega), ← v1 cz]
     ·
      rw [if_neg cz, if_pos (by omega), if_pos (by omega), v2 cz]
    ·
     simp only [impl_Vote.l0, w1, w2, w3, z2, hq, hr, Option.bind_some, Int.toNat_natCast]
     clear w1 w2 w3 ih hs e1 e2
     rw [if_pos (by omega), if_pos (by omega), if_pos (by omega), if_neg c, if_pos (by omega)]
     by_cases cz : z > near
     ·
      rw [if_pos cz, if_pos (by omega), ← v1 cz]
     ·
      rw [if_neg cz, if_pos (by omega), v2 cz]
   by_cases cz : z > near
   ·
    exact step _ (fun _ => rfl) (fun h => absurd cz h)
   ·
    exact step 0 (fun h => absurd h cz) (fun _ => rfl)
/-- What is said together, told for each number of lanes that are heard. -/
theorem value_cases (h : List Int) (hn : h.length ≤ 5) (hM : ∀ i, -1000000 ≤ rd h i ∧ rd h i ≤ 1000000) :
  (h.length = 0 ∧ impl_value.f h = some (0, 0)) ∨ (h.length = 1 ∧ impl_value.f h = some (rd h 0, 1)) ∨
  (h.length = 2 ∧ ∃ x, impl_value.f h = some (x, 2) ∧ spec_l1Down.f (wrap64 (rd h 0 + rd h 1)) 2 = some x) ∨
  (3 ≤ h.length ∧ ∃ x : Int, -1000000 ≤ x ∧ x ≤ 1000000 ∧ impl_value.f h = some (x, 3) ∧ spec_l1Down.f (wrap64 (rd h (wrap64 (Int.tdiv (wrap64 ((h.length : Int) - 1)) 2)) + rd h (wrap64 ((h.length : Int) / 2)))) 2 = some x) := by
 have ho : ∀ i j, spec_l1Down.f (wrap64 (rd h i + rd h j)) 2 = some ((rd h i + rd h j) / 2) ∧ impl_floorOver.f (wrap64 (rd h i + rd h j)) 2 = some ((rd h i + rd h j) / 2) ∧ -1000000 ≤ (rd h i + rd h j) / 2 ∧ (rd h i + rd h j) / 2 ≤ 1000000 := by
  intro i j
  have a := hM i
  have b := hM j
  rw [w64 (a := rd h i + rd h j) (by omega) (by omega)]
  exact ⟨down_s (by omega) (by omega) (by omega), floor_i (by omega) (by omega) (by omega), by omega, by omega⟩
 have hc : h.length = 0 ∨ h.length = 1 ∨ h.length = 2 ∨ h.length = 3 ∨ h.length = 4 ∨ h.length = 5 := by omega
 rcases hc with e | e | e | e | e | e
 ·
  left
  refine ⟨e, ?_⟩
  unfold impl_value.f
  rw [if_pos (by omega)]
 ·
  right; left
  refine ⟨e, ?_⟩
  unfold impl_value.f
  rw [if_neg (by omega), if_pos (by omega), if_pos (by omega)]
 ·
  right; right; left
  refine ⟨e, (rd h 0 + rd h 1) / 2, ?_, (ho 0 1).1⟩
  unfold impl_value.f
  rw [if_neg (by omega), if_neg (by omega), if_pos (by omega), if_pos (by omega), if_pos (by omega), (ho 0 1).2.1, Option.bind_some]
 ·
  right; right; right
  have e' : (h.length : Int) = 3 := by omega
  have m := hM 1
  have a1 : wrap64 ((3 : Int) / 2) = 1 := by unfold wrap64; omega
  have a2 : wrap64 (Int.tdiv (wrap64 ((3 : Int) - 1)) 2) = 1 := by rw [show wrap64 ((3 : Int) - 1) = 2 by unfold wrap64; omega, show Int.tdiv 2 2 = 1 by decide]; unfold wrap64; omega
  refine ⟨by omega, rd h 1, m.1, m.2, ?_, ?_⟩
  ·
   unfold impl_value.f
   rw [e', a1, if_neg (by decide), if_neg (by decide), if_neg (by decide), if_pos (by decide), if_pos (by decide), if_pos (by decide)]
  ·
   rw [e', a1, a2, (ho 1 1).1]
   congr 1; omega
 ·
  right; right; right
  have e' : (h.length : Int) = 4 := by omega
  have a1 : wrap64 ((4 : Int) / 2) = 2 := by unfold wrap64; omega
  have a2 : wrap64 (Int.tdiv (wrap64 ((4 : Int) - 1)) 2) = 1 := by rw [show wrap64 ((4 : Int) - 1) = 3 by unfold wrap64; omega, show Int.tdiv 3 2 = 1 by decide]; unfold wrap64; omega
  have a3 : wrap64 ((2 : Int) - 1) = 1 := by unfold wrap64; omega
  refine ⟨by omega, (rd h 1 + rd h 2) / 2, (ho 1 2).2.2.1, (ho 1 2).2.2.2, ?_, ?_⟩
  ·
   unfold impl_value.f
   rw [e', a1, a3, if_neg (by decide), if_neg (by decide), if_neg (by decide), if_neg (by decide), if_pos (by decide), if_pos (by decide), if_pos (by decide), if_pos (by decide), (ho 1 2).2.1, Option.bind_some]
  ·
   rw [e', a1, a2]
   exact (ho 1 2).1
 ·
  right; right; right
  have e' : (h.length : Int) = 5 := by omega
  have m := hM 2
  have a1 : wrap64 ((5 : Int) / 2) = 2 := by unfold wrap64; omega
  have a2 : wrap64 (Int.tdiv (wrap64 ((5 : Int) - 1)) 2) = 2 := by rw [show wrap64 ((5 : Int) - 1) = 4 by unfold wrap64; omega, show Int.tdiv 4 2 = 2 by decide]; unfold wrap64; omega
  refine ⟨by omega, rd h 2, m.1, m.2, ?_, ?_⟩
  ·
   unfold impl_value.f
   rw [e', a1, if_neg (by decide), if_neg (by decide), if_neg (by decide), if_pos (by decide), if_pos (by decide), if_pos (by decide)]
  ·
   rw [e', a1, a2, (ho 2 2).1]
   congr 1; omega
theorem vote_both (near hold : Int) (o : List Bool) (odd l : List Int) (hn : o.length + odd.length ≤ 1048576) (hl : l.length ≤ 1048576) : ∃ ro rod x how, ro.length = o.length ∧ rod.length = odd.length ∧
  Ev (fun k => spec_Vote.f k near hold o odd l) (near, hold, ro, rod, x, how) ∧ Ev (fun k => impl_Vote.f k near hold o odd l) (near, hold, ro, rod, x, how) := by
 obtain ⟨b, b1, b2, b3⟩ := seen_both near hold o odd l (by omega)
 have cs : spec_l8Copy.f near hold o odd = some (near, hold, o, odd) := by
  unfold spec_l8Copy.f
  simp only [Option.bind_some, List.length_nil, List.nil_append]
  rw [if_pos (by omega), if_pos (by omega)]
 have ci : impl_cloneVoter.f near hold o odd = some (near, hold, o, odd) := by
  unfold impl_cloneVoter.f slices_Clone_bool_bool.f slices_Clone_int_int.f
  simp only [Option.bind_some, List.length_nil, List.nil_append]
  rw [if_pos (by omega), Option.bind_some, if_pos (by omega), Option.bind_some]
 unfold spec_Vote.f impl_Vote.f
 simp only [cs, ci, Option.bind_some]
 cases b
 ·
  refine ⟨o, odd, 0, 0, rfl, rfl, ev_bind (F := fun k => spec_l8Seen.f k near hold o odd l) b1 ?_, ev_bind (F := fun k => impl_seenOk.f k near hold o odd l) b2 ?_⟩
  ·
   simp only [Bool.false_eq_true, if_false]; exact ev_const rfl
  ·
   simp only [Bool.false_eq_true, if_false]; exact ev_const rfl
 ·
  obtain ⟨⟨_, g2, g3, g4, g5⟩, h5, h6⟩ := b3.1 rfl
  obtain ⟨c1, c2⟩ := heard_both o l near hold odd h5 (by omega)
  have hL : ∀ i, -1000000 ≤ rd l i ∧ rd l i ≤ 1000000 := rd_all h6 (by omega) (by omega)
  have hO : ∀ i, 0 ≤ rd odd i ∧ rd odd i ≤ 20 := fun i => by
   have := rd_all g5 (Int.le_refl 0) (by omega) i
   omega
  have hM : ∀ i, -1000000 ≤ rd (srt (raw o l o.length 0)) i ∧ rd (srt (raw o l o.length 0)) i ≤ 1000000 := rd_in (srt_in (raw_in o l hL o.length 0)) (by omega) (by omega)
  have hn5 : (srt (raw o l o.length 0)).length ≤ 5 := by rw [srt_len]; have := raw_len o l o.length 0; omega
  have vc := value_cases _ hn5 hM
  generalize srt (raw o l o.length 0) = h at *
  rcases vc with ⟨e, v⟩ | ⟨e, v⟩ | ⟨e, x, v, s⟩ | ⟨e, x, x1, x2, v, s⟩
  ·
   refine ⟨o, odd, 0, 0, rfl, rfl, ev_bind (F := fun k => spec_l8Seen.f k near hold o odd l) b1 ?_, ev_bind (F := fun k => impl_seenOk.f k near hold o odd l) b2 ?_⟩
   ·
    simp only [if_true]
    refine ev_bind (F := fun k => spec_l8Heard.f k near hold o odd l) c1 ?_
    simp only [if_pos (show (h.length : Int) = 0 by omega)]; exact ev_const rfl
   ·
    simp only [if_true]
    refine ev_bind (F := fun k => impl_heard.f k near hold o odd l) c2 ?_
    simp only [v, Option.bind_some, if_neg (show ¬ (0 : Int) = 3 by decide)]; exact ev_const rfl
  ·
   refine ⟨o, odd, rd h 0, 1, rfl, rfl, ev_bind (F := fun k => spec_l8Seen.f k near hold o odd l) b1 ?_, ev_bind (F := fun k => impl_seenOk.f k near hold o odd l) b2 ?_⟩
   ·
    simp only [if_true]
    refine ev_bind (F := fun k => spec_l8Heard.f k near hold o odd l) c1 ?_
    simp only [if_neg (show ¬ (h.length : Int) = 0 by omega), if_pos (show (h.length : Int) = 1 by omega), if_pos (show 0 < (h.length : Int) by omega)]; exact ev_const rfl
   ·
    simp only [if_true]
    refine ev_bind (F := fun k => impl_heard.f k near hold o odd l) c2 ?_
    simp only [v, Option.bind_some, if_neg (show ¬ (1 : Int) = 3 by decide)]; exact ev_const rfl
  ·
   refine ⟨o, odd, x, 2, rfl, rfl, ev_bind (F := fun k => spec_l8Seen.f k near hold o odd l) b1 ?_, ev_bind (F := fun k => impl_seenOk.f k near hold o odd l) b2 ?_⟩
   ·
    simp only [if_true]
    refine ev_bind (F := fun k => spec_l8Heard.f k near hold o odd l) c1 ?_
    simp only [if_neg (show ¬ (h.length : Int) = 0 by omega), if_neg (show ¬ (h.length : Int) = 1 by omega), if_pos (show (h.length : Int) = 2 by omega), if_pos (show 0 < (h.length : Int) by omega), if_pos (show 1 < (h.length : Int) by omega), s, Option.bind_some]; exact ev_const rfl
   ·
    simp only [if_true]
    refine ev_bind (F := fun k => impl_heard.f k near hold o odd l) c2 ?_
    simp only [v, Option.bind_some, if_neg (show ¬ (2 : Int) = 3 by decide)]; exact ev_const rfl
  ·
   obtain ⟨ro, rod, l1, l2, e1, e2⟩ := vote_loop near hold x o odd l h5 (by omega) (by omega) x1 x2 hL hO o.length 0 o odd (by omega) (by omega) rfl (by omega) (fun _ _ => ⟨rfl, rfl⟩)
   have q1 : wrap64 (Int.tdiv (wrap64 ((h.length : Int) - 1)) 2) = ((h.length : Int) - 1) / 2 := by
    rw [w64 (a := (h.length : Int) - 1) (by omega) (by omega), Int.tdiv_eq_ediv_of_nonneg (by omega), w64 (by omega) (by omega)]
   have q2 : wrap64 ((h.length : Int) / 2) = (h.length : Int) / 2 := w64 (by omega) (by omega)
   rw [q1, q2] at s
   refine ⟨ro, rod, x, 3, l1, by omega, ev_bind (F := fun k => spec_l8Seen.f k near hold o odd l) b1 ?_, ev_bind (F := fun k => impl_seenOk.f k near hold o odd l) b2 ?_⟩
   ·
    simp only [if_true]
    refine ev_bind (F := fun k => spec_l8Heard.f k near hold o odd l) c1 ?_
    simp only [q1, q2, s, if_neg (show ¬ (h.length : Int) = 0 by omega), if_neg (show ¬ (h.length : Int) = 1 by omega), if_neg (show ¬ (h.length : Int) = 2 by omega), if_pos (show 0 ≤ ((h.length : Int) - 1) / 2 by omega), if_pos (show ((h.length : Int) - 1) / 2 < (h.length : Int) by omega), if_pos (show 0 ≤ (h.length : Int) / 2 by omega), if_pos (show (h.length : Int) / 2 < (h.length : Int) by omega), Option.bind_some]
    exact e1
   ·
    simp only [if_true]
    refine ev_bind (F := fun k => impl_heard.f k near hold o odd l) c2 ?_
    simp only [v, Option.bind_some, if_true]
    exact e2
theorem up_to {α : Type} {F : Nat → Option α} {r : α} {n : Nat} (mo : ∀ k, LeO (F k) (F (k + 1))) (h : F n = some r) : ∀ k, n ≤ k → F k = some r := by
 intro k hk
 obtain ⟨d, rfl⟩ : ∃ d, k = n + d := ⟨k - n, by omega⟩
 induction d with
 | zero => exact h
 | succ d ih => exact mo (n + d) _ (ih (by omega))
theorem mark_voter (a b : Int) (o : List Bool) (l : List Int) (hn : o.length + l.length ≤ 1048576) : ∃ o' l', Ev (fun k => laws_markVoter.f k a b o l 1) ((1 : Int) + o.length + l.length, o', l') ∧ Ev (fun k => laws_heldVoter.f k a b o' l' 1) ((1 : Int) + o.length + l.length) := by
 obtain ⟨o', m1, _, m2⟩ := mark_bool o 1 (by omega) (by omega) (o.length + l.length + 1) (by omega)
 obtain ⟨l', m3, _, m4⟩ := mark_int l (1 + o.length) (by omega) (by omega) (o.length + l.length + 1) (by omega)
 have u1 := up_to (F := fun k => laws_markBoolS.f k o 1) (fun k => laws_markBoolS.mono _ _ k) m1
 have u3 := up_to (F := fun k => laws_markIntS.f k l (1 + o.length)) (fun k => laws_markIntS.mono _ _ k) m3
 refine ⟨o', l', ⟨o.length + l.length + 1, fun k hk => ?_⟩, ⟨o.length + l.length + 1, fun k hk => ?_⟩⟩
 ·
  have e1 := u1 k hk
  have e3 := u3 k hk
  show laws_markVoter.f k a b o l 1 = _
  unfold laws_markVoter.f
  rw [e1, Option.bind_some, e3, Option.bind_some]
 ·
  show laws_heldVoter.f k a b o' l' 1 = _
  unfold laws_heldVoter.f
  rw [m2 k (by omega), Option.bind_some, if_neg (by omega), m4 k (by omega), Option.bind_some, if_neg (by omega)]
theorem mark_int_ev (l : List Int) (m : Int) (hm : 0 ≤ m) (hn : m + l.length ≤ 4611686018427387904) : ∃ x, Ev (fun k => laws_markIntS.f k l m) (m + l.length, x) := by
 obtain ⟨x, h, _⟩ := mark_int l m hm hn (l.length + 1) (by omega)
 exact ⟨x, l.length + 1, up_to (F := fun k => laws_markIntS.f k l m) (fun k => laws_markIntS.mono _ _ k) h⟩
theorem rdL (l : List (List Int)) (i : Nat) (h : i < l.length) : rd_L2 l (i : Int) = l[i] := by
 show l.getD (i : Int).toNat [] = _
 rw [Int.toNat_natCast, List.getD_eq_getElem?_getD, List.getElem?_eq_getElem h]; rfl
theorem vsucc {i n : Nat} (h : i < n) (hn : n ≤ 4611686018427387904) : wrap64 ((i : Int) + 1) = ((i + 1 : Nat) : Int) := by rw [w64 (by omega) (by omega)]; omega
theorem szVoter_t (a b : Int) (o : List Bool) (l : List Int) (ho : o.length ≤ maxLen) (hl : l.length ≤ maxLen) : (∃ t, laws_szVoter.f a b o l 1048576 = some t ∧ t < 0) ∨ (∃ t, laws_szVoter.f a b o l 1048576 = some t ∧ 0 ≤ t ∧ t ≤ 1048576 ∧ o.length + l.length ≤ 1048576) := by
 have ho' : o.length ≤ 9223372036854775807 := ho
 have hl' : l.length ≤ 9223372036854775807 := hl
 unfold laws_szVoter.f laws_szIntS.f laws_szBoolS.f
 rw [w64 (a := 1048576 - (o.length : Int)) (by omega) (by omega)]
 by_cases h : (1048576 : Int) - (o.length : Int) < 0
 ·
  rw [if_pos h]; exact .inl ⟨_, rfl, by omega⟩
 ·
  rw [if_neg h, Option.bind_some, if_neg h, w64 (a := 1048576 - (o.length : Int) - (l.length : Int)) (by omega) (by omega)]
  by_cases h2 : (1048576 : Int) - (o.length : Int) - (l.length : Int) < 0
  ·
   rw [if_pos h2]; exact .inl ⟨_, rfl, by omega⟩
  ·
   rw [if_neg h2, Option.bind_some, if_neg h2]
   exact .inr ⟨_, rfl, by omega, by omega, by omega⟩
theorem sz_ss (l : List (List Int)) (a : Int) (hl : l.length ≤ maxLen) (hk : ∀ x ∈ l, x.length ≤ maxLen) (a0 : 0 ≤ a) (a1 : a ≤ 1048576) : ∃ v, Ev (fun k => laws_szIntSS.f k l a) v ∧ (v < 0 ∨ (0 ≤ v ∧ l.length ≤ 1048576 ∧ ∀ x ∈ l, x.length ≤ 1048576)) := by
 have hl : l.length ≤ 9223372036854775807 := hl
 unfold laws_szIntSS.f
 rw [w64 (a := a - (l.length : Int)) (by omega) (by omega)]
 by_cases c : a - (l.length : Int) < 0
 ·
  simp only [if_pos c]; exact ⟨-1, ev_const rfl, .inl (by omega)⟩
 ·
  simp only [if_neg c]
  have go : ∀ (d i : Nat) (left : Int), l.length - i = d → i ≤ l.length → 0 ≤ left → left ≤ 1048576 → ∃ v, Ev (fun k => laws_szIntSS.l0 k l left (i : Int)) v ∧ (v < 0 ∨ (0 ≤ v ∧ ∀ x ∈ l.drop i, x.length ≤ 1048576)) := by
   intro d
   induction d with
   | zero =>
    intro i left hd hi h0 h1
    refine ⟨left, ev_now fun k => ?_, .inr ⟨h0, fun x hx => ?_⟩⟩
    ·
     simp only [laws_szIntSS.l0]; rw [if_neg (by omega)]
    ·
     rw [List.drop_eq_nil_of_le (by omega)] at hx; cases hx
   | succ d ih =>
    intro i left hd hi h0 h1
    have hlt : i < l.length := by omega
    have hs : (l[i]).length ≤ 9223372036854775807 := hk _ (List.getElem_mem hlt)
    have ws : wrap64 (left - ((l[i]).length : Int)) = left - ((l[i]).length : Int) := w64 (by omega) (by omega)
    have hw := vsucc hlt (show l.length ≤ 4611686018427387904 by omega)
    have un : ∀ k, laws_szIntSS.l0 (k + 1) l left (i : Int) = if left - ((l[i]).length : Int) < 0 then some (-1) else laws_szIntSS.l0 k l (left - ((l[i]).length : Int)) ((i + 1 : Nat) : Int) := by
     intro k
     simp only [laws_szIntSS.l0, rdL l i hlt, laws_szIntS.f, ws, hw]
     clear hw ws
     rw [if_pos (by omega), if_pos (by omega)]
     by_cases cv : left - ((l[i]).length : Int) < 0
     ·
      rw [if_pos cv, if_pos cv, Option.bind_some, if_pos (by omega)]
     ·
      rw [if_neg cv, if_neg cv, Option.bind_some, if_neg cv]
    clear ws hw
    by_cases cv : left - ((l[i]).length : Int) < 0
    ·
     exact ⟨-1, ev_now fun k => by rw [un, if_pos cv], .inl (by omega)⟩
    ·
     obtain ⟨t, ht, ot⟩ := ih (i + 1) (left - ((l[i]).length : Int)) (by omega) (by omega) (by omega) (by omega)
     refine ⟨t, ev_step ht fun k => by rw [un, if_neg cv], ?_⟩
     rcases ot with ot | ⟨p1, p3⟩
     ·
      exact .inl ot
     ·
      refine .inr ⟨p1, fun x hx => ?_⟩
      rw [List.drop_eq_getElem_cons hlt] at hx
      rcases List.mem_cons.1 hx with rfl | hx
      ·
       omega
      ·
       exact p3 x hx
  obtain ⟨v, hv, o⟩ := go l.length 0 (a - (l.length : Int)) (by omega) (by omega) (by omega) (by omega)
  refine ⟨v, hv, ?_⟩
  rcases o with o | ⟨p1, p3⟩
  ·
   exact .inl o
  ·
   exact .inr ⟨p1, by omega, fun x hx => p3 x (by rwa [List.drop_zero])⟩
section
variable (l : List (List Int)) (hl : l.length ≤ 1048576) (hk : ∀ x ∈ l, x.length ≤ 1048576)
include hl hk
theorem to_ss : Ev (fun k => laws_toIntSS.f k l) l := by
 unfold laws_toIntSS.f
 simp only [if_pos (show (0 : Int) ≤ (l.length : Int) by omega), Int.toNat_natCast, if_pos (show l.length ≤ 11728124029610 by omega)]
 have go : ∀ (d i : Nat) (x : List (List Int)), l.length - i = d → i ≤ l.length → x.length = l.length → (∀ j, j < i → x[j]? = l[j]?) → Ev (fun k => laws_toIntSS.l0 k l x (i : Int)) l := by
  intro d
  induction d with
  | zero =>
   intro i x hd hi hx hj
   refine ev_now fun k => ?_
   simp only [laws_toIntSS.l0]
   rw [if_neg (by omega)]
   congr 1
   apply List.ext_getElem?
   intro j
   by_cases h : j < i
   ·
    exact hj j h
   ·
    rw [List.getElem?_eq_none (by omega), List.getElem?_eq_none (by omega)]
  | succ d ih =>
   intro i x hd hi hx hj
   have hlt : i < l.length := by omega
   have hw := vsucc hlt (show l.length ≤ 4611686018427387904 by omega)
   have hs := hk _ (List.getElem_mem hlt)
   have ht : Ev (fun k => laws_toIntS.f k l[i]) l[i] := ⟨_, fun k hk => laws_toIntS_eq l[i] k (by omega) (Nat.lt_of_succ_le hk)⟩
   have e := ih (i + 1) (x.set i l[i]) (by omega) (by omega) (by rw [List.length_set]; exact hx) (fun j hj' => by
    by_cases e : j = i
    ·
     subst e; rw [List.getElem?_set_self (by omega), List.getElem?_eq_getElem hlt]
    ·
     rw [List.getElem?_set_ne (fun h => e h.symm)]; exact hj j (by omega))
   refine ev_step (ev_bind (F := fun k => laws_toIntS.f k l[i]) (G := fun k t => if (i : Int) < (x.length : Int) then laws_toIntSS.l0 k l (x.set i t) ((i + 1 : Nat) : Int) else none) ht ?_) fun k => ?_
   ·
    simp only [if_pos (show (i : Int) < (x.length : Int) by omega)]; exact e
   ·
    simp only [laws_toIntSS.l0, rdL l i hlt, hw, Int.toNat_natCast]
    clear hw ih e
    rw [if_pos (by omega), if_pos (by omega)]
 exact go l.length 0 (List.replicate l.length []) (by omega) (by omega) List.length_replicate (fun j hj => by omega)
theorem eq_ss : Ev (fun k => laws_eqIntSS.f k l l) true := by
 unfold laws_eqIntSS.f
 simp only [if_true]
 have go : ∀ (d i : Nat), l.length - i = d → i ≤ l.length → Ev (fun k => laws_eqIntSS.l0 k l l (i : Int)) true := by
  intro d
  induction d with
  | zero =>
   intro i hd hi
   refine ev_now fun k => ?_
   simp only [laws_eqIntSS.l0]
   rw [if_neg (by omega)]
  | succ d ih =>
   intro i hd hi
   have hlt : i < l.length := by omega
   have hw := vsucc hlt (show l.length ≤ 4611686018427387904 by omega)
   have hs := hk _ (List.getElem_mem hlt)
   have ht : Ev (fun k => laws_eqIntS.f k l[i] l[i]) true := ⟨_, fun k hk => laws_eqIntS_eq l[i] k (by omega) (Nat.lt_of_succ_le hk)⟩
   refine ev_step (ev_bind (F := fun k => laws_eqIntS.f k l[i] l[i]) (G := fun k t => if t = true then laws_eqIntSS.l0 k l l ((i + 1 : Nat) : Int) else some false) ht ?_) fun k => ?_
   ·
    simp only [if_true]; exact ih (i + 1) (by omega) (by omega)
   ·
    simp only [laws_eqIntSS.l0, rdL l i hlt, hw]
    clear hw ih
    rw [if_pos (by omega), if_pos (by omega), if_pos (by omega)]
 exact go l.length 0 (by omega) (by omega)
theorem votes_loop (near hold : Int) (o : List Bool) (odd : List Int) (hn : o.length + odd.length ≤ 1048576) (h200 : (l.length : Int) ≤ 200) : ∀ (d i : Nat) (oo : List Bool) (od acc : List Int), l.length - i = d → i ≤ l.length → oo.length = o.length → od.length = odd.length → acc.length ≤ i → ∃ ro rod racc, ro.length = o.length ∧ rod.length = odd.length ∧ racc.length ≤ l.length ∧
  Ev (fun k => spec_Votes.l0 k l acc (i : Int) near hold oo od) (near, hold, ro, rod, racc) ∧ Ev (fun k => impl_Votes.l0 k acc l (l.length : Int) (i : Int) near hold oo od) (near, hold, ro, rod, racc) := by
 intro d
 induction d with
 | zero =>
  intro i oo od acc hd hi h1 h2 h3
  refine ⟨oo, od, acc, h1, h2, by omega, ev_now fun k => ?_, ev_now fun k => ?_⟩
  ·
   simp only [spec_Votes.l0]; rw [if_neg (by omega)]
  ·
   simp only [impl_Votes.l0]; rw [if_neg (by omega)]
 | succ d ih =>
  intro i oo od acc hd hi h1 h2 h3
  have hlt : i < l.length := by omega
  have hw := vsucc hlt (show l.length ≤ 4611686018427387904 by omega)
  have hs := hk _ (List.getElem_mem hlt)
  obtain ⟨ro, rod, x, how, q1, q2, s1, s2⟩ := vote_both near hold oo od l[i] (by omega) hs
  obtain ⟨fo, fod, facc, g1, g2, g3, e1, e2⟩ := ih (i + 1) ro rod (acc ++ [x]) (by omega) (by omega) (by omega) (by omega) (by simp; omega)
  refine ⟨fo, fod, facc, g1, g2, g3, ?_, ?_⟩
  ·
   refine ev_step (ev_bind (F := fun k => spec_Vote.f k near hold oo od l[i]) (G := fun k bt => if acc.length < 17592186044416 then spec_Votes.l0 k l (acc ++ [bt.2.2.2.2.1]) ((i + 1 : Nat) : Int) bt.1 bt.2.1 bt.2.2.1 bt.2.2.2.1 else none) s1 ?_) fun k => ?_
   ·
    simp only [if_pos (show acc.length < 17592186044416 by omega)]; exact e1
   ·
    simp only [spec_Votes.l0, rdL l i hlt, hw]
    clear hw ih e1 e2 s1 s2
    rw [if_pos (by omega), if_pos (by omega), if_pos (by omega)]
  ·
   refine ev_step (ev_bind (F := fun k => impl_Vote.f k near hold oo od l[i]) (G := fun k bt => if acc.length < 17592186044416 then impl_Votes.l0 k (acc ++ [bt.2.2.2.2.1]) l (l.length : Int) ((i + 1 : Nat) : Int) bt.1 bt.2.1 bt.2.2.1 bt.2.2.2.1 else none) s2 ?_) fun k => ?_
   ·
    simp only [if_pos (show acc.length < 17592186044416 by omega)]; exact e2
   ·
    simp only [impl_Votes.l0, rdL l i hlt, hw]
    clear hw ih e1 e2 s1 s2
    rw [if_pos (by omega), if_pos (by omega), if_pos (by omega)]
theorem votes_both (near hold : Int) (o : List Bool) (odd : List Int) (hn : o.length + odd.length ≤ 1048576) : ∃ ro rod racc, ro.length = o.length ∧ rod.length = odd.length ∧ racc.length ≤ l.length ∧
  Ev (fun k => spec_Votes.f k near hold o odd l) (near, hold, ro, rod, racc) ∧ Ev (fun k => impl_Votes.f k near hold o odd l) (near, hold, ro, rod, racc) := by
 have cs : spec_l8Copy.f near hold o odd = some (near, hold, o, odd) := by
  unfold spec_l8Copy.f
  simp only [Option.bind_some, List.length_nil, List.nil_append]
  rw [if_pos (by omega), if_pos (by omega)]
 have ci : impl_cloneVoter.f near hold o odd = some (near, hold, o, odd) := by
  unfold impl_cloneVoter.f slices_Clone_bool_bool.f slices_Clone_int_int.f
  simp only [Option.bind_some, List.length_nil, List.nil_append]
  rw [if_pos (by omega), Option.bind_some, if_pos (by omega), Option.bind_some]
 unfold spec_Votes.f impl_Votes.f
 simp only [cs, ci, Option.bind_some]
 by_cases c : (l.length : Int) > 200
 ·
  refine ⟨o, odd, [], rfl, rfl, Nat.zero_le _, ev_now fun k => ?_, by simp only [if_pos c]; exact ev_const rfl⟩
  simp only [spec_Votes.l0]
  rw [if_pos (by omega), if_neg (by omega)]
 ·
  simp only [if_neg c]
  exact votes_loop l hl hk near hold o odd hn (by omega) l.length 0 o odd [] (by omega) (by omega) rfl rfl (Nat.zero_le _)
omit hl hk in
theorem mark_ss_go : ∀ (m : List (List Int)) (a : Int), (∀ x ∈ m, x.length ≤ 1048576) → 0 ≤ a → a + m.length * 1048576 ≤ 2305843009213693952 → ∃ r, Ev (fun k => laws_markIntSS.go k m a) r ∧ a ≤ r
 | [], a, _, _, _ => ⟨a, ev_const rfl, Int.le_refl _⟩
 | y :: ys, a, hm, h0, h1 => by
  have hy := hm y List.mem_cons_self
  rw [List.length_cons] at h1
  obtain ⟨z, hz⟩ := mark_int_ev y a h0 (by omega)
  obtain ⟨r, hr, g1⟩ := mark_ss_go ys (a + y.length) (fun r hr => hm r (List.mem_cons_of_mem _ hr)) (by omega) (by omega)
  refine ⟨r, ?_, by omega⟩
  unfold laws_markIntSS.go
  exact ev_bind (F := fun k => laws_markIntS.f k y a) hz hr
theorem mark_ss (a : Int) (h0 : 0 ≤ a) (h1 : a ≤ 1048577) : ∃ r : Int, Ev (fun k => laws_markIntSS.f k l a) r ∧ ¬ r < 0 := by
 obtain ⟨r, h, h2⟩ := mark_ss_go l a hk h0 (by omega)
 exact ⟨r, h, by omega⟩
end
theorem held_voter2 (a b : Int) (o : List Bool) (l acc : List Int) (hn : o.length + l.length ≤ 1048576) (ha : acc.length ≤ 1048576) : ∃ o' l' acc' M, Ev (fun k => laws_markVoter.f k a b o l 1) ((1 : Int) + o.length + l.length, o', l') ∧ Ev (fun k => laws_markIntS.f k acc ((1 : Int) + o.length + l.length)) (M, acc') ∧
  Ev (fun k => laws_heldVoter.f k a b o' l' 1) ((1 : Int) + o.length + l.length) ∧ Ev (fun k => laws_heldIntS.f k acc' ((1 : Int) + o.length + l.length)) M ∧ ¬ M < 0 := by
 obtain ⟨o', l', m1, m2⟩ := mark_voter a b o l hn
 obtain ⟨x, h, _, g⟩ := mark_int acc ((1 : Int) + o.length + l.length) (by omega) (by omega) (acc.length + 1) (by omega)
 refine ⟨o', l', x, (1 : Int) + o.length + l.length + acc.length, m1, ⟨acc.length + 1, up_to (F := fun k => laws_markIntS.f k acc ((1 : Int) + o.length + l.length)) (fun k => laws_markIntS.mono _ _ k) h⟩, m2, ⟨acc.length + 1, fun k hk => g k (by omega)⟩, by omega⟩
theorem FnExactVotes : laws_FnExactVotes.Pure := by
 intro near hold o odd l _ _ ⟨ho, _⟩ ⟨hd, _⟩ ⟨hl0, hk0⟩
 suffices H : Ev (fun k => laws_FnExactVotes.f k near hold o odd l) true by obtain ⟨K, hK⟩ := H; exact ⟨K, hK K (Nat.le_refl _)⟩
 unfold laws_FnExactVotes.f
 rcases szVoter_t near hold o odd ho hd with ⟨t, ht, h⟩ | ⟨t, ht, t0, t1, hn⟩
 ·
  simp only [ht, Option.bind_some, if_pos h]; exact ev_const rfl
 ·
  simp only [ht, Option.bind_some, if_neg (show ¬ t < 0 by omega)]
  obtain ⟨s, hs, c⟩ := sz_ss l t hl0 (fun x hx => (hk0 x hx).1) t0 t1
  refine ev_bind (F := fun k => laws_szIntSS.f k l t) hs ?_
  by_cases cs : s < 0
  ·
   simp only [if_pos cs]; exact ev_const rfl
  ·
   simp only [if_neg cs]
   rcases c with c | ⟨_, hl, hk⟩
   ·
    exact absurd c cs
   ·
    have tv : Ev (fun k => laws_toVoter.f k near hold o odd) (near, hold, o, odd) := ⟨_, fun k hk => toVoter near hold o odd k hn (Nat.lt_of_succ_le hk)⟩
    have ts := to_ss l hl hk
    have es := eq_ss l hl hk
    have ev : Ev (fun k => laws_eqVoter.f k near hold o odd near hold o odd) true := ⟨_, fun k hk => eqVoter near hold o odd k hn (Nat.lt_of_succ_le hk)⟩
    obtain ⟨ro, rod, x, q1, q2, q3, s1, s2⟩ := votes_both l hl hk near hold o odd hn
    have er : Ev (fun k => laws_eqVoter.f k near hold ro rod near hold ro rod) true := ⟨_, fun k hk => eqVoter near hold ro rod k (by omega) (Nat.lt_of_succ_le hk)⟩
    have ei : Ev (fun k => laws_eqIntS.f k x x) true := ⟨_, fun k hk => laws_eqIntS_eq x k (by omega) (Nat.lt_of_succ_le hk)⟩
    obtain ⟨mo, mod_, m1, _⟩ := mark_voter near hold o odd hn
    obtain ⟨m, m2, m3⟩ := mark_ss l hl hk ((1 : Int) + o.length + odd.length) (by omega) (by omega)
    obtain ⟨go, god, ga, M, g1, g2, g3, g4, g5⟩ := held_voter2 near hold ro rod x (by omega) (by omega)
    have hneg : ¬ ((1 : Int) + ro.length + rod.length < 0) := by omega
    have J2 : Ev (fun k => laws_FnExactVotes.j2 k ga M false near hold go god) true := by
     refine ev_step (ev_bind (F := fun k => laws_heldVoter.f k near hold go god 1) (G := fun k t => (if t < 0 then (some false) else ((laws_heldIntS.f k ga t).bind fun u => (if u < 0 then (some false) else (if u = M then (some true) else (some false)))))) g3 ?_) fun k => ?_
     ·
      simp only [if_neg hneg]
      refine ev_bind (F := fun k => laws_heldIntS.f k ga ((1 : Int) + ro.length + rod.length)) g4 ?_
      simp only [if_true, if_neg g5]; exact ev_const rfl
     ·
      simp only [laws_FnExactVotes.j2, Bool.false_eq_true, if_false]
    have J1 : Ev (fun k => laws_FnExactVotes.j1 k l x x false near hold o odd near hold ro rod near hold ro rod) true := by
     refine ev_step (G := fun k => (laws_markVoter.f k near hold ro rod 1).bind fun bt472 => ((laws_markIntS.f k x bt472.1).bind fun bt475 => ((laws_heldVoter.f k near hold bt472.2.1 bt472.2.2 1).bind fun t477 => (if t477 < 0 then (some false) else ((laws_heldIntS.f k bt475.2 t477).bind fun t478 => (if t478 < 0 then (some false) else (if t478 = bt475.1 then ((laws_toVoter.f k near hold o odd).bind fun bt479 => ((laws_toIntSS.f k l).bind fun t487 => ((impl_Votes.f k bt479.1 bt479.2.1 bt479.2.2.1 bt479.2.2.2 t487).bind fun bt490 => ((laws_eqVoter.f k bt490.1 bt490.2.1 bt490.2.2.1 bt490.2.2.2.1 near hold ro rod).bind fun t502 => (if t502 = true then ((laws_eqIntS.f k bt490.2.2.2.2 x).bind fun t503 => (laws_FnExactVotes.j2 k bt475.2 bt475.1 (!t503) near hold bt472.2.1 bt472.2.2)) else (laws_FnExactVotes.j2 k bt475.2 bt475.1 true near hold bt472.2.1 bt472.2.2)))))) else (some false)))))))) ?_ fun k => by simp only [laws_FnExactVotes.j1, Bool.false_eq_true, if_false]
     refine ev_bind (F := fun k => laws_markVoter.f k near hold ro rod 1) g1 ?_
     refine ev_bind (F := fun k => laws_markIntS.f k x ((1 : Int) + ro.length + rod.length)) g2 ?_
     refine ev_bind (F := fun k => laws_heldVoter.f k near hold go god 1) g3 ?_
     simp only [if_neg hneg]
     refine ev_bind (F := fun k => laws_heldIntS.f k ga ((1 : Int) + ro.length + rod.length)) g4 ?_
     simp only [if_true, if_neg g5]
     refine ev_bind (F := fun k => laws_toVoter.f k near hold o odd) tv ?_
     refine ev_bind (F := fun k => laws_toIntSS.f k l) ts ?_
     refine ev_bind (F := fun k => impl_Votes.f k near hold o odd l) s2 ?_
     refine ev_bind (F := fun k => laws_eqVoter.f k near hold ro rod near hold ro rod) er ?_
     simp only [if_true]
     refine ev_bind (F := fun k => laws_eqIntS.f k x x) ei ?_
     simp only [Bool.not_true]
     exact J2
    refine ev_bind (F := fun k => laws_toVoter.f k near hold o odd) tv ?_
    refine ev_bind (F := fun k => laws_toIntSS.f k l) ts ?_
    refine ev_bind (F := fun k => spec_Votes.f k near hold o odd l) s1 ?_
    refine ev_bind (F := fun k => laws_toVoter.f k near hold o odd) tv ?_
    refine ev_bind (F := fun k => laws_toIntSS.f k l) ts ?_
    refine ev_bind (F := fun k => impl_Votes.f k near hold o odd l) s2 ?_
    refine ev_bind (F := fun k => laws_eqVoter.f k near hold ro rod near hold ro rod) er ?_
    simp only [if_true]
    refine ev_bind (F := fun k => laws_eqIntS.f k x x) ei ?_
    simp only [Bool.not_true]
    refine ev_step (G := fun k => (laws_toVoter.f k near hold o odd).bind fun bt453 => ((laws_eqVoter.f k near hold o odd bt453.1 bt453.2.1 bt453.2.2.1 bt453.2.2.2).bind fun t461 => (if t461 = true then ((laws_toIntSS.f k l).bind fun t462 => ((laws_eqIntSS.f k l t462).bind fun t465 => (if t465 = true then ((laws_markVoter.f k near hold o odd 1).bind fun bt466 => ((laws_markIntSS.f k l bt466.1).bind fun t469 => (if t469 < 0 then (laws_FnExactVotes.j1 k l x x true near hold o odd near hold ro rod near hold ro rod) else ((laws_eqVoter.f k near hold ro rod near hold ro rod).bind fun t470 => (if t470 = true then ((laws_eqIntS.f k x x).bind fun t471 => (laws_FnExactVotes.j1 k l x x (!t471) near hold o odd near hold ro rod near hold ro rod)) else (laws_FnExactVotes.j1 k l x x true near hold o odd near hold ro rod near hold ro rod)))))) else (some false)))) else (some false)))) ?_ fun k => by simp only [laws_FnExactVotes.j0, Bool.false_eq_true, if_false]
    refine ev_bind (F := fun k => laws_toVoter.f k near hold o odd) tv ?_
    refine ev_bind (F := fun k => laws_eqVoter.f k near hold o odd near hold o odd) ev ?_
    simp only [if_true]
    refine ev_bind (F := fun k => laws_toIntSS.f k l) ts ?_
    refine ev_bind (F := fun k => laws_eqIntSS.f k l l) es ?_
    simp only [if_true]
    refine ev_bind (F := fun k => laws_markVoter.f k near hold o odd 1) m1 ?_
    refine ev_bind (F := fun k => laws_markIntSS.f k l ((1 : Int) + o.length + odd.length)) m2 ?_
    simp only [if_neg m3]
    refine ev_bind (F := fun k => laws_eqVoter.f k near hold ro rod near hold ro rod) er ?_
    simp only [if_true]
    refine ev_bind (F := fun k => laws_eqIntS.f k x x) ei ?_
    simp only [Bool.not_true]
    exact J1
end Go.Proofs.Ytmhddkjiaiifmaa.Pure.FnExactVotes
namespace Go.Proofs.Ytmhddkjiaiifmaa.Pure
theorem FnExactVotes : Go.Proofs.Ytmhddkjiaiifmaa.PFnExactVotes.laws_FnExactVotes.Pure := FnExactVotes.FnExactVotes
end Go.Proofs.Ytmhddkjiaiifmaa.Pure
