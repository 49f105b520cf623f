/- For every Voter and what is seen the program's TwoAlike answers what the reference's answers (FnExactTwoAlike returns true); no condition. -/
import Derived.Test.YtmhddkjiaiifmaaAskFnExactTwoAlike
import Derived.Test.YtmhddkjiaiifmaaNum
namespace Go.Proofs.Ytmhddkjiaiifmaa.Pure.FnExactTwoAlike
open Go.RowKit Go.Proofs.Ytmhddkjiaiifmaa.PFnExactTwoAlike Go.Proofs.YtmhddkjiaiifmaaW.PrintWords Go.Proofs.YtmhddkjiaiifmaaW.PrintLast Go.Proofs.YtmhddkjiaiifmaaW.PrintMore Go.Proofs.Ytmhddkjiaiifmaa.Num
set_option linter.unusedVariables false
set_option linter.unusedSimpArgs false
theorem in_s (a b c : Int) : spec_l1In.f a b c = some (decide (b ≤ a) && decide (a ≤ c)) := by
  unfold spec_l1In.f
  by_cases h : a ≥ b
  · rw [if_pos h, decide_eq_true (show b ≤ a from h)]; rfl
  · rw [if_neg h, decide_eq_false (show ¬ b ≤ a from h)]; rfl
theorem in_i (a b c : Int) : impl_in.f a b c = some (decide (b ≤ a) && decide (a ≤ c)) := by
  unfold impl_in.f
  by_cases h : a ≥ b
  · rw [if_pos h, decide_eq_true (show b ≤ a from h)]; rfl
  · rw [if_neg h, decide_eq_false (show ¬ b ≤ a from h)]; rfl
/-- All numbers are in bounds. -/
def All (xs : List Int) (lo hi : Int) : Prop := ∀ j : Nat, j < xs.length → lo ≤ rd xs (j : Int) ∧ rd xs (j : Int) ≤ hi
/-- Each number is above the one ahead. -/
def Rise (xs : List Int) : Prop := ∀ j : Nat, 1 ≤ j → j < xs.length → rd xs ((j - 1 : Nat) : Int) < rd xs (j : Int)
theorem allIn_l0 (xs : List Int) (lo hi : Int) (hn : xs.length ≤ 4611686018427387904) : ∀ (d k i : Nat), xs.length - i = d → i ≤ xs.length → d < k → ∃ b, impl_allIn.l0 k lo hi xs (xs.length : Int) (i : Int) = some b ∧ (b = true ↔ ∀ j : Nat, i ≤ j → j < xs.length → lo ≤ rd xs (j : Int) ∧ rd xs (j : Int) ≤ hi) := by
  intro d
  induction d with
  | zero =>
    intro k i hd hi' hk
    obtain ⟨k, rfl⟩ : ∃ m, k = m + 1 := ⟨k - 1, by omega⟩
    simp only [impl_allIn.l0]
    rw [if_neg (by omega)]
    exact ⟨true, rfl, by simp; intro j h1 h2; omega⟩
  | succ d ih =>
    intro k i hd hi' hk
    obtain ⟨k, rfl⟩ : ∃ m, k = m + 1 := ⟨k - 1, by omega⟩
    simp only [impl_allIn.l0, in_i, Option.bind_some]
    rw [if_pos (by omega), if_pos (by omega), if_pos (by omega), w64 (a := (i : Int) + 1) (by omega) (by omega), show (i : Int) + 1 = ((i + 1 : Nat) : Int) by omega, ← Bool.decide_and]
    by_cases h : lo ≤ rd xs (i : Int) ∧ rd xs (i : Int) ≤ hi
    · rw [decide_eq_true h, if_pos rfl]
      obtain ⟨b, h1, h2⟩ := ih k (i + 1) (by omega) (by omega) (by omega)
      refine ⟨b, h1, h2.trans ⟨fun g j hj hl => ?_, fun g j hj hl => g j (by omega) hl⟩⟩
      by_cases e : j = i
      · subst e; exact h
      · exact g j (by omega) hl
    · rw [decide_eq_false h, if_neg (by decide)]
      exact ⟨false, rfl, ⟨fun g => absurd g Bool.false_ne_true, fun g => absurd (g i (by omega) (by omega)) h⟩⟩
theorem allIn_i (xs : List Int) (lo hi : Int) (k : Nat) (hn : xs.length ≤ 4611686018427387904) (hk : xs.length < k) : ∃ b, impl_allIn.f k xs lo hi = some b ∧ (b = true ↔ All xs lo hi) := by
  obtain ⟨b, h1, h2⟩ := allIn_l0 xs lo hi hn xs.length k 0 (by omega) (by omega) hk
  exact ⟨b, h1, h2.trans ⟨fun g j hl => g j (by omega) hl, fun g j _ hl => g j hl⟩⟩
theorem l1All_l0 (xs : List Int) (lo hi : Int) (hn : xs.length ≤ 4611686018427387904) : ∀ (d k i : Nat), xs.length - i = d → i ≤ xs.length → d < k → ∃ b, spec_l1All.l0 k xs lo hi (i : Int) = some b ∧ (b = true ↔ ∀ j : Nat, i ≤ j → j < xs.length → lo ≤ rd xs (j : Int) ∧ rd xs (j : Int) ≤ hi) := by
  intro d
  induction d with
  | zero =>
    intro k i hd hi' hk
    obtain ⟨k, rfl⟩ : ∃ m, k = m + 1 := ⟨k - 1, by omega⟩
    simp only [spec_l1All.l0]
    rw [if_neg (by omega)]
    exact ⟨true, rfl, by simp; intro j h1 h2; omega⟩
  | succ d ih =>
    intro k i hd hi' hk
    obtain ⟨k, rfl⟩ : ∃ m, k = m + 1 := ⟨k - 1, by omega⟩
    simp only [spec_l1All.l0, in_s, Option.bind_some]
    rw [if_pos (by omega), if_pos (by omega), w64 (a := (i : Int) + 1) (by omega) (by omega), show (i : Int) + 1 = ((i + 1 : Nat) : Int) by omega, ← Bool.decide_and]
    by_cases h : lo ≤ rd xs (i : Int) ∧ rd xs (i : Int) ≤ hi
    · rw [decide_eq_true h, if_pos rfl]
      obtain ⟨b, h1, h2⟩ := ih k (i + 1) (by omega) (by omega) (by omega)
      refine ⟨b, h1, h2.trans ⟨fun g j hj hl => ?_, fun g j hj hl => g j (by omega) hl⟩⟩
      by_cases e : j = i
      · subst e; exact h
      · exact g j (by omega) hl
    · rw [decide_eq_false h, if_neg (by decide)]
      exact ⟨false, rfl, ⟨fun g => absurd g Bool.false_ne_true, fun g => absurd (g i (by omega) (by omega)) h⟩⟩
theorem all_s (xs : List Int) (lo hi : Int) (k : Nat) (hn : xs.length ≤ 4611686018427387904) (hk : xs.length < k) : ∃ b, spec_l1All.f k xs lo hi = some b ∧ (b = true ↔ All xs lo hi) := by
  obtain ⟨b, h1, h2⟩ := l1All_l0 xs lo hi hn xs.length k 0 (by omega) (by omega) hk
  exact ⟨b, h1, h2.trans ⟨fun g j hl => g j (by omega) hl, fun g j _ hl => g j hl⟩⟩
/-- From some count of rounds on it answers r. -/
def Ev {α : Type} (F : Nat → Option α) (r : α) : Prop := ∃ K, ∀ k, K ≤ k → F k = some r
theorem ev_step {α : Type} {F G : Nat → Option α} {r : α} (h : Ev G r) (e : ∀ k, F (k + 1) = G k) : Ev F r := by
  obtain ⟨K, h⟩ := h
  refine ⟨K + 1, fun k hk => ?_⟩
  obtain ⟨m, rfl⟩ : ∃ m, k = m + 1 := ⟨k - 1, by omega⟩
  rw [e m]; exact h m (by omega)
theorem ev_now {α : Type} {F : Nat → Option α} {r : α} (e : ∀ k, F (k + 1) = some r) : Ev F r :=
  ⟨1, fun k hk => by obtain ⟨m, rfl⟩ : ∃ m, k = m + 1 := ⟨k - 1, by omega⟩; exact e m⟩
theorem ev_const {α : Type} {o : Option α} {r : α} (e : o = some r) : Ev (fun _ => o) r := ⟨0, fun _ _ => e⟩
theorem ev_bind {α β : Type} {F : Nat → Option α} {G : Nat → α → Option β} {a : α} {r : β} (h : Ev F a) (g : Ev (fun k => G k a) r) : Ev (fun k => (F k).bind (G k)) r := by
  obtain ⟨K, h⟩ := h
  obtain ⟨L, g⟩ := g
  exact ⟨max K L, fun k hk => by show (F k).bind (G k) = _; rw [h k (by omega), Option.bind_some]; exact g k (by omega)⟩
theorem ev_cong {α : Type} {F G : Nat → Option α} {r : α} (h : Ev G r) (e : ∀ k, F k = G k) : Ev F r := by
  obtain ⟨K, h⟩ := h
  exact ⟨K, fun k hk => (e k).trans (h k hk)⟩
theorem laws_toIntS_l0 (x0 : List Int) (hn : x0.length ≤ 4611686018427387904) : ∀ (d k i : Nat) (x3 : List Int), x0.length - i = d → i ≤ x0.length → d < k → x3.length = x0.length → (∀ j, j < i → x3[j]? = x0[j]?) → laws_toIntS.l0 k x0 x3 (i : Int) = some x0 := by
  intro d
  induction d with
  | zero =>
    intro k i x3 hd hi hk hl hj
    obtain ⟨k, rfl⟩ : ∃ m, k = m + 1 := ⟨k - 1, by omega⟩
    simp only [laws_toIntS.l0]
    rw [if_neg (by omega)]
    congr 1
    apply List.ext_getElem?
    intro j
    by_cases h : j < i
    · exact hj j h
    · rw [List.getElem?_eq_none (by omega), List.getElem?_eq_none (by omega)]
  | succ d ih =>
    intro k i x3 hd hi hk hl hj
    obtain ⟨k, rfl⟩ : ∃ m, k = m + 1 := ⟨k - 1, by omega⟩
    have hlt : i < x0.length := by omega
    simp only [laws_toIntS.l0]
    rw [if_pos (by omega), if_pos (by omega), if_pos (by omega), w64 (a := (i : Int) + 1) (by omega) (by omega), show (i : Int) + 1 = ((i + 1 : Nat) : Int) by omega]
    refine ih k (i + 1) _ (by omega) (by omega) (by omega) (by simpa using hl) ?_
    intro j hj'
    have hr : rd x0 (i : Int) = x0[i] := by
      show x0.getD (i : Int).toNat 0 = _
      rw [Int.toNat_natCast, List.getD_eq_getElem?_getD, List.getElem?_eq_getElem hlt]; rfl
    simp only [Int.toNat_natCast, hr]
    by_cases e : j = i
    · subst e
      rw [List.getElem?_set_self (by omega), List.getElem?_eq_getElem hlt]
    · rw [List.getElem?_set_ne (fun h => e h.symm)]
      exact hj j (by omega)
theorem laws_toIntS_eq (x0 : List Int) (k : Nat) (hn : x0.length ≤ 35184372088832) (hk : x0.length < k) : laws_toIntS.f k x0 = some x0 := by
  unfold laws_toIntS.f
  rw [if_pos (by omega), if_pos (by rw [Int.toNat_natCast]; omega), Int.toNat_natCast]
  exact laws_toIntS_l0 x0 (by omega) x0.length k 0 _ (by omega) (by omega) hk (by simp) (fun j hj => by omega)

theorem laws_toBoolS_l0 (x0 : List Bool) (hn : x0.length ≤ 4611686018427387904) : ∀ (d k i : Nat) (x3 : List Bool), x0.length - i = d → i ≤ x0.length → d < k → x3.length = x0.length → (∀ j, j < i → x3[j]? = x0[j]?) → laws_toBoolS.l0 k x0 x3 (i : Int) = some x0 := by
  intro d
  induction d with
  | zero =>
    intro k i x3 hd hi hk hl hj
    obtain ⟨k, rfl⟩ : ∃ m, k = m + 1 := ⟨k - 1, by omega⟩
    simp only [laws_toBoolS.l0]
    rw [if_neg (by omega)]
    congr 1
    apply List.ext_getElem?
    intro j
    by_cases h : j < i
    · exact hj j h
    · rw [List.getElem?_eq_none (by omega), List.getElem?_eq_none (by omega)]
  | succ d ih =>
    intro k i x3 hd hi hk hl hj
    obtain ⟨k, rfl⟩ : ∃ m, k = m + 1 := ⟨k - 1, by omega⟩
    have hlt : i < x0.length := by omega
    simp only [laws_toBoolS.l0]
    rw [if_pos (by omega), if_pos (by omega), if_pos (by omega), w64 (a := (i : Int) + 1) (by omega) (by omega), show (i : Int) + 1 = ((i + 1 : Nat) : Int) by omega]
    refine ih k (i + 1) _ (by omega) (by omega) (by omega) (by simpa using hl) ?_
    intro j hj'
    have hr : rdOf false x0 (i : Int) = x0[i] := by
      show x0.getD (i : Int).toNat false = _
      rw [Int.toNat_natCast, List.getD_eq_getElem?_getD, List.getElem?_eq_getElem hlt]; rfl
    simp only [Int.toNat_natCast, hr]
    by_cases e : j = i
    · subst e
      rw [List.getElem?_set_self (by omega), List.getElem?_eq_getElem hlt]
    · rw [List.getElem?_set_ne (fun h => e h.symm)]
      exact hj j (by omega)
theorem laws_toBoolS_eq (x0 : List Bool) (k : Nat) (hn : x0.length ≤ 281474976710656) (hk : x0.length < k) : laws_toBoolS.f k x0 = some x0 := by
  unfold laws_toBoolS.f
  rw [if_pos (by omega), if_pos (by rw [Int.toNat_natCast]; omega), Int.toNat_natCast]
  exact laws_toBoolS_l0 x0 (by omega) x0.length k 0 _ (by omega) (by omega) hk (by simp) (fun j hj => by omega)

theorem laws_eqIntS_l0 (x0 : List Int) (hn : x0.length ≤ 4611686018427387904) : ∀ (d k i : Nat), x0.length - i = d → i ≤ x0.length → d < k → laws_eqIntS.l0 k x0 x0 (i : Int) = some true := by
  intro d
  induction d with
  | zero =>
    intro k i hd hi hk
    obtain ⟨k, rfl⟩ : ∃ m, k = m + 1 := ⟨k - 1, by omega⟩
    simp only [laws_eqIntS.l0]
    rw [if_neg (by omega)]
  | succ d ih =>
    intro k i hd hi hk
    obtain ⟨k, rfl⟩ : ∃ m, k = m + 1 := ⟨k - 1, by omega⟩
    simp only [laws_eqIntS.l0]
    rw [if_pos (by omega), if_pos (by omega), if_pos (by omega), w64 (a := (i : Int) + 1) (by omega) (by omega), show (i : Int) + 1 = ((i + 1 : Nat) : Int) by omega]
    rw [if_pos trivial]
    exact ih k (i + 1) (by omega) (by omega) (by omega)
theorem laws_eqIntS_eq (x0 : List Int) (k : Nat) (hn : x0.length ≤ 4611686018427387904) (hk : x0.length < k) : laws_eqIntS.f k x0 x0 = some true := by
  unfold laws_eqIntS.f
  rw [if_pos rfl]
  exact laws_eqIntS_l0 x0 hn x0.length k 0 (by omega) (by omega) hk

theorem laws_eqBoolS_l0 (x0 : List Bool) (hn : x0.length ≤ 4611686018427387904) : ∀ (d k i : Nat), x0.length - i = d → i ≤ x0.length → d < k → laws_eqBoolS.l0 k x0 x0 (i : Int) = some true := by
  intro d
  induction d with
  | zero =>
    intro k i hd hi hk
    obtain ⟨k, rfl⟩ : ∃ m, k = m + 1 := ⟨k - 1, by omega⟩
    simp only [laws_eqBoolS.l0]
    rw [if_neg (by omega)]
  | succ d ih =>
    intro k i hd hi hk
    obtain ⟨k, rfl⟩ : ∃ m, k = m + 1 := ⟨k - 1, by omega⟩
    simp only [laws_eqBoolS.l0]
    rw [if_pos (by omega), if_pos (by omega), if_pos (by omega), w64 (a := (i : Int) + 1) (by omega) (by omega), show (i : Int) + 1 = ((i + 1 : Nat) : Int) by omega]
    rw [if_neg (by simp)]
    exact ih k (i + 1) (by omega) (by omega) (by omega)
theorem laws_eqBoolS_eq (x0 : List Bool) (k : Nat) (hn : x0.length ≤ 4611686018427387904) (hk : x0.length < k) : laws_eqBoolS.f k x0 x0 = some true := by
  unfold laws_eqBoolS.f
  rw [if_pos rfl]
  exact laws_eqBoolS_l0 x0 hn x0.length k 0 (by omega) (by omega) hk

def VoterGood (near hold : Int) (o : List Bool) (l : List Int) : Prop := (0 ≤ near ∧ near ≤ 1000) ∧ (1 ≤ hold ∧ hold ≤ 20) ∧ (1 ≤ (o.length : Int) ∧ (o.length : Int) ≤ 5) ∧ (l.length : Int) = (o.length : Int) ∧ All l 0 hold
theorem voterOk (near hold : Int) (o : List Bool) (l : List Int) (k : Nat) (hn : l.length ≤ 4611686018427387904) (hk : l.length < k) : ∃ b, spec_VoterOk.f k near hold o l = some b ∧ impl_VoterOk.f k near hold o l = some b ∧ (b = true ↔ VoterGood near hold o l) := by
  obtain ⟨b1, e1, g1⟩ := all_s l 0 hold k hn hk
  obtain ⟨b2, e2, g2⟩ := allIn_i l 0 hold k hn hk
  have e : b2 = b1 := by rw [Bool.eq_iff_iff]; exact g2.trans g1.symm
  subst e
  unfold spec_VoterOk.f impl_VoterOk.f
  simp only [in_s, in_i, e1, e2, Option.bind_some, ← Bool.decide_and]
  by_cases h1 : (0 : Int) ≤ near ∧ near ≤ 1000
  · rw [decide_eq_true h1, if_pos rfl]
    by_cases h2 : (1 : Int) ≤ hold ∧ hold ≤ 20
    · rw [decide_eq_true h2, if_pos rfl]
      by_cases h3 : (1 : Int) ≤ (o.length : Int) ∧ (o.length : Int) ≤ 5
      · rw [decide_eq_true h3, if_pos rfl]
        by_cases h4 : (l.length : Int) = (o.length : Int)
        · rw [if_pos h4]
          exact ⟨b2, rfl, rfl, g1.trans ⟨fun g => ⟨h1, h2, h3, h4, g⟩, fun g => g.2.2.2.2⟩⟩
        · rw [if_neg h4]
          exact ⟨false, rfl, rfl, ⟨fun g => absurd g Bool.false_ne_true, fun g => absurd g.2.2.2.1 h4⟩⟩
      · rw [decide_eq_false h3, if_neg (by decide)]
        exact ⟨false, rfl, rfl, ⟨fun g => absurd g Bool.false_ne_true, fun g => absurd g.2.2.1 h3⟩⟩
    · rw [decide_eq_false h2, if_neg (by decide)]
      exact ⟨false, rfl, rfl, ⟨fun g => absurd g Bool.false_ne_true, fun g => absurd g.2.1 h2⟩⟩
  · rw [decide_eq_false h1, if_neg (by decide)]
    exact ⟨false, rfl, rfl, ⟨fun g => absurd g Bool.false_ne_true, fun g => absurd g.1 h1⟩⟩
/-- What is heard from a lane on, in the lanes' order. -/
def raw (o : List Bool) (l : List Int) : Nat → Nat → List Int
  | 0, _ => []
  | d + 1, i => if rdOf false o (i : Int) = true then raw o l d (i + 1) else rd l (i : Int) :: raw o l d (i + 1)
theorem raw_len (o : List Bool) (l : List Int) : ∀ (d i : Nat), (raw o l d i).length ≤ d
  | 0, _ => Nat.le_refl _
  | d + 1, i => by
    have := raw_len o l d (i + 1)
    simp only [raw]
    split
    · omega
    · simp only [List.length_cons]; omega
def srt (x : List Int) : List Int := x.mergeSort fun a b => decide (a ≤ b)
theorem srt_len (x : List Int) : (srt x).length = x.length := List.length_mergeSort x
theorem srt_sorted (x : List Int) : (srt x).Pairwise (· ≤ ·) := by
  have := List.pairwise_mergeSort (le := fun a b : Int => decide (a ≤ b)) (fun a b c h1 h2 => by
    rw [decide_eq_true_eq] at *; omega) (fun a b => by
    rw [Bool.or_eq_true, decide_eq_true_eq, decide_eq_true_eq]; omega) x
  exact this.imp (fun h => of_decide_eq_true h)
theorem srt_uniq {x y : List Int} (h : y.Pairwise (· ≤ ·)) (hp : y.Perm x) : y = srt x :=
  List.Perm.eq_of_pairwise (le := fun a b : Int => a ≤ b) (fun a b _ _ h1 h2 => by omega) h (srt_sorted x) (hp.trans (List.mergeSort_perm x _).symm)
theorem heard_i (o : List Bool) (l : List Int) (hl : l.length = o.length) (hn : o.length ≤ 5) : ∀ (d i : Nat) (x : List Int), o.length - i = d → i ≤ o.length → x.length ≤ i → Ev (fun k => impl_heard.l0 k l x o (o.length : Int) (i : Int)) (srt (x ++ raw o l d i)) := by
  intro d
  induction d with
  | zero =>
    intro i x hd hi hx
    refine ev_now fun k => ?_
    simp only [impl_heard.l0, raw, List.append_nil, slices_Sort_int_int.f]
    rw [if_neg (by omega), if_pos (by omega)]
    rfl
  | succ d ih =>
    intro i x hd hi hx
    have w1 : wrap64 ((i : Int) + 1) = ((i + 1 : Nat) : Int) := by rw [w64 (by omega) (by omega)]; omega
    simp only [raw]
    by_cases h : rdOf false o (i : Int) = true
    · rw [if_pos h]
      refine ev_step (ih (i + 1) x (by omega) (by omega) (by omega)) fun k => ?_
      simp only [impl_heard.l0, w1]
      rw [if_pos (by omega), if_pos (by omega), if_pos (by omega), if_pos h]
    · rw [if_neg h]
      have := ih (i + 1) (x ++ [rd l (i : Int)]) (by omega) (by omega) (by simp; omega)
      rw [List.append_assoc, List.singleton_append] at this
      refine ev_step this fun k => ?_
      simp only [impl_heard.l0, w1]
      rw [if_pos (by omega), if_pos (by omega), if_pos (by omega), if_neg h, if_pos (by omega), if_pos (by omega)]
def ins (v : Int) : List Int → List Int
  | [] => [v]
  | a :: t => if a < v then a :: ins v t else v :: a :: t
theorem ins_perm (v : Int) : ∀ x : List Int, (ins v x).Perm (v :: x)
  | [] => List.Perm.refl _
  | a :: t => by
    simp only [ins]
    split
    · exact ((ins_perm v t).cons a).trans (List.Perm.swap v a t)
    · exact List.Perm.refl _
theorem ins_sorted (v : Int) : ∀ x : List Int, x.Pairwise (· ≤ ·) → (ins v x).Pairwise (· ≤ ·)
  | [], _ => by simp [ins]
  | a :: t, h => by
    simp only [ins]
    obtain ⟨h1, h2⟩ := List.pairwise_cons.1 h
    split
    · refine List.pairwise_cons.2 ⟨fun b hb => ?_, ins_sorted v t h2⟩
      rcases List.mem_cons.1 ((ins_perm v t).mem_iff.1 hb) with rfl | hb
      · omega
      · exact h1 b hb
    · refine List.pairwise_cons.2 ⟨fun b hb => ?_, h⟩
      rcases List.mem_cons.1 hb with rfl | hb
      · omega
      · have := h1 b hb; omega
/-- Where v goes in: behind what is less, from a place on. -/
theorem ins_at (v : Int) (x : List Int) : ∀ (p : List Int) (t : List Int), x = p ++ t → (∀ a ∈ p, a < v) → p ++ ins v t = ins v x
  | [], t, h, _ => by rw [h]; rfl
  | a :: p, t, h, hp => by
    have := ins_at v (p ++ t) p t rfl (fun b hb => hp b (List.mem_cons_of_mem _ hb))
    rw [h, List.cons_append, List.cons_append, this]
    simp only [ins]
    rw [if_pos (hp a List.mem_cons_self)]
theorem heard_ins (o : List Bool) (l : List Int) (near hold : Int) (odd : List Int) (hl : l.length ≤ 5) (i : Nat) (hi : i < l.length) (x : List Int) (hx : x.length ≤ 5) (r : List Int) (he : Ev (fun k => spec_l8Heard.l0 k l (ins (rd l (i : Int)) x) (wrap64 ((i : Int) + 1)) near hold o odd) r) : ∀ (d j : Nat), x.length - j = d → j ≤ x.length → (∀ a ∈ x.take j, a < rd l (i : Int)) → Ev (fun k => spec_l8Heard.l1 k l x (i : Int) (j : Int) near hold o odd) r := by
  have stop : ∀ j : Nat, j ≤ x.length → (∀ a ∈ x.take j, a < rd l (i : Int)) → (∀ h : j < x.length, ¬ x[j] < rd l (i : Int)) → x.take j ++ (rd l (i : Int) :: x.drop j) = ins (rd l (i : Int)) x := by
    intro j hj ha hb
    have := ins_at (rd l (i : Int)) x (x.take j) (x.drop j) (List.take_append_drop j x).symm ha
    rw [← this]
    congr 1
    by_cases h : j < x.length
    · rw [List.drop_eq_getElem_cons h]
      simp only [ins]
      rw [if_neg (hb h)]
    · rw [List.drop_eq_nil_of_le (by omega)]; rfl
  intro d
  induction d with
  | zero =>
    intro j hd hj ha
    refine ev_step he fun k => ?_
    have e := stop j hj ha (fun h => by omega)
    simp only [spec_l8Heard.l1, Option.bind_some, Int.toNat_natCast, List.singleton_append, List.nil_append, e]
    rw [if_neg (by omega), if_pos (by omega), if_pos (by omega), if_pos (by omega), if_pos (by omega), if_pos (by simp; omega), if_pos (by simp; omega), if_pos (by simp; omega)]
  | succ d ih =>
    intro j hd hj ha
    have hlt : j < x.length := by omega
    have hr : rd x (j : Int) = x[j] := by
      show x.getD (j : Int).toNat 0 = _
      rw [Int.toNat_natCast, List.getD_eq_getElem?_getD, List.getElem?_eq_getElem hlt]; rfl
    have w1 : wrap64 ((j : Int) + 1) = ((j + 1 : Nat) : Int) := by rw [w64 (by omega) (by omega)]; omega
    by_cases h : x[j] < rd l (i : Int)
    · refine ev_step (ih (j + 1) (by omega) (by omega) (fun a hm => ?_)) fun k => ?_
      · rw [List.take_succ_eq_append_getElem hlt] at hm
        rcases List.mem_append.1 hm with hm | hm
        · exact ha a hm
        · rw [List.mem_singleton.1 hm]; exact h
      · simp only [spec_l8Heard.l1, hr, w1]
        rw [if_pos (by omega), if_pos (by omega), if_pos (by omega), if_pos (by omega), if_pos h]
    · refine ev_step he fun k => ?_
      have e := stop j hj ha (fun _ => h)
      simp only [spec_l8Heard.l1, hr, Option.bind_some, Int.toNat_natCast, List.singleton_append, List.nil_append, e]
      rw [if_pos (by omega), if_pos (by omega), if_pos (by omega), if_pos (by omega), if_neg h, if_pos (by omega), if_pos (by simp; omega), if_pos (by simp; omega), if_pos (by simp; omega)]
theorem heard_s (o : List Bool) (l : List Int) (near hold : Int) (odd : List Int) (hl : l.length = o.length) (hn : o.length ≤ 5) : ∀ (d i : Nat) (x : List Int), o.length - i = d → i ≤ o.length → x.length ≤ i → x.Pairwise (· ≤ ·) → ∃ y, y.Pairwise (· ≤ ·) ∧ y.Perm (x ++ raw o l d i) ∧ Ev (fun k => spec_l8Heard.l0 k l x (i : Int) near hold o odd) y := by
  intro d
  induction d with
  | zero =>
    intro i x hd hi hx hs
    refine ⟨x, hs, by simp [raw], ev_now fun k => ?_⟩
    simp only [spec_l8Heard.l0]
    rw [if_neg (by omega)]
  | succ d ih =>
    intro i x hd hi hx hs
    have w1 : wrap64 ((i : Int) + 1) = ((i + 1 : Nat) : Int) := by rw [w64 (by omega) (by omega)]; omega
    simp only [raw]
    by_cases h : rdOf false o (i : Int) = true
    · rw [if_pos h]
      obtain ⟨y, y1, y2, y3⟩ := ih (i + 1) x (by omega) (by omega) (by omega) hs
      refine ⟨y, y1, y2, ev_step y3 fun k => ?_⟩
      simp only [spec_l8Heard.l0, w1]
      rw [if_pos (by omega), if_pos (by omega), if_pos (by omega), if_pos h]
    · rw [if_neg h]
      have hp := ins_perm (rd l (i : Int)) x
      obtain ⟨y, y1, y2, y3⟩ := ih (i + 1) (ins (rd l (i : Int)) x) (by omega) (by omega) (by have := hp.length_eq; simp at this; omega) (ins_sorted _ x hs)
      rw [← w1] at y3
      refine ⟨y, y1, y2.trans ?_, ev_step (heard_ins o l near hold odd (by omega) i (by omega) x (by omega) y y3 x.length 0 (by omega) (by omega) (fun a ha => by simp at ha)) fun k => ?_⟩
      · exact (hp.append_right _).trans List.perm_middle.symm
      · simp only [spec_l8Heard.l0]
        rw [if_pos (by omega), if_pos (by omega), if_pos (by omega), if_neg h]
        rfl
theorem heard_both (o : List Bool) (l : List Int) (near hold : Int) (odd : List Int) (hl : l.length = o.length) (hn : o.length ≤ 5) : Ev (fun k => spec_l8Heard.f k near hold o odd l) (srt (raw o l o.length 0)) ∧ Ev (fun k => impl_heard.f k near hold o odd l) (srt (raw o l o.length 0)) := by
  obtain ⟨y, y1, y2, y3⟩ := heard_s o l near hold odd hl hn o.length 0 [] (by omega) (by omega) (by simp) List.Pairwise.nil
  rw [List.nil_append] at y2
  have e := srt_uniq y1 y2
  subst e
  exact ⟨y3, heard_i o l hl hn o.length 0 [] (by omega) (by omega) (by simp)⟩
theorem seen_both (near hold : Int) (o : List Bool) (odd l : List Int) (hn : odd.length + l.length ≤ 4611686018427387904) : ∃ b, Ev (fun k => spec_l8Seen.f k near hold o odd l) b ∧ Ev (fun k => impl_seenOk.f k near hold o odd l) b ∧ (b = true ↔ VoterGood near hold o odd ∧ l.length = o.length ∧ All l (-1000000) 1000000) := by
  have hv : ∃ b, (∀ k, odd.length < k → spec_VoterOk.f k near hold o odd = some b) ∧ (∀ k, odd.length < k → impl_VoterOk.f k near hold o odd = some b) ∧ (b = true ↔ VoterGood near hold o odd) := by
    obtain ⟨b, e1, e2, e3⟩ := voterOk near hold o odd (odd.length + 1) (by omega) (by omega)
    refine ⟨b, fun k hk => ?_, fun k hk => ?_, e3⟩
    · obtain ⟨b', f1, f2, f3⟩ := voterOk near hold o odd k (by omega) hk
      have : b' = b := by rw [Bool.eq_iff_iff]; exact f3.trans e3.symm
      subst this; exact f1
    · obtain ⟨b', f1, f2, f3⟩ := voterOk near hold o odd k (by omega) hk
      have : b' = b := by rw [Bool.eq_iff_iff]; exact f3.trans e3.symm
      subst this; exact f2
  have ha : ∃ b, (∀ k, l.length < k → spec_l1All.f k l (-1000000) 1000000 = some b) ∧ (∀ k, l.length < k → impl_allIn.f k l (-1000000) 1000000 = some b) ∧ (b = true ↔ All l (-1000000) 1000000) := by
    obtain ⟨b, e1, e2⟩ := all_s l (-1000000) 1000000 (l.length + 1) (by omega) (by omega)
    refine ⟨b, fun k hk => ?_, fun k hk => ?_, e2⟩
    · obtain ⟨b', f1, f2⟩ := all_s l (-1000000) 1000000 k (by omega) hk
      have : b' = b := by rw [Bool.eq_iff_iff]; exact f2.trans e2.symm
      subst this; exact f1
    · obtain ⟨b', f1, f2⟩ := allIn_i l (-1000000) 1000000 k (by omega) hk
      have : b' = b := by rw [Bool.eq_iff_iff]; exact f2.trans e2.symm
      subst this; exact f1
  obtain ⟨b, b1, b2, b3⟩ := hv
  obtain ⟨c, c1, c2, c3⟩ := ha
  refine ⟨b && (decide ((l.length : Int) = (o.length : Int)) && c), ⟨odd.length + l.length + 1, fun k hk => ?_⟩, ⟨odd.length + l.length + 1, fun k hk => ?_⟩, ?_⟩
  · show spec_l8Seen.f k near hold o odd l = _
    unfold spec_l8Seen.f
    rw [b1 k (by omega), c1 k (by omega)]
    cases b
    · rfl
    · simp only [Option.bind_some, if_true, Bool.true_and]
      by_cases h : (l.length : Int) = (o.length : Int)
      · rw [if_pos h, decide_eq_true h, Bool.true_and]
      · rw [if_neg h, decide_eq_false h, Bool.false_and]
  · show impl_seenOk.f k near hold o odd l = _
    unfold impl_seenOk.f
    rw [b2 k (by omega), c2 k (by omega)]
    cases b
    · rfl
    · simp only [Option.bind_some, if_true, Bool.true_and]
      by_cases h : (l.length : Int) = (o.length : Int)
      · rw [if_pos h, decide_eq_true h, Bool.true_and]
      · rw [if_neg h, decide_eq_false h, Bool.false_and]
  · rw [Bool.and_eq_true, Bool.and_eq_true, b3, c3, decide_eq_true_eq]
    exact ⟨fun ⟨a, b, c⟩ => ⟨a, by omega, c⟩, fun ⟨a, b, c⟩ => ⟨a, by omega, c⟩⟩
theorem toVoter (a b : Int) (o : List Bool) (l : List Int) (k : Nat) (hn : o.length + l.length ≤ 1048576) (hk : o.length + l.length < k) : laws_toVoter.f k a b o l = some (a, b, o, l) := by
  unfold laws_toVoter.f
  rw [laws_toBoolS_eq o _ (by omega) (by omega), laws_toIntS_eq l _ (by omega) (by omega)]; rfl
theorem eqVoter (a b : Int) (o : List Bool) (l : List Int) (k : Nat) (hn : o.length + l.length ≤ 1048576) (hk : o.length + l.length < k) : laws_eqVoter.f k a b o l a b o l = some true := by
  unfold laws_eqVoter.f
  rw [if_pos rfl, if_pos rfl, laws_eqBoolS_eq o _ (by omega) (by omega), laws_eqIntS_eq l _ (by omega) (by omega)]; rfl
theorem szVoter (a b : Int) (o : List Bool) (l : List Int) (ho : o.length ≤ maxLen) (hl : l.length ≤ maxLen) : (∃ t, laws_szVoter.f a b o l 1048576 = some t ∧ t < 0) ∨ (∃ t, laws_szVoter.f a b o l 1048576 = some t ∧ ¬ t < 0 ∧ o.length + l.length ≤ 1048576) := by
  have ho' : o.length ≤ 9223372036854775807 := ho
  have hl' : l.length ≤ 9223372036854775807 := hl
  unfold laws_szVoter.f laws_szIntS.f laws_szBoolS.f
  rw [w64 (a := 1048576 - (o.length : Int)) (by omega) (by omega)]
  by_cases h : (1048576 : Int) - (o.length : Int) < 0
  · rw [if_pos h]; exact .inl ⟨_, rfl, by omega⟩
  · rw [if_neg h, Option.bind_some, if_neg h, w64 (a := 1048576 - (o.length : Int) - (l.length : Int)) (by omega) (by omega)]
    by_cases h2 : (1048576 : Int) - (o.length : Int) - (l.length : Int) < 0
    · rw [if_pos h2]; exact .inl ⟨_, rfl, by omega⟩
    · rw [if_neg h2, Option.bind_some, if_neg h2]
      exact .inr ⟨_, rfl, h2, by omega⟩
theorem alike (near hold : Int) (o : List Bool) (odd l : List Int) (hn : odd.length + l.length ≤ 4611686018427387904) : ∃ r, Ev (fun k => spec_TwoAlike.f k near hold o odd l) r ∧ Ev (fun k => impl_TwoAlike.f k near hold o odd l) r := by
  obtain ⟨b, b1, b2, b3⟩ := seen_both near hold o odd l hn
  unfold spec_TwoAlike.f impl_TwoAlike.f
  cases b
  · refine ⟨false, ev_bind (F := fun k => spec_l8Seen.f k near hold o odd l) b1 ?_, ev_bind (F := fun k => impl_seenOk.f k near hold o odd l) b2 ?_⟩
    · simp only [Bool.false_eq_true, if_false]; exact ev_const rfl
    · simp only [Bool.false_eq_true, if_false]; exact ev_const rfl
  · obtain ⟨⟨_, _, h3, h4, _⟩, h5, _⟩ := b3.1 rfl
    obtain ⟨c1, c2⟩ := heard_both o l near hold odd h5 (by omega)
    have hr : ∃ r, (if ((srt (raw o l o.length 0)).length : Int) = 2 then (if 1 < ((srt (raw o l o.length 0)).length : Int) then (if 0 < ((srt (raw o l o.length 0)).length : Int) then (some (decide ((wrap64 ((rd (srt (raw o l o.length 0)) 1) - (rd (srt (raw o l o.length 0)) 0))) > near))) else (none)) else (none)) else (some false)) = some r := by
      by_cases h : ((srt (raw o l o.length 0)).length : Int) = 2
      · rw [if_pos h, if_pos (by omega), if_pos (by omega)]; exact ⟨_, rfl⟩
      · rw [if_neg h]; exact ⟨_, rfl⟩
    obtain ⟨r, hr⟩ := hr
    refine ⟨r, ev_bind (F := fun k => spec_l8Seen.f k near hold o odd l) b1 ?_, ev_bind (F := fun k => impl_seenOk.f k near hold o odd l) b2 ?_⟩
    · simp only [if_true]
      exact ev_bind (F := fun k => spec_l8Heard.f k near hold o odd l) (G := fun _ t225 => (if (t225.length : Int) = 2 then (if 1 < (t225.length : Int) then (if 0 < (t225.length : Int) then (some (decide ((wrap64 ((rd t225 1) - (rd t225 0))) > near))) else (none)) else (none)) else (some false))) c1 (ev_const hr)
    · simp only [if_true]
      exact ev_bind (F := fun k => impl_heard.f k near hold o odd l) (G := fun _ t225 => (if (t225.length : Int) = 2 then (if 1 < (t225.length : Int) then (if 0 < (t225.length : Int) then (some (decide ((wrap64 ((rd t225 1) - (rd t225 0))) > near))) else (none)) else (none)) else (some false))) c2 (ev_const hr)
theorem FnExactTwoAlike : laws_FnExactTwoAlike.Pure := by
  intro near hold o odd l _ _ ⟨ho, _⟩ ⟨hd, _⟩ ⟨hl, _⟩
  have hl' : l.length ≤ 9223372036854775807 := hl
  by_cases hc : (l.length : Int) > 1048576
  · refine ⟨0, ?_⟩
    unfold laws_FnExactTwoAlike.f
    rw [if_pos hc]
  · rcases szVoter near hold o odd ho hd with ⟨t, ht, h⟩ | ⟨t, ht, h, hn⟩
    · refine ⟨0, ?_⟩
      unfold laws_FnExactTwoAlike.f
      rw [if_neg hc, ht, Option.bind_some, if_pos h]
    · obtain ⟨r, ⟨K1, hs⟩, K2, hi⟩ := alike near hold o odd l (by omega)
      obtain ⟨n, hN⟩ : ∃ n, n = K1 + K2 + l.length + o.length + odd.length + 10 := ⟨_, rfl⟩
      refine ⟨n, ?_⟩
      have h1 := hs n (by omega)
      have h2 := hi n (by omega)
      unfold laws_FnExactTwoAlike.f
      rw [if_neg hc, ht, Option.bind_some, if_neg h]
      simp only [toVoter near hold o odd n hn (by omega), laws_toIntS_eq l n (by omega) (by omega), Option.bind_some, h1, h2, bne_self_eq_false, Bool.false_eq_true, if_false, eqVoter near hold o odd n hn (by omega), laws_eqIntS_eq l n (by omega) (by omega), if_true]
end Go.Proofs.Ytmhddkjiaiifmaa.Pure.FnExactTwoAlike
namespace Go.Proofs.Ytmhddkjiaiifmaa.Pure
theorem FnExactTwoAlike : Go.Proofs.Ytmhddkjiaiifmaa.PFnExactTwoAlike.laws_FnExactTwoAlike.Pure := FnExactTwoAlike.FnExactTwoAlike
end Go.Proofs.Ytmhddkjiaiifmaa.Pure
