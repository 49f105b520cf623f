/- For every list of pushes and bound the program's Fight answers what the reference's answers (FnExactFight returns true); no condition. -/
import Derived.Test.YtmhddkjiaiifmaaPFnExactFightx2
import Derived.Test.YtmhddkjiaiifmaaNum
namespace Go.Proofs.Ytmhddkjiaiifmaa.Pure.FnExactFight
open Go.RowKit Go.Proofs.Ytmhddkjiaiifmaa.PFnExactFight Go.Proofs.YtmhddkjiaiifmaaW.PrintWords Go.Proofs.YtmhddkjiaiifmaaW.PrintLast Go.Proofs.YtmhddkjiaiifmaaW.PrintMore Go.Proofs.Ytmhddkjiaiifmaa.Num
set_option linter.unusedVariables false
set_option linter.unusedSimpArgs false
theorem in_s (a b c : Int) : spec_l1In.f a b c = some (decide (b ≤ a) && decide (a ≤ c)) := by
  unfold spec_l1In.f
  by_cases h : a ≥ b
  · rw [if_pos h, decide_eq_true (show b ≤ a from h)]; rfl
  · rw [if_neg h, decide_eq_false (show ¬ b ≤ a from h)]; rfl
theorem in_i (a b c : Int) : impl_in.f a b c = some (decide (b ≤ a) && decide (a ≤ c)) := by
  unfold impl_in.f
  by_cases h : a ≥ b
  · rw [if_pos h, decide_eq_true (show b ≤ a from h)]; rfl
  · rw [if_neg h, decide_eq_false (show ¬ b ≤ a from h)]; rfl
/-- From some count of rounds on it answers r. -/
def Ev {α : Type} (F : Nat → Option α) (r : α) : Prop := ∃ K, ∀ k, K ≤ k → F k = some r
theorem ev_step {α : Type} {F G : Nat → Option α} {r : α} (h : Ev G r) (e : ∀ k, F (k + 1) = G k) : Ev F r := by
  obtain ⟨K, h⟩ := h
  refine ⟨K + 1, fun k hk => ?_⟩
  obtain ⟨m, rfl⟩ : ∃ m, k = m + 1 := ⟨k - 1, by omega⟩
  rw [e m]; exact h m (by omega)
theorem ev_now {α : Type} {F : Nat → Option α} {r : α} (e : ∀ k, F (k + 1) = some r) : Ev F r :=
  ⟨1, fun k hk => by obtain ⟨m, rfl⟩ : ∃ m, k = m + 1 := ⟨k - 1, by omega⟩; exact e m⟩
theorem ev_const {α : Type} {o : Option α} {r : α} (e : o = some r) : Ev (fun _ => o) r := ⟨0, fun _ _ => e⟩
theorem ev_bind {α β : Type} {F : Nat → Option α} {G : Nat → α → Option β} {a : α} {r : β} (h : Ev F a) (g : Ev (fun k => G k a) r) : Ev (fun k => (F k).bind (G k)) r := by
  obtain ⟨K, h⟩ := h
  obtain ⟨L, g⟩ := g
  exact ⟨max K L, fun k hk => by show (F k).bind (G k) = _; rw [h k (by omega), Option.bind_some]; exact g k (by omega)⟩
theorem ev_cong {α : Type} {F G : Nat → Option α} {r : α} (h : Ev G r) (e : ∀ k, F k = G k) : Ev F r := by
  obtain ⟨K, h⟩ := h
  exact ⟨K, fun k hk => (e k).trans (h k hk)⟩
theorem min_s (a b : Int) : spec_l1Min.f a b = some (mn a b) := by
  unfold spec_l1Min.f mn
  by_cases h : a < b
  · rw [if_pos h, if_neg (by omega)]
  · rw [if_neg h]
    by_cases g : b < a
    · rw [if_pos g]
    · rw [if_neg g]; congr 1; omega
theorem max_s (a b : Int) : spec_l1Max.f a b = some (mx a b) := by
  unfold spec_l1Max.f mx
  by_cases h : a > b
  · rw [if_pos h, if_neg (by omega)]
  · rw [if_neg h]
    by_cases g : a < b
    · rw [if_pos g]
    · rw [if_neg g]; congr 1; omega
/-- All numbers are in bounds. -/
def All (xs : List Int) (lo hi : Int) : Prop := ∀ j : Nat, j < xs.length → lo ≤ rd xs (j : Int) ∧ rd xs (j : Int) ≤ hi
/-- Each number is above the one ahead. -/
def Rise (xs : List Int) : Prop := ∀ j : Nat, 1 ≤ j → j < xs.length → rd xs ((j - 1 : Nat) : Int) < rd xs (j : Int)
theorem l1All_l0 (xs : List Int) (lo hi : Int) (hn : xs.length ≤ 4611686018427387904) : ∀ (d k i : Nat), xs.length - i = d → i ≤ xs.length → d < k → ∃ b, spec_l1All.l0 k xs lo hi (i : Int) = some b ∧ (b = true ↔ ∀ j : Nat, i ≤ j → j < xs.length → lo ≤ rd xs (j : Int) ∧ rd xs (j : Int) ≤ hi) := by
  intro d
  induction d with
  | zero =>
    intro k i hd hi' hk
    obtain ⟨k, rfl⟩ : ∃ m, k = m + 1 := ⟨k - 1, by omega⟩
    simp only [spec_l1All.l0]
    rw [if_neg (by omega)]
    exact ⟨true, rfl, by simp; intro j h1 h2; omega⟩
  | succ d ih =>
    intro k i hd hi' hk
    obtain ⟨k, rfl⟩ : ∃ m, k = m + 1 := ⟨k - 1, by omega⟩
    simp only [spec_l1All.l0, in_s, Option.bind_some]
    rw [if_pos (by omega), if_pos (by omega), w64 (a := (i : Int) + 1) (by omega) (by omega), show (i : Int) + 1 = ((i + 1 : Nat) : Int) by omega, ← Bool.decide_and]
    by_cases h : lo ≤ rd xs (i : Int) ∧ rd xs (i : Int) ≤ hi
    · rw [decide_eq_true h, if_pos rfl]
      obtain ⟨b, h1, h2⟩ := ih k (i + 1) (by omega) (by omega) (by omega)
      refine ⟨b, h1, h2.trans ⟨fun g j hj hl => ?_, fun g j hj hl => g j (by omega) hl⟩⟩
      by_cases e : j = i
      · subst e; exact h
      · exact g j (by omega) hl
    · rw [decide_eq_false h, if_neg (by decide)]
      exact ⟨false, rfl, ⟨fun g => absurd g Bool.false_ne_true, fun g => absurd (g i (by omega) (by omega)) h⟩⟩
theorem all_s (xs : List Int) (lo hi : Int) (k : Nat) (hn : xs.length ≤ 4611686018427387904) (hk : xs.length < k) : ∃ b, spec_l1All.f k xs lo hi = some b ∧ (b = true ↔ All xs lo hi) := by
  obtain ⟨b, h1, h2⟩ := l1All_l0 xs lo hi hn xs.length k 0 (by omega) (by omega) hk
  exact ⟨b, h1, h2.trans ⟨fun g j hl => g j (by omega) hl, fun g j _ hl => g j hl⟩⟩
theorem allIn_l0 (xs : List Int) (lo hi : Int) (hn : xs.length ≤ 4611686018427387904) : ∀ (d k i : Nat), xs.length - i = d → i ≤ xs.length → d < k → ∃ b, impl_allIn.l0 k lo hi xs (xs.length : Int) (i : Int) = some b ∧ (b = true ↔ ∀ j : Nat, i ≤ j → j < xs.length → lo ≤ rd xs (j : Int) ∧ rd xs (j : Int) ≤ hi) := by
  intro d
  induction d with
  | zero =>
    intro k i hd hi' hk
    obtain ⟨k, rfl⟩ : ∃ m, k = m + 1 := ⟨k - 1, by omega⟩
    simp only [impl_allIn.l0]
    rw [if_neg (by omega)]
    exact ⟨true, rfl, by simp; intro j h1 h2; omega⟩
  | succ d ih =>
    intro k i hd hi' hk
    obtain ⟨k, rfl⟩ : ∃ m, k = m + 1 := ⟨k - 1, by omega⟩
    simp only [impl_allIn.l0, in_i, Option.bind_some]
    rw [if_pos (by omega), if_pos (by omega), if_pos (by omega), w64 (a := (i : Int) + 1) (by omega) (by omega), show (i : Int) + 1 = ((i + 1 : Nat) : Int) by omega, ← Bool.decide_and]
    by_cases h : lo ≤ rd xs (i : Int) ∧ rd xs (i : Int) ≤ hi
    · rw [decide_eq_true h, if_pos rfl]
      obtain ⟨b, h1, h2⟩ := ih k (i + 1) (by omega) (by omega) (by omega)
      refine ⟨b, h1, h2.trans ⟨fun g j hj hl => ?_, fun g j hj hl => g j (by omega) hl⟩⟩
      by_cases e : j = i
      · subst e; exact h
      · exact g j (by omega) hl
    · rw [decide_eq_false h, if_neg (by decide)]
      exact ⟨false, rfl, ⟨fun g => absurd g Bool.false_ne_true, fun g => absurd (g i (by omega) (by omega)) h⟩⟩
theorem allIn_i (xs : List Int) (lo hi : Int) (k : Nat) (hn : xs.length ≤ 4611686018427387904) (hk : xs.length < k) : ∃ b, impl_allIn.f k xs lo hi = some b ∧ (b = true ↔ All xs lo hi) := by
  obtain ⟨b, h1, h2⟩ := allIn_l0 xs lo hi hn xs.length k 0 (by omega) (by omega) hk
  exact ⟨b, h1, h2.trans ⟨fun g j hl => g j (by omega) hl, fun g j _ hl => g j hl⟩⟩
theorem laws_toIntS_l0 (x0 : List Int) (hn : x0.length ≤ 4611686018427387904) : ∀ (d k i : Nat) (x3 : List Int), x0.length - i = d → i ≤ x0.length → d < k → x3.length = x0.length → (∀ j, j < i → x3[j]? = x0[j]?) → laws_toIntS.l0 k x0 x3 (i : Int) = some x0 := by
  intro d
  induction d with
  | zero =>
    intro k i x3 hd hi hk hl hj
    obtain ⟨k, rfl⟩ : ∃ m, k = m + 1 := ⟨k - 1, by omega⟩
    simp only [laws_toIntS.l0]
    rw [if_neg (by omega)]
    congr 1
    apply List.ext_getElem?
    intro j
    by_cases h : j < i
    · exact hj j h
    · rw [List.getElem?_eq_none (by omega), List.getElem?_eq_none (by omega)]
  | succ d ih =>
    intro k i x3 hd hi hk hl hj
    obtain ⟨k, rfl⟩ : ∃ m, k = m + 1 := ⟨k - 1, by omega⟩
    have hlt : i < x0.length := by omega
    simp only [laws_toIntS.l0]
    rw [if_pos (by omega), if_pos (by omega), if_pos (by omega), w64 (a := (i : Int) + 1) (by omega) (by omega), show (i : Int) + 1 = ((i + 1 : Nat) : Int) by omega]
    refine ih k (i + 1) _ (by omega) (by omega) (by omega) (by simpa using hl) ?_
    intro j hj'
    have hr : rd x0 (i : Int) = x0[i] := by
      show x0.getD (i : Int).toNat 0 = _
      rw [Int.toNat_natCast, List.getD_eq_getElem?_getD, List.getElem?_eq_getElem hlt]; rfl
    simp only [Int.toNat_natCast, hr]
    by_cases e : j = i
    · subst e
      rw [List.getElem?_set_self (by omega), List.getElem?_eq_getElem hlt]
    · rw [List.getElem?_set_ne (fun h => e h.symm)]
      exact hj j (by omega)
theorem laws_toIntS_eq (x0 : List Int) (k : Nat) (hn : x0.length ≤ 35184372088832) (hk : x0.length < k) : laws_toIntS.f k x0 = some x0 := by
  unfold laws_toIntS.f
  rw [if_pos (by omega), if_pos (by rw [Int.toNat_natCast]; omega), Int.toNat_natCast]
  exact laws_toIntS_l0 x0 (by omega) x0.length k 0 _ (by omega) (by omega) hk (by simp) (fun j hj => by omega)

theorem laws_eqIntS_l0 (x0 : List Int) (hn : x0.length ≤ 4611686018427387904) : ∀ (d k i : Nat), x0.length - i = d → i ≤ x0.length → d < k → laws_eqIntS.l0 k x0 x0 (i : Int) = some true := by
  intro d
  induction d with
  | zero =>
    intro k i hd hi hk
    obtain ⟨k, rfl⟩ : ∃ m, k = m + 1 := ⟨k - 1, by omega⟩
    simp only [laws_eqIntS.l0]
    rw [if_neg (by omega)]
  | succ d ih =>
    intro k i hd hi hk
    obtain ⟨k, rfl⟩ : ∃ m, k = m + 1 := ⟨k - 1, by omega⟩
    simp only [laws_eqIntS.l0]
    rw [if_pos (by omega), if_pos (by omega), if_pos (by omega), w64 (a := (i : Int) + 1) (by omega) (by omega), show (i : Int) + 1 = ((i + 1 : Nat) : Int) by omega]
    rw [if_pos trivial]
    exact ih k (i + 1) (by omega) (by omega) (by omega)
theorem laws_eqIntS_eq (x0 : List Int) (k : Nat) (hn : x0.length ≤ 4611686018427387904) (hk : x0.length < k) : laws_eqIntS.f k x0 x0 = some true := by
  unfold laws_eqIntS.f
  rw [if_pos rfl]
  exact laws_eqIntS_l0 x0 hn x0.length k 0 (by omega) (by omega) hk

theorem rdn (l : List Int) (i : Nat) (h : i < l.length) : rd l (i : Int) = l[i] := by
  show l.getD (i : Int).toNat 0 = _
  rw [Int.toNat_natCast, List.getD_eq_getElem?_getD, List.getElem?_eq_getElem h]; rfl
def sumL : List Int → Int
  | [] => 0
  | x :: xs => x + sumL xs
theorem sumL_in (M : Int) (hM : 0 ≤ M) : ∀ l : List Int, (∀ x ∈ l, -M ≤ x ∧ x ≤ M) → -(M * l.length) ≤ sumL l ∧ sumL l ≤ M * l.length
  | [], _ => by unfold sumL; simp
  | x :: xs, h => by
    have a := h x (List.mem_cons_self ..)
    have b := sumL_in M hM xs fun y hy => h y (List.mem_cons_of_mem _ hy)
    have e : M * ((x :: xs).length : Int) = M * (xs.length : Int) + M := by rw [List.length_cons, Int.natCast_add, Int.mul_add]; simp
    unfold sumL
    rw [e]; omega
def finF (bound s lo hi : Int) : Int × Int := if wrap64 (hi - lo) > bound then (s, 1) else (s, 0)
theorem fight_s (l : List Int) (bound : Int) (hl : l.length ≤ 5) (ha : ∀ x ∈ l, -10000 ≤ x ∧ x ≤ 10000) : ∀ (d i : Nat) (s lo hi : Int), l.length - i = d → i ≤ l.length → -10000 * (i : Int) ≤ s → s ≤ 10000 * (i : Int) → Ev (fun k => spec_Fight.l0 k l bound s lo hi (i : Int)) (finF bound (s + sumL (l.drop i)) ((l.drop i).foldl mn lo) ((l.drop i).foldl mx hi)) := by
  intro d
  induction d with
  | zero =>
    intro i s lo hi hd hi' h0 h1
    obtain rfl : i = l.length := by omega
    refine ev_now fun k => ?_
    simp only [spec_Fight.l0]
    rw [if_neg (by omega), List.drop_length]
    unfold finF sumL
    rw [Int.add_zero]
    show _ = some (if wrap64 (hi - lo) > bound then (s, 1) else (s, 0))
    by_cases c : wrap64 (hi - lo) > bound
    · rw [if_pos c, if_pos c]
    · rw [if_neg c, if_neg c]
  | succ d ih =>
    intro i s lo hi hd hi' h0 h1
    have hlt : i < l.length := by omega
    have b := ha _ (List.getElem_mem hlt)
    have e := ih (i + 1) (s + l[i]) (mn lo l[i]) (mx hi l[i]) (by omega) (by omega) (by omega) (by omega)
    rw [List.drop_eq_getElem_cons hlt]
    have hs : s + sumL (l[i] :: l.drop (i + 1)) = s + l[i] + sumL (l.drop (i + 1)) := by
      show s + (l[i] + sumL (l.drop (i + 1))) = _
      omega
    rw [hs]
    refine ev_step e fun k => ?_
    simp only [spec_Fight.l0]
    rw [if_pos (by omega), if_pos (by omega), min_s, max_s, Option.bind_some, Option.bind_some, rdn l i hlt, w64 (a := s + l[i]) (by omega) (by omega), w64 (a := (i : Int) + 1) (by omega) (by omega)]; rfl
theorem max_i (l : List Int) (hl : l.length ≤ 4611686018427387904) : ∀ (d i : Nat) (m : Int), l.length - i = d → i ≤ l.length → Ev (fun k => slices_Max_int_int.l0 k l m (i : Int)) ((l.drop i).foldl mx m) := by
  intro d
  induction d with
  | zero =>
    intro i m hd hi
    obtain rfl : i = l.length := by omega
    refine ev_now fun k => ?_
    simp only [slices_Max_int_int.l0]
    rw [if_neg (by omega), List.drop_length]; rfl
  | succ d ih =>
    intro i m hd hi
    have hlt : i < l.length := by omega
    rw [List.drop_eq_getElem_cons hlt]
    refine ev_step (ih (i + 1) (mx m l[i]) (by omega) (by omega)) fun k => ?_
    simp only [slices_Max_int_int.l0]
    rw [if_pos (by omega), if_pos (by omega), rdn l i hlt, w64 (a := (i : Int) + 1) (by omega) (by omega)]; rfl
theorem min_i (l : List Int) (hl : l.length ≤ 4611686018427387904) : ∀ (d i : Nat) (m : Int), l.length - i = d → i ≤ l.length → Ev (fun k => slices_Min_int_int.l0 k l m (i : Int)) ((l.drop i).foldl mn m) := by
  intro d
  induction d with
  | zero =>
    intro i m hd hi
    obtain rfl : i = l.length := by omega
    refine ev_now fun k => ?_
    simp only [slices_Min_int_int.l0]
    rw [if_neg (by omega), List.drop_length]; rfl
  | succ d ih =>
    intro i m hd hi
    have hlt : i < l.length := by omega
    rw [List.drop_eq_getElem_cons hlt]
    refine ev_step (ih (i + 1) (mn m l[i]) (by omega) (by omega)) fun k => ?_
    simp only [slices_Min_int_int.l0]
    rw [if_pos (by omega), if_pos (by omega), rdn l i hlt, w64 (a := (i : Int) + 1) (by omega) (by omega)]; rfl
theorem mx_self (x : Int) : mx x x = x := by unfold mx; rw [if_neg (by omega)]
theorem mn_self (x : Int) : mn x x = x := by unfold mn; rw [if_neg (by omega)]
theorem fight_i (l : List Int) (bound : Int) (hl : l.length ≤ 5) (h1 : 1 ≤ l.length) (ha : ∀ x ∈ l, -10000 ≤ x ∧ x ≤ 10000) : ∀ (d i : Nat) (s : Int), l.length - i = d → i ≤ l.length → -10000 * (i : Int) ≤ s → s ≤ 10000 * (i : Int) → Ev (fun k => impl_Fight.l0 k l bound s l (l.length : Int) (i : Int)) (finF bound (s + sumL (l.drop i)) (l.foldl mn (rd l 0)) (l.foldl mx (rd l 0))) := by
  have eM : (l.drop 1).foldl mx (rd l 0) = l.foldl mx (rd l 0) := by
    cases l with
    | nil => rfl
    | cons x xs =>
      show xs.foldl mx x = xs.foldl mx (mx x x)
      rw [mx_self]
  have eN : (l.drop 1).foldl mn (rd l 0) = l.foldl mn (rd l 0) := by
    cases l with
    | nil => rfl
    | cons x xs =>
      show xs.foldl mn x = xs.foldl mn (mn x x)
      rw [mn_self]
  have hM : Ev (fun k => slices_Max_int_int.f k l) (l.foldl mx (rd l 0)) := by
    rw [← eM]
    refine ev_cong (max_i l (by omega) (l.length - 1) 1 (rd l 0) rfl h1) fun k => ?_
    unfold slices_Max_int_int.f
    rw [if_neg (by omega), if_pos (by omega)]; rfl
  have hN : Ev (fun k => slices_Min_int_int.f k l) (l.foldl mn (rd l 0)) := by
    rw [← eN]
    refine ev_cong (min_i l (by omega) (l.length - 1) 1 (rd l 0) rfl h1) fun k => ?_
    unfold slices_Min_int_int.f
    rw [if_neg (by omega), if_pos (by omega)]; rfl
  intro d
  induction d with
  | zero =>
    intro i s hd hi h0 h2
    obtain rfl : i = l.length := by omega
    refine ev_step (ev_bind hM (G := fun k t130 => ((slices_Min_int_int.f k l).bind fun t131 => (if (wrap64 (t130 - t131)) > bound then (some (s, 1)) else (some (s, 0))))) (ev_bind hN (ev_const ?_))) fun k => ?_
    · rw [List.drop_length]
      unfold finF sumL
      rw [Int.add_zero]
      by_cases c : wrap64 (l.foldl mx (rd l 0) - l.foldl mn (rd l 0)) > bound
      · rw [if_pos c, if_pos c]
      · rw [if_neg c, if_neg c]
    · simp only [impl_Fight.l0]; rw [if_neg (by omega)]
  | succ d ih =>
    intro i s hd hi h0 h2
    have hlt : i < l.length := by omega
    have b := ha _ (List.getElem_mem hlt)
    have e := ih (i + 1) (s + l[i]) (by omega) (by omega) (by omega) (by omega)
    have hs : s + sumL (l.drop i) = s + l[i] + sumL (l.drop (i + 1)) := by
      rw [List.drop_eq_getElem_cons hlt]
      show s + (l[i] + sumL (l.drop (i + 1))) = _
      omega
    rw [hs]
    refine ev_step e fun k => ?_
    simp only [impl_Fight.l0]
    rw [if_pos (by omega), if_pos (by omega), if_pos (by omega), rdn l i hlt, w64 (a := s + l[i]) (by omega) (by omega), w64 (a := (i : Int) + 1) (by omega) (by omega)]; rfl
theorem fight (l : List Int) (bound : Int) (hn : l.length ≤ 4611686018427387904) : ∃ r, Ev (fun k => spec_Fight.f k l bound) r ∧ Ev (fun k => impl_Fight.f k l bound) r := by
  have bs : Ev (fun k => spec_Fight.j0 k l bound true) (0, 0) := ev_now fun k => rfl
  have bi : Ev (fun k => impl_Fight.j0 k l bound true) (0, 0) := ev_now fun k => rfl
  unfold spec_Fight.f impl_Fight.f
  simp only [in_s, in_i, ← Bool.decide_and, Option.bind_some]
  by_cases h1 : 1 ≤ (l.length : Int) ∧ (l.length : Int) ≤ 5
  · simp only [decide_eq_true h1, if_true]
    obtain ⟨b1, e1, g1⟩ := all_s l (-10000) 10000 (l.length + 1) hn (by omega)
    have es : Ev (fun k => spec_l1All.f k l (-10000) 10000) b1 := ⟨l.length + 1, fun k hk => by
      obtain ⟨b, e, g⟩ := all_s l (-10000) 10000 k hn (by omega)
      have : b = b1 := by rw [Bool.eq_iff_iff]; exact g.trans g1.symm
      rw [← this]; exact e⟩
    have ei : Ev (fun k => impl_allIn.f k l (-10000) 10000) b1 := ⟨l.length + 1, fun k hk => by
      obtain ⟨b, e, g⟩ := allIn_i l (-10000) 10000 k hn (by omega)
      have : b = b1 := by rw [Bool.eq_iff_iff]; exact g.trans g1.symm
      rw [← this]; exact e⟩
    cases b1
    · exact ⟨(0, 0), ev_bind es bs, ev_bind ei bi⟩
    · have ha := g1.1 rfl
      have ha' : ∀ x ∈ l, -10000 ≤ x ∧ x ≤ 10000 := by
        intro x hx
        obtain ⟨j, hj, rfl⟩ := List.getElem_of_mem hx
        have := ha j hj
        rwa [rdn l j hj] at this
      by_cases h2 : 0 ≤ bound ∧ bound ≤ 20000
      · have hs := fight_s l bound (by omega) ha' l.length 0 0 (rd l 0) (rd l 0) (by omega) (by omega) (by omega) (by omega)
        have hi := fight_i l bound (by omega) (by omega) ha' l.length 0 0 (by omega) (by omega) (by omega) (by omega)
        rw [List.drop_zero] at hs hi
        refine ⟨_, ev_bind es (ev_cong (ev_step (F := fun k => spec_Fight.j0 k l bound false) hs fun k => ?_) fun k => ?_), ev_bind ei (ev_cong (ev_step (F := fun k => impl_Fight.j0 k l bound false) hi fun k => rfl) fun k => ?_)⟩
        · simp only [spec_Fight.j0, Bool.false_eq_true, if_false]; rw [if_pos (by omega)]; rfl
        · rw [if_pos rfl, decide_eq_true h2]; rfl
        · rw [if_pos rfl, decide_eq_true h2]; rfl
      · refine ⟨(0, 0), ev_bind es (ev_cong bs fun k => ?_), ev_bind ei (ev_cong bi fun k => ?_)⟩
        · rw [if_pos rfl, decide_eq_false h2]; rfl
        · rw [if_pos rfl, decide_eq_false h2]; rfl
  · simp only [decide_eq_false h1, Bool.false_eq_true, if_false]
    exact ⟨(0, 0), bs, bi⟩
theorem FnExactFight : laws_FnExactFight.Pure := by
  intro l bound hl hl8 _ _
  have hl' : l.length ≤ 9223372036854775807 := hl
  by_cases h : (l.length : Int) > 1048576
  · refine ⟨0, ?_⟩
    unfold laws_FnExactFight.f
    rw [if_pos h]
  · obtain ⟨⟨r1, r2⟩, ⟨K1, hs⟩, K2, hi⟩ := fight l bound (by omega)
    refine ⟨K1 + K2 + l.length + 10, ?_⟩
    have ht := fun k hk => laws_toIntS_eq l k (by omega) hk
    have he := fun k hk => laws_eqIntS_eq l k (by omega) hk
    unfold laws_FnExactFight.f
    rw [if_neg h]
    have j0 : laws_FnExactFight.j0 (K1 + K2 + l.length + 10) l l false = some true := by
      simp only [laws_FnExactFight.j0, Bool.false_eq_true, if_false, ht _ (show l.length < K1 + K2 + l.length + 9 by omega), Option.bind_some, he _ (show l.length < K1 + K2 + l.length + 9 by omega), if_true]
    simp only [ht _ (show l.length < K1 + K2 + l.length + 10 by omega), Option.bind_some, hs _ (show K1 ≤ K1 + K2 + l.length + 10 by omega), hi _ (show K2 ≤ K1 + K2 + l.length + 10 by omega), if_true, bne_self_eq_false, j0]
end Go.Proofs.Ytmhddkjiaiifmaa.Pure.FnExactFight
namespace Go.Proofs.Ytmhddkjiaiifmaa.Pure
theorem FnExactFight : Go.Proofs.Ytmhddkjiaiifmaa.PFnExactFight.laws_FnExactFight.Pure := FnExactFight.FnExactFight
end Go.Proofs.Ytmhddkjiaiifmaa.Pure
