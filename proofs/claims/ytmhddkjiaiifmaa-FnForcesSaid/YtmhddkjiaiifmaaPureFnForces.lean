/- For every code the law FnForces returns true: three pushes fight just where two of them lie more than 100 apart, and a drawn monitor tells the first row of hold values out of bounds. No condition. -/
import Derived.Test.YtmhddkjiaiifmaaPFnForcesx4
import Derived.Test.YtmhddkjiaiifmaaNum
namespace Go.Proofs.Ytmhddkjiaiifmaa.Pure.FnForces
open Go.RowKit Go.Proofs.Ytmhddkjiaiifmaa.PFnForces Go.Proofs.YtmhddkjiaiifmaaW.PrintWords Go.Proofs.YtmhddkjiaiifmaaW.PrintLast Go.Proofs.YtmhddkjiaiifmaaW.PrintMore Go.Proofs.Ytmhddkjiaiifmaa.Num
set_option linter.unusedVariables false
set_option linter.unusedSimpArgs false
theorem in_i (a b c : Int) : impl_in.f a b c = some (decide (b ≤ a) && decide (a ≤ c)) := by
  unfold impl_in.f
  by_cases h : a ≥ b
  · rw [if_pos h, decide_eq_true (show b ≤ a from h)]; rfl
  · rw [if_neg h, decide_eq_false (show ¬ b ≤ a from h)]; rfl
/-- From some count of rounds on it answers r. -/
def Ev {α : Type} (F : Nat → Option α) (r : α) : Prop := ∃ K, ∀ k, K ≤ k → F k = some r
theorem ev_step {α : Type} {F G : Nat → Option α} {r : α} (h : Ev G r) (e : ∀ k, F (k + 1) = G k) : Ev F r := by
  obtain ⟨K, h⟩ := h
  refine ⟨K + 1, fun k hk => ?_⟩
  obtain ⟨m, rfl⟩ : ∃ m, k = m + 1 := ⟨k - 1, by omega⟩
  rw [e m]; exact h m (by omega)
theorem ev_now {α : Type} {F : Nat → Option α} {r : α} (e : ∀ k, F (k + 1) = some r) : Ev F r :=
  ⟨1, fun k hk => by obtain ⟨m, rfl⟩ : ∃ m, k = m + 1 := ⟨k - 1, by omega⟩; exact e m⟩
theorem ev_const {α : Type} {o : Option α} {r : α} (e : o = some r) : Ev (fun _ => o) r := ⟨0, fun _ _ => e⟩
theorem ev_bind {α β : Type} {F : Nat → Option α} {G : Nat → α → Option β} {a : α} {r : β} (h : Ev F a) (g : Ev (fun k => G k a) r) : Ev (fun k => (F k).bind (G k)) r := by
  obtain ⟨K, h⟩ := h
  obtain ⟨L, g⟩ := g
  exact ⟨max K L, fun k hk => by show (F k).bind (G k) = _; rw [h k (by omega), Option.bind_some]; exact g k (by omega)⟩
theorem ev_cong {α : Type} {F G : Nat → Option α} {r : α} (h : Ev G r) (e : ∀ k, F k = G k) : Ev F r := by
  obtain ⟨K, h⟩ := h
  exact ⟨K, fun k hk => (e k).trans (h k hk)⟩
/-- All numbers are in bounds. -/
def All (xs : List Int) (lo hi : Int) : Prop := ∀ j : Nat, j < xs.length → lo ≤ rd xs (j : Int) ∧ rd xs (j : Int) ≤ hi
/-- Each number is above the one ahead. -/
def Rise (xs : List Int) : Prop := ∀ j : Nat, 1 ≤ j → j < xs.length → rd xs ((j - 1 : Nat) : Int) < rd xs (j : Int)
theorem allIn_l0 (xs : List Int) (lo hi : Int) (hn : xs.length ≤ 4611686018427387904) : ∀ (d k i : Nat), xs.length - i = d → i ≤ xs.length → d < k → ∃ b, impl_allIn.l0 k lo hi xs (xs.length : Int) (i : Int) = some b ∧ (b = true ↔ ∀ j : Nat, i ≤ j → j < xs.length → lo ≤ rd xs (j : Int) ∧ rd xs (j : Int) ≤ hi) := by
  intro d
  induction d with
  | zero =>
    intro k i hd hi' hk
    obtain ⟨k, rfl⟩ : ∃ m, k = m + 1 := ⟨k - 1, by omega⟩
    simp only [impl_allIn.l0]
    rw [if_neg (by omega)]
    exact ⟨true, rfl, by simp; intro j h1 h2; omega⟩
  | succ d ih =>
    intro k i hd hi' hk
    obtain ⟨k, rfl⟩ : ∃ m, k = m + 1 := ⟨k - 1, by omega⟩
    simp only [impl_allIn.l0, in_i, Option.bind_some]
    rw [if_pos (by omega), if_pos (by omega), if_pos (by omega), w64 (a := (i : Int) + 1) (by omega) (by omega), show (i : Int) + 1 = ((i + 1 : Nat) : Int) by omega, ← Bool.decide_and]
    by_cases h : lo ≤ rd xs (i : Int) ∧ rd xs (i : Int) ≤ hi
    · rw [decide_eq_true h, if_pos rfl]
      obtain ⟨b, h1, h2⟩ := ih k (i + 1) (by omega) (by omega) (by omega)
      refine ⟨b, h1, h2.trans ⟨fun g j hj hl => ?_, fun g j hj hl => g j (by omega) hl⟩⟩
      by_cases e : j = i
      · subst e; exact h
      · exact g j (by omega) hl
    · rw [decide_eq_false h, if_neg (by decide)]
      exact ⟨false, rfl, ⟨fun g => absurd g Bool.false_ne_true, fun g => absurd (g i (by omega) (by omega)) h⟩⟩
theorem allIn_i (xs : List Int) (lo hi : Int) (k : Nat) (hn : xs.length ≤ 4611686018427387904) (hk : xs.length < k) : ∃ b, impl_allIn.f k xs lo hi = some b ∧ (b = true ↔ All xs lo hi) := by
  obtain ⟨b, h1, h2⟩ := allIn_l0 xs lo hi hn xs.length k 0 (by omega) (by omega) hk
  exact ⟨b, h1, h2.trans ⟨fun g j hl => g j (by omega) hl, fun g j _ hl => g j hl⟩⟩
theorem rdn (l : List Int) (i : Nat) (h : i < l.length) : rd l (i : Int) = l[i] := by
  show l.getD (i : Int).toNat 0 = _
  rw [Int.toNat_natCast, List.getD_eq_getElem?_getD, List.getElem?_eq_getElem h]; rfl
def sumL : List Int → Int
  | [] => 0
  | x :: xs => x + sumL xs
theorem sumL_in (M : Int) (hM : 0 ≤ M) : ∀ l : List Int, (∀ x ∈ l, -M ≤ x ∧ x ≤ M) → -(M * l.length) ≤ sumL l ∧ sumL l ≤ M * l.length
  | [], _ => by unfold sumL; simp
  | x :: xs, h => by
    have a := h x (List.mem_cons_self ..)
    have b := sumL_in M hM xs fun y hy => h y (List.mem_cons_of_mem _ hy)
    have e : M * ((x :: xs).length : Int) = M * (xs.length : Int) + M := by rw [List.length_cons, Int.natCast_add, Int.mul_add]; simp
    unfold sumL
    rw [e]; omega
def finF (bound s lo hi : Int) : Int × Int := if wrap64 (hi - lo) > bound then (s, 1) else (s, 0)
theorem max_i (l : List Int) (hl : l.length ≤ 4611686018427387904) : ∀ (d i : Nat) (m : Int), l.length - i = d → i ≤ l.length → Ev (fun k => slices_Max_int_int.l0 k l m (i : Int)) ((l.drop i).foldl mx m) := by
  intro d
  induction d with
  | zero =>
    intro i m hd hi
    obtain rfl : i = l.length := by omega
    refine ev_now fun k => ?_
    simp only [slices_Max_int_int.l0]
    rw [if_neg (by omega), List.drop_length]; rfl
  | succ d ih =>
    intro i m hd hi
    have hlt : i < l.length := by omega
    rw [List.drop_eq_getElem_cons hlt]
    refine ev_step (ih (i + 1) (mx m l[i]) (by omega) (by omega)) fun k => ?_
    simp only [slices_Max_int_int.l0]
    rw [if_pos (by omega), if_pos (by omega), rdn l i hlt, w64 (a := (i : Int) + 1) (by omega) (by omega)]; rfl
theorem min_i (l : List Int) (hl : l.length ≤ 4611686018427387904) : ∀ (d i : Nat) (m : Int), l.length - i = d → i ≤ l.length → Ev (fun k => slices_Min_int_int.l0 k l m (i : Int)) ((l.drop i).foldl mn m) := by
  intro d
  induction d with
  | zero =>
    intro i m hd hi
    obtain rfl : i = l.length := by omega
    refine ev_now fun k => ?_
    simp only [slices_Min_int_int.l0]
    rw [if_neg (by omega), List.drop_length]; rfl
  | succ d ih =>
    intro i m hd hi
    have hlt : i < l.length := by omega
    rw [List.drop_eq_getElem_cons hlt]
    refine ev_step (ih (i + 1) (mn m l[i]) (by omega) (by omega)) fun k => ?_
    simp only [slices_Min_int_int.l0]
    rw [if_pos (by omega), if_pos (by omega), rdn l i hlt, w64 (a := (i : Int) + 1) (by omega) (by omega)]; rfl
theorem mx_self (x : Int) : mx x x = x := by unfold mx; rw [if_neg (by omega)]
theorem mn_self (x : Int) : mn x x = x := by unfold mn; rw [if_neg (by omega)]
theorem fight_i (l : List Int) (bound : Int) (hl : l.length ≤ 5) (h1 : 1 ≤ l.length) (ha : ∀ x ∈ l, -10000 ≤ x ∧ x ≤ 10000) : ∀ (d i : Nat) (s : Int), l.length - i = d → i ≤ l.length → -10000 * (i : Int) ≤ s → s ≤ 10000 * (i : Int) → Ev (fun k => impl_Fight.l0 k l bound s l (l.length : Int) (i : Int)) (finF bound (s + sumL (l.drop i)) (l.foldl mn (rd l 0)) (l.foldl mx (rd l 0))) := by
  have eM : (l.drop 1).foldl mx (rd l 0) = l.foldl mx (rd l 0) := by
    cases l with
    | nil => rfl
    | cons x xs =>
      show xs.foldl mx x = xs.foldl mx (mx x x)
      rw [mx_self]
  have eN : (l.drop 1).foldl mn (rd l 0) = l.foldl mn (rd l 0) := by
    cases l with
    | nil => rfl
    | cons x xs =>
      show xs.foldl mn x = xs.foldl mn (mn x x)
      rw [mn_self]
  have hM : Ev (fun k => slices_Max_int_int.f k l) (l.foldl mx (rd l 0)) := by
    rw [← eM]
    refine ev_cong (max_i l (by omega) (l.length - 1) 1 (rd l 0) rfl h1) fun k => ?_
    unfold slices_Max_int_int.f
    rw [if_neg (by omega), if_pos (by omega)]; rfl
  have hN : Ev (fun k => slices_Min_int_int.f k l) (l.foldl mn (rd l 0)) := by
    rw [← eN]
    refine ev_cong (min_i l (by omega) (l.length - 1) 1 (rd l 0) rfl h1) fun k => ?_
    unfold slices_Min_int_int.f
    rw [if_neg (by omega), if_pos (by omega)]; rfl
  intro d
  induction d with
  | zero =>
    intro i s hd hi h0 h2
    obtain rfl : i = l.length := by omega
    refine ev_step (ev_bind hM (G := fun k t130 => ((slices_Min_int_int.f k l).bind fun t131 => (if (wrap64 (t130 - t131)) > bound then (some (s, 1)) else (some (s, 0))))) (ev_bind hN (ev_const ?_))) fun k => ?_
    · rw [List.drop_length]
      unfold finF sumL
      rw [Int.add_zero]
      by_cases c : wrap64 (l.foldl mx (rd l 0) - l.foldl mn (rd l 0)) > bound
      · rw [if_pos c, if_pos c]
      · rw [if_neg c, if_neg c]
    · simp only [impl_Fight.l0]; rw [if_neg (by omega)]
  | succ d ih =>
    intro i s hd hi h0 h2
    have hlt : i < l.length := by omega
    have b := ha _ (List.getElem_mem hlt)
    have e := ih (i + 1) (s + l[i]) (by omega) (by omega) (by omega) (by omega)
    have hs : s + sumL (l.drop i) = s + l[i] + sumL (l.drop (i + 1)) := by
      rw [List.drop_eq_getElem_cons hlt]
      show s + (l[i] + sumL (l.drop (i + 1))) = _
      omega
    rw [hs]
    refine ev_step e fun k => ?_
    simp only [impl_Fight.l0]
    rw [if_pos (by omega), if_pos (by omega), if_pos (by omega), rdn l i hlt, w64 (a := s + l[i]) (by omega) (by omega), w64 (a := (i : Int) + 1) (by omega) (by omega)]; rfl
theorem at_in (l : List Int) (hl : l.length ≤ 1048576) (hu : ∀ x ∈ l, (Lit.int .u8 x).wf = true) (i : Int) (h0 : 0 ≤ i) (h1 : i ≤ 1000000) : ∃ v, laws_at.f l i = some v ∧ 0 ≤ v ∧ v ≤ 255 := by
  unfold laws_at.f
  by_cases h : i < (l.length : Int)
  · rw [if_pos h, if_pos h0]
    have hi : i.toNat < l.length := by omega
    have hr : rd l i = l[i.toNat] := by
      show l.getD i.toNat 0 = _
      rw [List.getD_eq_getElem?_getD, List.getElem?_eq_getElem hi]; rfl
    have hb := wfu8 (hu _ (List.getElem_mem hi))
    rw [hr, w64 (by omega) (by omega)]
    exact ⟨_, rfl, hb.1, hb.2⟩
  · rw [if_neg h]
    refine ⟨_, rfl, ?_⟩
    rw [w64 (a := i * 7) (by omega) (by omega), w64 (by omega) (by omega), Int.tmod_eq_emod_of_nonneg (by omega)]
    omega
theorem big_f (l : List Int) (h : l.length ≤ 1048576) : laws_big.f l = some false := by
  unfold laws_big.f
  rw [decide_eq_false (by omega)]
theorem big_t (l : List Int) (h : ¬ l.length ≤ 1048576) : laws_big.f l = some true := by
  unfold laws_big.f
  rw [decide_eq_true (by omega)]
theorem and255 (n : Int) : 0 ≤ Go.bits .and .i64 n 255 ∧ Go.bits .and .i64 n 255 ≤ 255 := by
  have e : Go.bits .and .i64 n 255 = n % 256 := by
    have h : (((BitVec.ofInt 64 n) &&& (BitVec.ofInt 64 255)).toNat : Int) = n % 256 := by
      rw [BitVec.toNat_and]
      have h1 : (BitVec.ofInt 64 255).toNat = 2 ^ 8 - 1 := by decide
      rw [h1, Nat.and_two_pow_sub_one_eq_mod, BitVec.toNat_ofInt]
      omega
    show IntKind.i64.wrap (((BitVec.ofInt 64 n) &&& (BitVec.ofInt 64 255)).toNat : Int) = _
    rw [h, IntKind.wrap_i64]
    omega
  rw [e]; omega
/-- A cursor over l: its place is within. -/
def Cur (l : List Int) (i : Int) : Prop := 0 ≤ i ∧ i ≤ (l.length : Int)
theorem new_s (l : List Int) (hl : l.length ≤ 4611686018427387904) : ∃ h, Ev (fun k => spec_l1New.f k l) (l, 0, h) := by
  have go : ∀ (d i : Nat) (h : Int), l.length - i = d → i ≤ l.length → ∃ h', Ev (fun k => spec_l1New.l0 k l h (i : Int)) (l, 0, h') := by
    intro d
    induction d with
    | zero =>
      intro i h hd hi
      refine ⟨h, ev_now fun k => ?_⟩
      simp only [spec_l1New.l0]
      rw [if_neg (by omega)]
    | succ d ih =>
      intro i h hd hi
      by_cases c : (i : Int) < 4000
      · obtain ⟨h', e⟩ := ih (i + 1) (Go.bits .and .i64 (wrap64 ((wrap64 ((wrap64 (h * 131)) + (wrap64 (rd l (i : Int))))) + 7)) 1073741823) (by omega) (by omega)
        refine ⟨h', ev_step e fun k => ?_⟩
        simp only [spec_l1New.l0]
        rw [if_pos (by omega), if_pos c, if_pos (by omega), w64 (a := (i : Int) + 1) (by omega) (by omega)]; rfl
      · refine ⟨h, ev_now fun k => ?_⟩
        simp only [spec_l1New.l0]
        rw [if_pos (by omega), if_neg c]
  exact go l.length 0 _ (by omega) (by omega)
theorem byte_s (l : List Int) (i h : Int) (hl : l.length ≤ 4611686018427387904) (hc : Cur l i) : ∃ v i' h', spec_l1Byte.f l i h = some (v, i', h') ∧ 0 ≤ v ∧ v ≤ 255 ∧ Cur l i' := by
  obtain ⟨h0, h1⟩ := hc
  unfold spec_l1Byte.f
  by_cases c : i < (l.length : Int)
  · rw [if_pos c, if_pos h0, w64 (a := i + 1) (by omega) (by omega)]
    exact ⟨_, _, _, rfl, (and255 _).1, (and255 _).2, by omega, by omega⟩
  · rw [if_neg c]
    exact ⟨_, _, _, rfl, (and255 _).1, (and255 _).2, h0, h1⟩
/-- What is drawn below n lies below n, wherever the cursor stands. -/
theorem below_s (l : List Int) (i h n : Int) (hl : l.length ≤ 4611686018427387904) (hc : Cur l i) (hn : n ≤ 4294967296) : ∃ v i' h', spec_l1Below.f l i h n = some (v, i', h') ∧ 0 ≤ v ∧ (0 < n → v < n) ∧ (n ≤ 0 → v = 0) ∧ Cur l i' := by
  unfold spec_l1Below.f
  by_cases c : n ≤ 0
  · rw [if_pos c]; exact ⟨_, _, _, rfl, by omega, fun g => by omega, fun _ => rfl, hc⟩
  · rw [if_neg c]
    by_cases c2 : n ≤ 256
    · rw [if_pos c2]
      obtain ⟨v, i', h', e, v0, v1, hc'⟩ := byte_s l i h hl hc
      rw [e, Option.bind_some, if_neg (by omega)]
      have m := Int.tmod_eq_emod_of_nonneg (b := n) v0
      have m0 := Int.emod_nonneg v (show n ≠ 0 by omega)
      have m1 := Int.emod_lt_of_pos v (show 0 < n by omega)
      exact ⟨_, _, _, rfl, by simp only; omega, fun _ => by simp only; omega, fun g => by omega, hc'⟩
    · rw [if_neg c2]
      obtain ⟨a, i1, h1, e1, a0, a1, c1⟩ := byte_s l i h hl hc
      rw [e1, Option.bind_some]
      obtain ⟨b, i2, h2, e2, b0, b1, c2⟩ := byte_s l i1 h1 hl c1
      simp only [e2, Option.bind_some]
      obtain ⟨p, i3, h3, e3, p0, p1, c3⟩ := byte_s l i2 h2 hl c2
      simp only [e3, Option.bind_some]
      obtain ⟨q, i4, h4, e4, q0, q1, c4⟩ := byte_s l i3 h3 hl c3
      simp only [e4, Option.bind_some]
      have e : wrap64 (wrap64 (wrap64 (wrap64 (a * 16777216) + wrap64 (b * 65536)) + wrap64 (p * 256)) + q) = a * 16777216 + b * 65536 + p * 256 + q := by
        rw [w64 (a := a * 16777216) (by omega) (by omega), w64 (a := b * 65536) (by omega) (by omega), w64 (a := p * 256) (by omega) (by omega), w64 (a := a * 16777216 + b * 65536) (by omega) (by omega), w64 (a := a * 16777216 + b * 65536 + p * 256) (by omega) (by omega), w64 (by omega) (by omega)]
      rw [e, if_neg (by omega)]
      have v0 : 0 ≤ a * 16777216 + b * 65536 + p * 256 + q := by omega
      generalize a * 16777216 + b * 65536 + p * 256 + q = v at v0
      have m := Int.tmod_eq_emod_of_nonneg (b := n) v0
      have m0 := Int.emod_nonneg v (show n ≠ 0 by omega)
      have m1 := Int.emod_lt_of_pos v (show 0 < n by omega)
      exact ⟨_, _, _, rfl, by rw [m]; exact m0, fun _ => by rw [m]; exact m1, fun g => by omega, c4⟩
theorem once_s (l : List Int) (i h n : Int) (hl : l.length ≤ 4611686018427387904) (hc : Cur l i) (hn : n ≤ 4294967296) : ∃ b i' h', spec_l1Once.f l i h n = some (b, i', h') ∧ Cur l i' := by
  obtain ⟨v, i', h', e, _, _, _, c⟩ := below_s l i h n hl hc hn
  unfold spec_l1Once.f
  rw [e]
  exact ⟨_, _, _, rfl, c⟩
theorem pick_s (l : List Int) (i h : Int) (xs : List Int) (hl : l.length ≤ 4611686018427387904) (hc : Cur l i) (h1 : 1 ≤ xs.length) (h2 : xs.length ≤ 1000) : ∃ v i' h', spec_l1PickInt.f l i h xs = some (v, i', h') ∧ v ∈ xs ∧ Cur l i' := by
  obtain ⟨v, i', h', e, v0, v1, _, c⟩ := below_s l i h (xs.length : Int) hl hc (by omega)
  have v2 := v1 (by omega)
  unfold spec_l1PickInt.f
  rw [e, Option.bind_some, if_pos v0, if_pos v2]
  obtain ⟨m, rfl⟩ := Int.eq_ofNat_of_zero_le v0
  refine ⟨_, _, _, rfl, ?_, c⟩
  have hm : m < xs.length := by omega
  show xs.getD (m : Int).toNat 0 ∈ xs
  rw [Int.toNat_natCast, List.getD_eq_getElem?_getD, List.getElem?_eq_getElem hm]
  exact List.getElem_mem hm
theorem size_s (l : List Int) (most : Int) (hl : l.length ≤ 4611686018427387904) (hm : 2 ≤ most) : ∃ v, spec_l1Size.f l most = some v ∧ 2 ≤ v ∧ v ≤ most := by
  unfold spec_l1Size.f
  rw [w64 (a := (l.length : Int) / 20) (by omega) (by omega), w64 (by omega) (by omega)]
  by_cases c : 2 + (l.length : Int) / 20 > most
  · rw [if_pos c]; exact ⟨_, rfl, hm, Int.le_refl _⟩
  · rw [if_neg c]; exact ⟨_, rfl, by omega, by omega⟩
def Out (l : List Int) (lo hi : Int) (j : Nat) : Prop := ¬ (lo ≤ rd l (j : Int) ∧ rd l (j : Int) ≤ hi)
theorem rd_take (l : List Int) (K j : Nat) (h : j < K) : rd (l.take K) (j : Int) = rd l (j : Int) := by
  show (l.take K).getD (j : Int).toNat 0 = l.getD (j : Int).toNat 0
  rw [Int.toNat_natCast, List.getD_eq_getElem?_getD, List.getD_eq_getElem?_getD, List.getElem?_take_of_lt h]
theorem mon_l (l : List Int) (lo hi hold : Int) (hh : 1 ≤ hold ∧ hold ≤ 100) (hn : l.length ≤ 500) : ∀ (d i row : Nat), l.length - i = d → i ≤ l.length → row ≤ i → (row : Int) < hold → (∀ j, i - row ≤ j → j < i → Out l lo hi j) → (Ev (fun k => impl_Monitor.l0 k lo hi hold (row : Int) l (l.length : Int) (i : Int)) ((-1 : Int), false)) ∨ ∃ K : Nat, Ev (fun k => impl_Monitor.l0 k lo hi hold (row : Int) l (l.length : Int) (i : Int)) ((K : Int), true) ∧ i ≤ K ∧ K < l.length ∧ hold - 1 ≤ (K : Int) ∧ (∀ j : Nat, (K : Int) - hold + 1 ≤ (j : Int) → j ≤ K → Out l lo hi j) ∧ Ev (fun k => impl_Monitor.l0 k lo hi hold (row : Int) (l.take K) ((l.take K).length : Int) (i : Int)) ((-1 : Int), false) := by
  intro d
  induction d with
  | zero =>
    intro i row hd hie hr hw ho
    left
    refine ev_now fun k => ?_
    simp only [impl_Monitor.l0]
    rw [if_neg (by omega)]
  | succ d ih =>
    intro i row hd hie hr hw ho
    have hlt : i < l.length := by omega
    have w1 : wrap64 ((i : Int) + 1) = ((i + 1 : Nat) : Int) := by rw [w64 (by omega) (by omega)]; omega
    have w2 : wrap64 ((row : Int) + 1) = ((row + 1 : Nat) : Int) := by rw [w64 (by omega) (by omega)]; omega
    by_cases c : lo ≤ rd l (i : Int) ∧ rd l (i : Int) ≤ hi
    · rcases ih (i + 1) 0 (by omega) (by omega) (by omega) (by omega) (fun j h1 h2 => by omega) with e | ⟨K, e, k1, k2, k3, k4, k5⟩
      · left
        refine ev_step e fun k => ?_
        simp only [impl_Monitor.l0, in_i, Option.bind_some, ← Bool.decide_and, decide_eq_true c, if_true, w1]
        rw [if_pos (by omega), if_pos (by omega), if_pos (by omega), if_neg (by omega)]; rfl
      · right
        refine ⟨K, ev_step e fun k => ?_, by omega, k2, k3, k4, ev_step k5 fun k => ?_⟩
        · simp only [impl_Monitor.l0, in_i, Option.bind_some, ← Bool.decide_and, decide_eq_true c, if_true, w1]
          rw [if_pos (by omega), if_pos (by omega), if_pos (by omega), if_neg (by omega)]; rfl
        · have ht : (l.take K).length = K := by rw [List.length_take]; omega
          simp only [impl_Monitor.l0, in_i, Option.bind_some, ← Bool.decide_and, rd_take l K i (by omega), decide_eq_true c, if_true, w1, ht]
          rw [if_pos (by omega), if_pos (by omega), if_pos (by omega), if_neg (by omega)]; rfl
    · have ho' : ∀ j, (i + 1) - (row + 1) ≤ j → j < i + 1 → Out l lo hi j := by
        intro j h1 h2
        by_cases e : j = i
        · subst e; exact c
        · exact ho j (by omega) (by omega)
      by_cases q : ((row + 1 : Nat) : Int) = hold
      · right
        refine ⟨i, ev_now fun k => ?_, Nat.le_refl _, hlt, by omega, fun j h1 h2 => ho' j (by omega) (by omega), ev_now fun k => ?_⟩
        · simp only [impl_Monitor.l0, in_i, Option.bind_some, ← Bool.decide_and, decide_eq_false c, Bool.false_eq_true, if_false, w1, w2]
          rw [if_pos (by omega), if_pos (by omega), if_pos (by omega), if_pos q]
        · have ht : (l.take i).length = i := by rw [List.length_take]; omega
          simp only [impl_Monitor.l0, ht]
          rw [if_neg (by omega)]
      · rcases ih (i + 1) (row + 1) (by omega) (by omega) (by omega) (by omega) ho' with e | ⟨K, e, k1, k2, k3, k4, k5⟩
        · left
          refine ev_step e fun k => ?_
          simp only [impl_Monitor.l0, in_i, Option.bind_some, ← Bool.decide_and, decide_eq_false c, Bool.false_eq_true, if_false, w1, w2]
          rw [if_pos (by omega), if_pos (by omega), if_pos (by omega), if_neg q]
        · right
          refine ⟨K, ev_step e fun k => ?_, by omega, k2, k3, k4, ev_step k5 fun k => ?_⟩
          · simp only [impl_Monitor.l0, in_i, Option.bind_some, ← Bool.decide_and, decide_eq_false c, Bool.false_eq_true, if_false, w1, w2]
            rw [if_pos (by omega), if_pos (by omega), if_pos (by omega), if_neg q]
          · have ht : (l.take K).length = K := by rw [List.length_take]; omega
            simp only [impl_Monitor.l0, in_i, Option.bind_some, ← Bool.decide_and, rd_take l K i (by omega), decide_eq_false c, Bool.false_eq_true, if_false, w1, w2, ht]
            rw [if_pos (by omega), if_pos (by omega), if_pos (by omega), if_neg q]
theorem mon (l : List Int) (lo hi hold : Int) : Ev (fun k => impl_Monitor.f k l lo hi hold) ((-1 : Int), false) ∨ ∃ K : Nat, Ev (fun k => impl_Monitor.f k l lo hi hold) ((K : Int), true) ∧ K < l.length ∧ l.length ≤ 500 ∧ hold - 1 ≤ (K : Int) ∧ 1 ≤ hold ∧ (∀ j : Nat, (K : Int) - hold + 1 ≤ (j : Int) → j ≤ K → Out l lo hi j) ∧ Ev (fun k => impl_Monitor.f k (l.take K) lo hi hold) ((-1 : Int), false) := by
  have bad : Ev (fun k => impl_Monitor.j0 k l lo hi hold true) ((-1 : Int), false) := ev_now fun k => rfl
  by_cases h1 : (l.length : Int) > 500
  · left
    refine ev_cong bad fun k => ?_
    unfold impl_Monitor.f
    rw [if_pos h1]
  · by_cases h2 : lo > hi
    · left
      refine ev_cong bad fun k => ?_
      unfold impl_Monitor.f
      rw [if_neg h1, if_pos h2]
    · by_cases h3 : 1 ≤ hold ∧ hold ≤ 100
      · have go : ∀ (m : List Int) (r : Int × Bool), m.length ≤ 500 → Ev (fun k => impl_Monitor.l0 k lo hi hold 0 m (m.length : Int) 0) r → Ev (fun k => impl_Monitor.f k m lo hi hold) r := by
          intro m r hm e
          refine ev_cong (ev_step (F := fun k => impl_Monitor.j0 k m lo hi hold false) e fun k => rfl) fun k => ?_
          unfold impl_Monitor.f
          rw [if_neg (by omega), if_neg h2, in_i, ← Bool.decide_and, decide_eq_true h3]; rfl
        rcases mon_l l lo hi hold h3 (by omega) l.length 0 0 (by omega) (by omega) (by omega) (by omega) (fun j a b => by omega) with e | ⟨K, e, k1, k2, k3, k4, k5⟩
        · exact .inl (go l _ (by omega) e)
        · exact .inr ⟨K, go l _ (by omega) e, k2, by omega, k3, h3.1, k4, go _ _ (by rw [List.length_take]; omega) k5⟩
      · left
        refine ev_cong bad fun k => ?_
        unfold impl_Monitor.f
        rw [if_neg h1, if_neg h2, in_i, ← Bool.decide_and, decide_eq_false h3]; rfl
theorem dm_end (l xs : List Int) (i h : Int) (hl : l.length ≤ 4611686018427387904) (hc : Cur l i) (hx : xs.length ≤ 501) : ∃ r : List Int × Int × Int × Int, Ev (fun k => spec_DrawMonitor.j1 k xs l i h) r ∧ r.1.length ≤ 501 ∧ 0 ≤ r.2.2.2 ∧ r.2.2.2 ≤ 101 := by
  obtain ⟨a, i1, h1, e1, _, _, _, c1⟩ := below_s l i h 12 hl hc (by omega)
  obtain ⟨b, i2, h2, e2, _, _, _, c2⟩ := below_s l i1 h1 10 hl c1 (by omega)
  obtain ⟨c, i3, h3, e3, _, _, _, c3⟩ := below_s l i2 h2 15 hl c2 (by omega)
  obtain ⟨v, i4, h4, e4, hv, _⟩ := pick_s l i3 h3 [1, 2, 3, 5, 100, 101, 0, 2] hl c3 (by simp) (by simp)
  refine ⟨(xs, a, wrap64 ((wrap64 (a + b)) - (wrap64 ((wrap64 (Int.tdiv c 14)) * 11))), v), ev_now fun k => ?_, ?_⟩
  · simp only [spec_DrawMonitor.j1, e1, e2, e3, e4, Option.bind_some]
  · refine ⟨hx, ?_⟩
    simp only [List.mem_cons, List.not_mem_nil, or_false] at hv
    simp only
    omega
theorem dm_l (l : List Int) (hl : l.length ≤ 4611686018427387904) : ∀ (n : Nat) (xs : List Int) (i h : Int), Cur l i → xs.length + n ≤ 100 → ∃ r : List Int × Int × Int × Int, Ev (fun k => spec_DrawMonitor.l0 k xs (n : Int) l i h) r ∧ r.1.length ≤ 501 ∧ 0 ≤ r.2.2.2 ∧ r.2.2.2 ≤ 101 := by
  intro n
  induction n with
  | zero =>
    intro xs i h hc hx
    obtain ⟨b, i1, h1, e1, c1⟩ := once_s l i h 40 hl hc (by omega)
    cases b
    · obtain ⟨r, e, q⟩ := dm_end l xs i1 h1 hl c1 (by omega)
      refine ⟨r, ev_step e fun k => ?_, q⟩
      simp only [spec_DrawMonitor.l0, e1, Option.bind_some, Bool.false_eq_true, if_false]
      rw [if_neg (by omega)]
    · obtain ⟨v, i2, h2, e2, v0, v1, _, c2⟩ := below_s l i1 h1 2 hl c1 (by omega)
      have v2 := v1 (by omega)
      have hw : wrap64 (500 + v) = 500 + v := w64 (by omega) (by omega)
      obtain ⟨r, e, q⟩ := dm_end l (List.replicate (500 + v : Int).toNat 0) i2 h2 hl c2 (by rw [List.length_replicate]; omega)
      refine ⟨r, ev_step e fun k => ?_, q⟩
      simp only [spec_DrawMonitor.l0, e1, e2, Option.bind_some, if_true, hw]
      rw [if_neg (by omega), if_pos (by omega), if_pos (by omega)]
  | succ n ih =>
    intro xs i h hc hx
    obtain ⟨v, i1, h1, e1, _, _, _, c1⟩ := below_s l i h 20 hl hc (by omega)
    obtain ⟨r, e, q⟩ := ih (xs ++ [v]) i1 h1 c1 (by simp; omega)
    refine ⟨r, ev_step e fun k => ?_, q⟩
    simp only [spec_DrawMonitor.l0, e1, Option.bind_some]
    rw [if_pos (by omega), if_pos (by omega), w64 (a := ((n + 1 : Nat) : Int) - 1) (by omega) (by omega), show ((n + 1 : Nat) : Int) - 1 = (n : Int) by omega]
theorem drawMonitor (l : List Int) (hl : l.length ≤ 4611686018427387904) : ∃ r : List Int × Int × Int × Int, Ev (fun k => spec_DrawMonitor.f k l) r ∧ r.1.length ≤ 501 ∧ 0 ≤ r.2.2.2 ∧ r.2.2.2 ≤ 101 := by
  obtain ⟨h, e⟩ := new_s l hl
  obtain ⟨s, es, s0, s1⟩ := size_s l 30 hl (by omega)
  have hw : wrap64 (2 * s) = 2 * s := w64 (by omega) (by omega)
  obtain ⟨v, i1, h1, e1, v0, v1, _, c1⟩ := below_s l 0 h (2 * s) hl ⟨by omega, by omega⟩ (by omega)
  have v2 := v1 (by omega)
  obtain ⟨m, rfl⟩ := Int.eq_ofNat_of_zero_le v0
  obtain ⟨r, er, q⟩ := dm_l l hl m [] i1 h1 c1 (by simp; omega)
  refine ⟨r, ev_bind e (ev_cong er fun k => ?_), q⟩
  simp only [es, hw, e1, Option.bind_some]
theorem size_l (x : Int) (h1 : -1000 ≤ x) (h2 : x ≤ 1000) : ∃ z, laws_size.f x = some z ∧ (z > 100 ↔ x > 100 ∨ x < -100) := by
  unfold laws_size.f
  by_cases c : x < 0
  · rw [if_pos c, w64 (by omega) (by omega)]; exact ⟨_, rfl, by omega⟩
  · rw [if_neg c]; exact ⟨_, rfl, by omega⟩
theorem mx_spec (a b : Int) : a ≤ mx a b ∧ b ≤ mx a b ∧ (mx a b = a ∨ mx a b = b) := by
  unfold mx; split <;> omega
theorem mn_spec (a b : Int) : mn a b ≤ a ∧ mn a b ≤ b ∧ (mn a b = a ∨ mn a b = b) := by
  unfold mn; split <;> omega
theorem ev_mono {α : Type} {F : Nat → Option α} {r : α} (K : Nat) (h : F K = some r) (m : ∀ k, LeO (F k) (F (k + 1))) : Ev F r := by
  refine ⟨K, fun k hk => ?_⟩
  obtain ⟨d, rfl⟩ : ∃ d, k = K + d := ⟨k - K, by omega⟩
  induction d with
  | zero => exact h
  | succ d ih => exact m _ _ (ih (by omega))
theorem fight3 (a b c : Int) (ha : -128 ≤ a ∧ a ≤ 127) (hb : -128 ≤ b ∧ b ≤ 127) (hc : -128 ≤ c ∧ c ≤ 127) : ∃ f, Ev (fun k => impl_Fight.f k [a, b, c] 100) (a + b + c, f) ∧ (f = 1 ∨ f = 0) ∧ (f = 1 ↔ (a - b > 100 ∨ a - b < -100) ∨ (b - c > 100 ∨ b - c < -100) ∨ (a - c > 100 ∨ a - c < -100)) := by
  have hm : ∀ x ∈ [a, b, c], -10000 ≤ x ∧ x ≤ 10000 := by
    intro x hx
    simp only [List.mem_cons, List.not_mem_nil, or_false] at hx
    omega
  have e := fight_i [a, b, c] 100 (by simp) (by simp) hm 3 0 0 (by simp) (by simp) (by omega) (by omega)
  obtain ⟨M, hM⟩ : ∃ M, mx (mx (mx a a) b) c = M := ⟨_, rfl⟩
  obtain ⟨N, hN⟩ : ∃ N, mn (mn (mn a a) b) c = N := ⟨_, rfl⟩
  have m1 := mx_spec (mx a b) c
  have m2 := mx_spec a b
  have n1 := mn_spec (mn a b) c
  have n2 := mn_spec a b
  rw [mx_self] at hM
  rw [mn_self] at hN
  rw [hM] at m1
  rw [hN] at n1
  have hf : finF 100 (0 + sumL ([a, b, c].drop 0)) ([a, b, c].foldl mn (rd [a, b, c] 0)) ([a, b, c].foldl mx (rd [a, b, c] 0)) = (a + b + c, if M - N > 100 then 1 else 0) := by
    show finF 100 (0 + (a + (b + (c + 0)))) (mn (mn (mn a a) b) c) (mx (mx (mx a a) b) c) = _
    rw [mx_self, mn_self, hM, hN]
    unfold finF
    rw [w64 (by omega) (by omega)]
    by_cases q : M - N > 100
    · rw [if_pos q, if_pos q]; congr 1; omega
    · rw [if_neg q, if_neg q]; congr 1; omega
  rw [hf] at e
  refine ⟨if M - N > 100 then 1 else 0, ?_, ?_, ?_⟩
  · obtain ⟨b1, e1, g1⟩ := allIn_i [a, b, c] (-10000) 10000 4 (by simp) (by simp)
    have hall : ∀ k, 4 ≤ k → impl_allIn.f k [a, b, c] (-10000) 10000 = some true := by
      intro k hk
      obtain ⟨b2, e2, g2⟩ := allIn_i [a, b, c] (-10000) 10000 k (by simp) (by simp; omega)
      rw [e2, g2.2 (fun j hj => ?_)]
      have hj' : j < [a, b, c].length := hj
      rw [rdn _ j hj']
      exact hm _ (List.getElem_mem hj')
    refine ev_cong (G := fun k => (impl_allIn.f k [a, b, c] (-10000) 10000).bind fun t112 => (if t112 = true then ((impl_in.f 100 0 20000).bind fun t113 => (impl_Fight.j0 k [a, b, c] 100 (!t113))) else (impl_Fight.j0 k [a, b, c] 100 true))) (ev_bind ⟨4, hall⟩ (ev_cong (ev_step (F := fun k => impl_Fight.j0 k [a, b, c] 100 false) e fun k => rfl) fun k => rfl)) fun k => rfl
  · split <;> simp
  · split <;> omega
theorem law_l0 (seen : List Int) (lo hi hold : Int) (K : Nat) (hK : K < seen.length) (hs : seen.length ≤ 501) (hh : hold - 1 ≤ (K : Int)) (ho : ∀ j : Nat, (K : Int) - hold + 1 ≤ (j : Int) → j ≤ K → Out seen lo hi j) (ht : Ev (fun k => impl_Monitor.f k (seen.take K) lo hi hold) ((-1 : Int), false)) : ∀ (d i : Nat), K + 1 - i = d → i ≤ K + 1 → (K : Int) - hold + 1 ≤ (i : Int) → Ev (fun k => laws_FnForces.l0 k seen lo hi hold (K : Int) (i : Int)) true := by
  intro d
  induction d with
  | zero =>
    intro i hd hi h0
    refine ev_step (ev_bind ht (G := fun _ r => some (!r.2)) (ev_const rfl)) fun k => ?_
    simp only [laws_FnForces.l0]
    rw [if_neg (by omega), if_pos (by omega), if_pos (by omega), Int.toNat_natCast]
  | succ d ih =>
    intro i hd hi h0
    have o := ho i h0 (by omega)
    refine ev_step (ih (i + 1) (by omega) (by omega) (by omega)) fun k => ?_
    simp only [laws_FnForces.l0]
    rw [if_pos (by omega), if_pos (by omega), if_pos (by omega), w64 (a := (i : Int) + 1) (by omega) (by omega), show (i : Int) + 1 = ((i + 1 : Nat) : Int) by omega]
    by_cases c : rd seen (i : Int) ≥ lo
    · rw [if_pos c, if_neg (fun g => o ⟨c, g⟩)]
    · rw [if_neg c]
theorem mon9 : impl_Monitor.f 8 [9, 1, 9, 9] 0 5 2 = some ((3 : Int), true) := by
  have w1 : wrap64 (0 + 1) = 1 := by unfold wrap64; omega
  have w2 : wrap64 (1 + 1) = 2 := by unfold wrap64; omega
  have w3 : wrap64 (2 + 1) = 3 := by unfold wrap64; omega
  have w4 : wrap64 (3 + 1) = 4 := by unfold wrap64; omega
  have r0 : rd [9, 1, 9, 9] 0 = 9 := rfl
  have r1 : rd [9, 1, 9, 9] 1 = 1 := rfl
  have r2 : rd [9, 1, 9, 9] 2 = 9 := rfl
  have r3 : rd [9, 1, 9, 9] 3 = 9 := rfl
  have hn : (([9, 1, 9, 9] : List Int).length : Int) = 4 := rfl
  unfold impl_Monitor.f
  simp only [impl_Monitor.j0, impl_Monitor.l0, impl_in.f, hn, w1, w2, w3, w4, r0, r1, r2, r3]
  simp
theorem law_j1 (l : List Int) (hl : l.length ≤ 4611686018427387904) : Ev (fun k => laws_FnForces.j1 k l false) true := by
  obtain ⟨⟨seen, lo, hi, hold⟩, ed, hs, h0, h1⟩ := drawMonitor l hl
  simp only at hs h0 h1
  rcases mon seen lo hi hold with e | ⟨K, e, k1, k2, k3, k4, k5, k6⟩
  · have e9 : Ev (fun k => impl_Monitor.f k [9, 1, 9, 9] 0 5 2) ((3 : Int), true) := ev_mono 8 mon9 (fun k => impl_Monitor.mono _ _ _ _ k)
    refine ev_step (ev_bind ed (G := fun k r => (impl_Monitor.f k r.1 r.2.1 r.2.2.1 r.2.2.2).bind fun bt211 => (if bt211.2 = true then (if bt211.1 < (wrap64 (r.2.2.2 - 1)) then (laws_FnForces.j2 k r.1 r.2.1 r.2.2.1 r.2.2.2 bt211.1 true) else (laws_FnForces.j2 k r.1 r.2.1 r.2.2.1 r.2.2.2 bt211.1 (decide (bt211.1 ≥ (r.1.length : Int))))) else ((impl_Monitor.f k (([9, 1, 9, 9] : List Int)) 0 5 2).bind fun bt216 => (if bt211.1 = (-1) then (if bt216.2 = true then (some (bt216.1 == 3)) else (some false)) else (some false))))) (ev_bind e (ev_cong (ev_bind e9 (G := fun _ bt216 => if ((-1 : Int)) = (-1) then (if bt216.2 = true then (some (bt216.1 == 3)) else (some false)) else (some false)) (ev_const (by simp))) fun k => rfl))) fun k => rfl
  · have tail : Ev (fun k => laws_FnForces.j2 k seen lo hi hold (K : Int) false) true := by
      obtain ⟨m, hm⟩ : ∃ m : Nat, (K : Int) - hold + 1 = (m : Int) := ⟨((K : Int) - hold + 1).toNat, by omega⟩
      refine ev_step (law_l0 seen lo hi hold K k1 hs k3 k5 k6 (K + 1 - m) m rfl (by omega) (by omega)) fun k => ?_
      simp only [laws_FnForces.j2, Bool.false_eq_true, if_false]
      rw [w64 (a := (K : Int) - hold) (by omega) (by omega), w64 (a := (K : Int) - hold + 1) (by omega) (by omega), hm]
    refine ev_step (ev_bind ed (G := fun k r => (impl_Monitor.f k r.1 r.2.1 r.2.2.1 r.2.2.2).bind fun bt211 => (if bt211.2 = true then (if bt211.1 < (wrap64 (r.2.2.2 - 1)) then (laws_FnForces.j2 k r.1 r.2.1 r.2.2.1 r.2.2.2 bt211.1 true) else (laws_FnForces.j2 k r.1 r.2.1 r.2.2.1 r.2.2.2 bt211.1 (decide (bt211.1 ≥ (r.1.length : Int))))) else ((impl_Monitor.f k (([9, 1, 9, 9] : List Int)) 0 5 2).bind fun bt216 => (if bt211.1 = (-1) then (if bt216.2 = true then (some (bt216.1 == 3)) else (some false)) else (some false))))) (ev_bind e (ev_cong tail fun k => ?_))) fun k => rfl
    simp only [if_true]
    rw [w64 (a := hold - 1) (by omega) (by omega), if_neg (by omega), decide_eq_false (by omega)]
theorem FnForces : laws_FnForces.Pure := by
  intro l hl _ hu
  have hl' : l.length ≤ 9223372036854775807 := hl
  by_cases h : l.length ≤ 1048576
  · obtain ⟨a, ea, a0, a1⟩ := at_in l h hu 0 (by omega) (by omega)
    obtain ⟨b, eb, b0, b1⟩ := at_in l h hu 1 (by omega) (by omega)
    obtain ⟨c, ec, c0, c1⟩ := at_in l h hu 2 (by omega) (by omega)
    obtain ⟨f, ef, f01, fi⟩ := fight3 (a - 128) (b - 128) (c - 128) (by omega) (by omega) (by omega)
    obtain ⟨z1, e1, g1⟩ := size_l (a - 128 - (b - 128)) (by omega) (by omega)
    obtain ⟨z2, e2, g2⟩ := size_l (b - 128 - (c - 128)) (by omega) (by omega)
    obtain ⟨z3, e3, g3⟩ := size_l (a - 128 - (c - 128)) (by omega) (by omega)
    have j0 : ∀ x : Bool, ((f == 1) != x) = false → Ev (fun k => laws_FnForces.j0 k l [a - 128, b - 128, c - 128] (a - 128 + (b - 128) + (c - 128)) f x) true := by
      intro x hx
      refine ev_step (law_j1 l (by omega)) fun k => ?_
      have r0 : rd [a - 128, b - 128, c - 128] 0 = a - 128 := rfl
      have r1 : rd [a - 128, b - 128, c - 128] 1 = b - 128 := rfl
      have r2 : rd [a - 128, b - 128, c - 128] 2 = c - 128 := rfl
      have hn : (([a - 128, b - 128, c - 128] : List Int).length : Int) = 3 := rfl
      simp only [laws_FnForces.j0, hn, r0, r1, r2]
      rw [if_pos (by omega), if_pos (by omega), if_pos (by omega), w64 (a := a - 128 + (b - 128)) (by omega) (by omega), w64 (by omega) (by omega), if_pos rfl, hx]
    have fin : Ev (fun k => laws_FnForces.f k l) true := by
      have r0 : rd [a - 128, b - 128, c - 128] 0 = a - 128 := rfl
      have r1 : rd [a - 128, b - 128, c - 128] 1 = b - 128 := rfl
      have r2 : rd [a - 128, b - 128, c - 128] 2 = c - 128 := rfl
      have hn : (([a - 128, b - 128, c - 128] : List Int).length : Int) = 3 := rfl
      have w1 : wrap64 (a - 128) = a - 128 := w64 (by omega) (by omega)
      have w2 : wrap64 (b - 128) = b - 128 := w64 (by omega) (by omega)
      have w3 : wrap64 (c - 128) = c - 128 := w64 (by omega) (by omega)
      have w4 : wrap64 (a - 128 - (b - 128)) = a - 128 - (b - 128) := w64 (by omega) (by omega)
      have w5 : wrap64 (b - 128 - (c - 128)) = b - 128 - (c - 128) := w64 (by omega) (by omega)
      have w6 : wrap64 (a - 128 - (c - 128)) = a - 128 - (c - 128) := w64 (by omega) (by omega)
      have n0 : (0 : Int) < 3 := by omega
      have n1 : (1 : Int) < 3 := by omega
      have n2 : (2 : Int) < 3 := by omega
      by_cases q1 : z1 > 100
      · have hf : f = 1 := fi.2 (.inl (g1.1 q1))
        subst hf
        refine ev_cong (ev_bind ef (G := fun k r => laws_FnForces.j0 k l [a - 128, b - 128, c - 128] r.1 r.2 true) (j0 true rfl)) fun k => ?_
        unfold laws_FnForces.f
        simp only [big_f l h, ea, eb, ec, Option.bind_some, Bool.false_eq_true, if_false, w1, w2, w3, hn, r0, r1, r2, w4, e1, if_pos n0, if_pos n1, if_pos q1]
      · by_cases q2 : z2 > 100
        · have hf : f = 1 := fi.2 (.inr (.inl (g2.1 q2)))
          subst hf
          refine ev_cong (ev_bind ef (G := fun k r => laws_FnForces.j0 k l [a - 128, b - 128, c - 128] r.1 r.2 true) (j0 true rfl)) fun k => ?_
          unfold laws_FnForces.f
          simp only [big_f l h, ea, eb, ec, Option.bind_some, Bool.false_eq_true, if_false, w1, w2, w3, hn, r0, r1, r2, w4, w5, e1, e2, if_pos n0, if_pos n1, if_pos n2, if_neg q1, if_pos q2]
        · refine ev_cong (ev_bind ef (G := fun k r => laws_FnForces.j0 k l [a - 128, b - 128, c - 128] r.1 r.2 (decide (z3 > 100))) (j0 _ ?_)) fun k => ?_
          · by_cases q3 : z3 > 100
            · have hf : f = 1 := fi.2 (.inr (.inr (g3.1 q3)))
              subst hf
              rw [decide_eq_true q3]; rfl
            · have hf : f ≠ 1 := fun g => by
                rcases fi.1 g with u | u | u
                · exact q1 (g1.2 u)
                · exact q2 (g2.2 u)
                · exact q3 (g3.2 u)
              rcases f01 with g | g
              · exact absurd g hf
              · subst g; rw [decide_eq_false q3]; rfl
          · unfold laws_FnForces.f
            simp only [big_f l h, ea, eb, ec, Option.bind_some, Bool.false_eq_true, if_false, w1, w2, w3, hn, r0, r1, r2, w4, w5, w6, e1, e2, e3, if_pos n0, if_pos n1, if_pos n2, if_neg q1, if_neg q2]
    obtain ⟨K, hK⟩ := fin
    exact ⟨K, hK K (Nat.le_refl _)⟩
  · refine ⟨0, ?_⟩
    unfold laws_FnForces.f
    rw [big_t l h]; rfl
end Go.Proofs.Ytmhddkjiaiifmaa.Pure.FnForces
namespace Go.Proofs.Ytmhddkjiaiifmaa.Pure
theorem FnForces : Go.Proofs.Ytmhddkjiaiifmaa.PFnForces.laws_FnForces.Pure := FnForces.FnForces
end Go.Proofs.Ytmhddkjiaiifmaa.Pure
