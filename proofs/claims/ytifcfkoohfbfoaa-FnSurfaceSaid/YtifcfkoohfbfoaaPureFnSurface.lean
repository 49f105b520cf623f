/- For every code the law FnSurface returns true: whatever is asked by a drawn law, a surface stays within its limits and moves by no more than a step; in direct law more asked tells no less. No condition. -/
import Derived.Test.YtifcfkoohfbfoaaPFnSurfacex7
import Derived.Test.YtifcfkoohfbfoaaNum
namespace Go.Proofs.Ytifcfkoohfbfoaa.Pure.FnSurface
open Go.RowKit Go.Proofs.Ytifcfkoohfbfoaa.PFnSurface Go.Proofs.YtifcfkoohfbfoaaW.PrintWords Go.Proofs.YtifcfkoohfbfoaaW.PrintLast Go.Proofs.YtifcfkoohfbfoaaW.PrintMore Go.Proofs.Ytifcfkoohfbfoaa.Num
set_option linter.unusedVariables false
set_option linter.unusedSimpArgs false
theorem in_i (a b c : Int) : impl_in.f a b c = some (decide (b ≤ a) && decide (a ≤ c)) := by
  unfold impl_in.f
  by_cases h : a ≥ b
  · rw [if_pos h, decide_eq_true (show b ≤ a from h)]; rfl
  · rw [if_neg h, decide_eq_false (show ¬ b ≤ a from h)]; rfl
theorem at_in (l : List Int) (hl : l.length ≤ 1048576) (hu : ∀ x ∈ l, (Lit.int .u8 x).wf = true) (i : Int) (h0 : 0 ≤ i) (h1 : i ≤ 1000000) : ∃ v, laws_at.f l i = some v ∧ 0 ≤ v ∧ v ≤ 255 := by
  unfold laws_at.f
  by_cases h : i < (l.length : Int)
  · rw [if_pos h, if_pos h0]
    have hi : i.toNat < l.length := by omega
    have hr : rd l i = l[i.toNat] := by
      show l.getD i.toNat 0 = _
      rw [List.getD_eq_getElem?_getD, List.getElem?_eq_getElem hi]; rfl
    have hb := wfu8 (hu _ (List.getElem_mem hi))
    rw [hr, w64 (by omega) (by omega)]
    exact ⟨_, rfl, hb.1, hb.2⟩
  · rw [if_neg h]
    refine ⟨_, rfl, ?_⟩
    rw [w64 (a := i * 7) (by omega) (by omega), w64 (by omega) (by omega), Int.tmod_eq_emod_of_nonneg (by omega)]
    omega
theorem big_f (l : List Int) (h : l.length ≤ 1048576) : laws_big.f l = some false := by
  unfold laws_big.f
  rw [decide_eq_false (by omega)]
theorem big_t (l : List Int) (h : ¬ l.length ≤ 1048576) : laws_big.f l = some true := by
  unfold laws_big.f
  rw [decide_eq_true (by omega)]
/-- All numbers are in bounds. -/
def All (xs : List Int) (lo hi : Int) : Prop := ∀ j : Nat, j < xs.length → lo ≤ rd xs (j : Int) ∧ rd xs (j : Int) ≤ hi
/-- Each number is above the one ahead. -/
def Rise (xs : List Int) : Prop := ∀ j : Nat, 1 ≤ j → j < xs.length → rd xs ((j - 1 : Nat) : Int) < rd xs (j : Int)
theorem allIn_l0 (xs : List Int) (lo hi : Int) (hn : xs.length ≤ 4611686018427387904) : ∀ (d k i : Nat), xs.length - i = d → i ≤ xs.length → d < k → ∃ b, impl_allIn.l0 k lo hi xs (xs.length : Int) (i : Int) = some b ∧ (b = true ↔ ∀ j : Nat, i ≤ j → j < xs.length → lo ≤ rd xs (j : Int) ∧ rd xs (j : Int) ≤ hi) := by
  intro d
  induction d with
  | zero =>
    intro k i hd hi' hk
    obtain ⟨k, rfl⟩ : ∃ m, k = m + 1 := ⟨k - 1, by omega⟩
    simp only [impl_allIn.l0]
    rw [if_neg (by omega)]
    exact ⟨true, rfl, by simp; intro j h1 h2; omega⟩
  | succ d ih =>
    intro k i hd hi' hk
    obtain ⟨k, rfl⟩ : ∃ m, k = m + 1 := ⟨k - 1, by omega⟩
    simp only [impl_allIn.l0, in_i, Option.bind_some]
    rw [if_pos (by omega), if_pos (by omega), if_pos (by omega), w64 (a := (i : Int) + 1) (by omega) (by omega), show (i : Int) + 1 = ((i + 1 : Nat) : Int) by omega, ← Bool.decide_and]
    by_cases h : lo ≤ rd xs (i : Int) ∧ rd xs (i : Int) ≤ hi
    · rw [decide_eq_true h, if_pos rfl]
      obtain ⟨b, h1, h2⟩ := ih k (i + 1) (by omega) (by omega) (by omega)
      refine ⟨b, h1, h2.trans ⟨fun g j hj hl => ?_, fun g j hj hl => g j (by omega) hl⟩⟩
      by_cases e : j = i
      · subst e; exact h
      · exact g j (by omega) hl
    · rw [decide_eq_false h, if_neg (by decide)]
      exact ⟨false, rfl, ⟨fun g => absurd g Bool.false_ne_true, fun g => absurd (g i (by omega) (by omega)) h⟩⟩
theorem allIn_i (xs : List Int) (lo hi : Int) (k : Nat) (hn : xs.length ≤ 4611686018427387904) (hk : xs.length < k) : ∃ b, impl_allIn.f k xs lo hi = some b ∧ (b = true ↔ All xs lo hi) := by
  obtain ⟨b, h1, h2⟩ := allIn_l0 xs lo hi hn xs.length k 0 (by omega) (by omega) hk
  exact ⟨b, h1, h2.trans ⟨fun g j hl => g j (by omega) hl, fun g j _ hl => g j hl⟩⟩
theorem ascends_l0 (xs : List Int) (lo hi : Int) (hn : xs.length ≤ 4611686018427387904) : ∀ (d k i : Nat), xs.length - i = d → i ≤ xs.length → d < k → ∃ b, impl_ascends.l0 k xs lo hi xs (xs.length : Int) (i : Int) = some b ∧ (b = true ↔ (∀ j : Nat, i ≤ j → j < xs.length → lo ≤ rd xs (j : Int) ∧ rd xs (j : Int) ≤ hi) ∧ ∀ j : Nat, i ≤ j → 1 ≤ j → j < xs.length → rd xs ((j - 1 : Nat) : Int) < rd xs (j : Int)) := by
  intro d
  induction d with
  | zero =>
    intro k i hd hi' hk
    obtain ⟨k, rfl⟩ : ∃ m, k = m + 1 := ⟨k - 1, by omega⟩
    simp only [impl_ascends.l0]
    rw [if_neg (by omega)]
    exact ⟨true, rfl, ⟨fun _ => ⟨fun j h1 h2 => by omega, fun j h1 h2 h3 => by omega⟩, fun _ => rfl⟩⟩
  | succ d ih =>
    intro k i hd hi' hk
    obtain ⟨k, rfl⟩ : ∃ m, k = m + 1 := ⟨k - 1, by omega⟩
    simp only [impl_ascends.l0, in_i, Option.bind_some]
    rw [if_pos (by omega), if_pos (by omega), if_pos (by omega), w64 (a := (i : Int) + 1) (by omega) (by omega), show (i : Int) + 1 = ((i + 1 : Nat) : Int) by omega, ← Bool.decide_and]
    by_cases h : lo ≤ rd xs (i : Int) ∧ rd xs (i : Int) ≤ hi
    · rw [decide_eq_true h, if_pos rfl]
      obtain ⟨b, h1, h2⟩ := ih k (i + 1) (by omega) (by omega) (by omega)
      by_cases hp : (i : Int) > 0
      · rw [if_pos hp, w64 (a := (i : Int) - 1) (by omega) (by omega), if_pos (by omega), if_pos (by omega), show (i : Int) - 1 = ((i - 1 : Nat) : Int) by omega]
        by_cases hr : rd xs ((i - 1 : Nat) : Int) ≥ rd xs (i : Int)
        · rw [if_pos hr]
          exact ⟨false, rfl, ⟨fun g => absurd g Bool.false_ne_true, fun g => by have := g.2 i (by omega) (by omega) (by omega); omega⟩⟩
        · rw [if_neg hr]
          refine ⟨b, h1, h2.trans ⟨fun g => ⟨fun j hj hl => ?_, fun j hj h1j hl => ?_⟩, fun g => ⟨fun j hj hl => g.1 j (by omega) hl, fun j hj h1j hl => g.2 j (by omega) h1j hl⟩⟩⟩
          · by_cases e : j = i
            · subst e; exact h
            · exact g.1 j (by omega) hl
          · by_cases e : j = i
            · subst e; omega
            · exact g.2 j (by omega) h1j hl
      · rw [if_neg hp]
        refine ⟨b, h1, h2.trans ⟨fun g => ⟨fun j hj hl => ?_, fun j hj h1j hl => ?_⟩, fun g => ⟨fun j hj hl => g.1 j (by omega) hl, fun j hj h1j hl => g.2 j (by omega) h1j hl⟩⟩⟩
        · by_cases e : j = i
          · subst e; exact h
          · exact g.1 j (by omega) hl
        · exact g.2 j (by omega) h1j hl
    · rw [decide_eq_false h, if_neg (by decide)]
      exact ⟨false, rfl, ⟨fun g => absurd g Bool.false_ne_true, fun g => absurd (g.1 i (by omega) (by omega)) h⟩⟩
theorem ascends_i (xs : List Int) (lo hi : Int) (k : Nat) (hn : xs.length ≤ 4611686018427387904) (hk : xs.length < k) : ∃ b, impl_ascends.f k xs lo hi = some b ∧ (b = true ↔ Rise xs ∧ All xs lo hi) := by
  obtain ⟨b, h1, h2⟩ := ascends_l0 xs lo hi hn xs.length k 0 (by omega) (by omega) hk
  exact ⟨b, h1, h2.trans ⟨fun g => ⟨fun j h1 hl => g.2 j (by omega) h1 hl, fun j hl => g.1 j (by omega) hl⟩, fun g => ⟨fun j _ hl => g.2 j hl, fun j _ h1 hl => g.1 j h1 hl⟩⟩⟩
/-- From some count of rounds on it answers r. -/
def Ev {α : Type} (F : Nat → Option α) (r : α) : Prop := ∃ K, ∀ k, K ≤ k → F k = some r
theorem ev_step {α : Type} {F G : Nat → Option α} {r : α} (h : Ev G r) (e : ∀ k, F (k + 1) = G k) : Ev F r := by
  obtain ⟨K, h⟩ := h
  refine ⟨K + 1, fun k hk => ?_⟩
  obtain ⟨m, rfl⟩ : ∃ m, k = m + 1 := ⟨k - 1, by omega⟩
  rw [e m]; exact h m (by omega)
theorem ev_now {α : Type} {F : Nat → Option α} {r : α} (e : ∀ k, F (k + 1) = some r) : Ev F r :=
  ⟨1, fun k hk => by obtain ⟨m, rfl⟩ : ∃ m, k = m + 1 := ⟨k - 1, by omega⟩; exact e m⟩
theorem ev_const {α : Type} {o : Option α} {r : α} (e : o = some r) : Ev (fun _ => o) r := ⟨0, fun _ _ => e⟩
theorem ev_bind {α β : Type} {F : Nat → Option α} {G : Nat → α → Option β} {a : α} {r : β} (h : Ev F a) (g : Ev (fun k => G k a) r) : Ev (fun k => (F k).bind (G k)) r := by
  obtain ⟨K, h⟩ := h
  obtain ⟨L, g⟩ := g
  exact ⟨max K L, fun k hk => by show (F k).bind (G k) = _; rw [h k (by omega), Option.bind_some]; exact g k (by omega)⟩
theorem ev_cong {α : Type} {F G : Nat → Option α} {r : α} (h : Ev G r) (e : ∀ k, F k = G k) : Ev F r := by
  obtain ⟨K, h⟩ := h
  exact ⟨K, fun k hk => (e k).trans (h k hk)⟩
theorem and255 (n : Int) : 0 ≤ Go.bits .and .i64 n 255 ∧ Go.bits .and .i64 n 255 ≤ 255 := by
  have e : Go.bits .and .i64 n 255 = n % 256 := by
    have h : (((BitVec.ofInt 64 n) &&& (BitVec.ofInt 64 255)).toNat : Int) = n % 256 := by
      rw [BitVec.toNat_and]
      have h1 : (BitVec.ofInt 64 255).toNat = 2 ^ 8 - 1 := by decide
      rw [h1, Nat.and_two_pow_sub_one_eq_mod, BitVec.toNat_ofInt]
      omega
    show IntKind.i64.wrap (((BitVec.ofInt 64 n) &&& (BitVec.ofInt 64 255)).toNat : Int) = _
    rw [h, IntKind.wrap_i64]
    omega
  rw [e]; omega
/-- A cursor over l: its place is within. -/
def Cur (l : List Int) (i : Int) : Prop := 0 ≤ i ∧ i ≤ (l.length : Int)
theorem new_s (l : List Int) (hl : l.length ≤ 4611686018427387904) : ∃ h, Ev (fun k => spec_l1New.f k l) (l, 0, h) := by
  have go : ∀ (d i : Nat) (h : Int), l.length - i = d → i ≤ l.length → ∃ h', Ev (fun k => spec_l1New.l0 k l h (i : Int)) (l, 0, h') := by
    intro d
    induction d with
    | zero =>
      intro i h hd hi
      refine ⟨h, ev_now fun k => ?_⟩
      simp only [spec_l1New.l0]
      rw [if_neg (by omega)]
    | succ d ih =>
      intro i h hd hi
      by_cases c : (i : Int) < 4000
      · obtain ⟨h', e⟩ := ih (i + 1) (Go.bits .and .i64 (wrap64 ((wrap64 ((wrap64 (h * 131)) + (wrap64 (rd l (i : Int))))) + 7)) 1073741823) (by omega) (by omega)
        refine ⟨h', ev_step e fun k => ?_⟩
        simp only [spec_l1New.l0]
        rw [if_pos (by omega), if_pos c, if_pos (by omega), w64 (a := (i : Int) + 1) (by omega) (by omega)]; rfl
      · refine ⟨h, ev_now fun k => ?_⟩
        simp only [spec_l1New.l0]
        rw [if_pos (by omega), if_neg c]
  exact go l.length 0 _ (by omega) (by omega)
theorem byte_s (l : List Int) (i h : Int) (hl : l.length ≤ 4611686018427387904) (hc : Cur l i) : ∃ v i' h', spec_l1Byte.f l i h = some (v, i', h') ∧ 0 ≤ v ∧ v ≤ 255 ∧ Cur l i' := by
  obtain ⟨h0, h1⟩ := hc
  unfold spec_l1Byte.f
  by_cases c : i < (l.length : Int)
  · rw [if_pos c, if_pos h0, w64 (a := i + 1) (by omega) (by omega)]
    exact ⟨_, _, _, rfl, (and255 _).1, (and255 _).2, by omega, by omega⟩
  · rw [if_neg c]
    exact ⟨_, _, _, rfl, (and255 _).1, (and255 _).2, h0, h1⟩
/-- What is drawn below n lies below n, wherever the cursor stands. -/
theorem below_s (l : List Int) (i h n : Int) (hl : l.length ≤ 4611686018427387904) (hc : Cur l i) (hn : n ≤ 4294967296) : ∃ v i' h', spec_l1Below.f l i h n = some (v, i', h') ∧ 0 ≤ v ∧ (0 < n → v < n) ∧ (n ≤ 0 → v = 0) ∧ Cur l i' := by
  unfold spec_l1Below.f
  by_cases c : n ≤ 0
  · rw [if_pos c]; exact ⟨_, _, _, rfl, by omega, fun g => by omega, fun _ => rfl, hc⟩
  · rw [if_neg c]
    by_cases c2 : n ≤ 256
    · rw [if_pos c2]
      obtain ⟨v, i', h', e, v0, v1, hc'⟩ := byte_s l i h hl hc
      rw [e, Option.bind_some, if_neg (by omega)]
      have m := Int.tmod_eq_emod_of_nonneg (b := n) v0
      have m0 := Int.emod_nonneg v (show n ≠ 0 by omega)
      have m1 := Int.emod_lt_of_pos v (show 0 < n by omega)
      exact ⟨_, _, _, rfl, by simp only; omega, fun _ => by simp only; omega, fun g => by omega, hc'⟩
    · rw [if_neg c2]
      obtain ⟨a, i1, h1, e1, a0, a1, c1⟩ := byte_s l i h hl hc
      rw [e1, Option.bind_some]
      obtain ⟨b, i2, h2, e2, b0, b1, c2⟩ := byte_s l i1 h1 hl c1
      simp only [e2, Option.bind_some]
      obtain ⟨p, i3, h3, e3, p0, p1, c3⟩ := byte_s l i2 h2 hl c2
      simp only [e3, Option.bind_some]
      obtain ⟨q, i4, h4, e4, q0, q1, c4⟩ := byte_s l i3 h3 hl c3
      simp only [e4, Option.bind_some]
      have e : wrap64 (wrap64 (wrap64 (wrap64 (a * 16777216) + wrap64 (b * 65536)) + wrap64 (p * 256)) + q) = a * 16777216 + b * 65536 + p * 256 + q := by
        rw [w64 (a := a * 16777216) (by omega) (by omega), w64 (a := b * 65536) (by omega) (by omega), w64 (a := p * 256) (by omega) (by omega), w64 (a := a * 16777216 + b * 65536) (by omega) (by omega), w64 (a := a * 16777216 + b * 65536 + p * 256) (by omega) (by omega), w64 (by omega) (by omega)]
      rw [e, if_neg (by omega)]
      have v0 : 0 ≤ a * 16777216 + b * 65536 + p * 256 + q := by omega
      generalize a * 16777216 + b * 65536 + p * 256 + q = v at v0
      have m := Int.tmod_eq_emod_of_nonneg (b := n) v0
      have m0 := Int.emod_nonneg v (show n ≠ 0 by omega)
      have m1 := Int.emod_lt_of_pos v (show 0 < n by omega)
      exact ⟨_, _, _, rfl, by rw [m]; exact m0, fun _ => by rw [m]; exact m1, fun g => by omega, c4⟩
theorem floor_i {a b : Int} (hb : 1 ≤ b) (h1 : -4611686018427387904 ≤ a) (h2 : a ≤ 4611686018427387904) : impl_floorOver.f a b = some (a / b) := by
  have hf := floor_tdiv (a := a) hb
  have ht := tdiv_in (M := 4611686018427387904) hb h1 h2
  have w : wrap64 (a.tdiv b) = a.tdiv b := w64 (by omega) (by omega)
  have w' : wrap64 (a.tdiv b - 1) = a.tdiv b - 1 := w64 (by omega) (by omega)
  have hbn : decide (b < 0) = false := decide_eq_false (by omega)
  unfold impl_floorOver.f
  rw [if_neg (show ¬ b = 0 by omega), w, w', hbn]
  by_cases hm : a.tmod b = 0
  · rw [if_pos hm, hf.1 hm]
  · rw [if_neg hm]
    by_cases ha : a < 0
    · rw [decide_eq_true ha, if_pos (by decide), hf.2.2.1 hm ha]
    · rw [decide_eq_false ha, if_neg (by decide), hf.2.1 hm (by omega)]
def LimGood (lo hi step : Int) : Prop := -10000 ≤ lo ∧ lo ≤ hi ∧ hi ≤ 10000 ∧ 1 ≤ step ∧ step ≤ 10000
theorem lim_i (lo hi step : Int) : ∃ b, impl_limitsOk.f lo hi step = some b ∧ (b = true ↔ LimGood lo hi step) := by
  unfold impl_limitsOk.f LimGood
  simp only [in_i, Option.bind_some, ites]
  by_cases h : lo ≤ hi
  · rw [if_pos h]
    exact ⟨_, rfl, by simp; omega⟩
  · rw [if_neg h]
    exact ⟨_, rfl, by simp; omega⟩
/-- What is told ahead of the limits. -/
def told (mode load want now : Int) : Int := if mode = 0 then (if load > 250 then mn want now else if load < -100 then mx want now else want) else want
/-- What is told in the end, and whether it is what was wanted. -/
def fin (want t lo hi step now : Int) : Int × Int :=
  (mx (mn (mx (mn t hi) lo) (now + step)) (now - step), if mx (mn (mx (mn t hi) lo) (now + step)) (now - step) = want then 0 else 2)
theorem fin_i (k : Nat) (now want t lo hi step : Int) (h1 : -10000 ≤ lo) (h2 : lo ≤ hi) (h3 : hi ≤ 10000) (h4 : 1 ≤ step) (h5 : step ≤ 10000) (h6 : lo ≤ now) (h7 : now ≤ hi) : impl_Law.j5 (k + 1) now want t lo hi step = some (fin want t lo hi step now) := by
  simp only [impl_Law.j5, impl_held.f, Option.bind_some]
  rw [w64 (a := now - step) (by omega) (by omega), w64 (a := now + step) (by omega) (by omega)]
  unfold fin
  split <;> rfl
theorem told_i (k : Nat) (mode now want a b c load lo hi step : Int) : impl_Law.j1 (k + 5) mode now want a b c load lo hi step = impl_Law.j5 (k + 1) now want (told mode load want now) lo hi step := by
  unfold told
  simp only [impl_Law.j1]
  by_cases hm : mode = 0
  · rw [if_pos hm, if_pos hm]
    by_cases hl : load > 250
    · rw [if_pos hl, decide_eq_true hl]
      simp only [impl_Law.j2, impl_Law.j3, if_true]
      rw [if_pos hm, decide_eq_false (show ¬ load < -100 by omega)]
      simp only [impl_Law.j4, Bool.false_eq_true, if_false]
    · rw [if_neg hl, decide_eq_false hl]
      simp only [impl_Law.j2, impl_Law.j3, Bool.false_eq_true, if_false]
      rw [if_pos hm]
      by_cases hl2 : load < -100
      · rw [if_pos hl2, decide_eq_true hl2]
        simp only [impl_Law.j4, if_true]
      · rw [if_neg hl2, decide_eq_false hl2]
        simp only [impl_Law.j4, Bool.false_eq_true, if_false]
  · rw [if_neg hm, if_neg hm]
    simp only [impl_Law.j2, impl_Law.j3, Bool.false_eq_true, if_false]
    rw [if_neg hm]
    simp only [impl_Law.j4, Bool.false_eq_true, if_false]
theorem rd_app (l : List Int) (v : Int) (i : Nat) (h : i < l.length) : rd (l ++ [v]) (i : Int) = rd l (i : Int) := by
  show (l ++ [v]).getD (i : Int).toNat 0 = l.getD (i : Int).toNat 0
  rw [Int.toNat_natCast, List.getD_eq_getElem?_getD, List.getD_eq_getElem?_getD, List.getElem?_append_left h]
theorem rd_end (l : List Int) (v : Int) : rd (l ++ [v]) (l.length : Int) = v := by
  show (l ++ [v]).getD (l.length : Int).toNat 0 = _
  rw [Int.toNat_natCast, List.getD_eq_getElem?_getD, List.getElem?_append_right (Nat.le_refl _), Nat.sub_self]; rfl
/-- A gain table that is right. -/
def Good (l m : List Int) : Prop := (2 ≤ l.length ∧ l.length ≤ 8) ∧ m.length = l.length ∧ Rise l ∧ All l 0 1000 ∧ All m 0 1000
theorem gainOk_i (l m : List Int) (hg : Good l m) : Ev (fun k => impl_GainOk.f k l m) true := by
  obtain ⟨h1, h2, h3, h4, h5⟩ := hg
  refine ⟨9, fun k hk => ?_⟩
  obtain ⟨b4, e4, g4⟩ := ascends_i l 0 1000 k (by omega) (by omega)
  obtain ⟨b5, e5, g5⟩ := allIn_i m 0 1000 k (by omega) (by omega)
  obtain rfl := g4.2 ⟨h3, h4⟩
  obtain rfl := g5.2 h5
  show impl_GainOk.f k l m = some true
  unfold impl_GainOk.f
  rw [in_i, decide_eq_true (by omega), decide_eq_true (by omega)]
  simp only [Option.bind_some, Bool.and_self, if_true, e4, e5]
  rw [if_pos (by omega)]
theorem piece_i (l : List Int) (x : Int) (hn : l.length ≤ 8) : ∀ (d i : Nat), l.length - 1 - i = d → i + 1 < l.length → ∃ r : Nat, r + 1 < l.length ∧ i ≤ r ∧ (x < rd l ((i + 1 : Nat) : Int) → r = i) ∧ Ev (fun k => impl_piece.l0 k l x (i : Int)) (r : Int) := by
  intro d
  induction d with
  | zero => intro i hd hi; omega
  | succ d ih =>
    intro i hd hi
    have w1 : wrap64 ((i : Int) + 1) = ((i + 1 : Nat) : Int) := by rw [w64 (by omega) (by omega)]; omega
    have w2 : wrap64 ((i : Int) + 2) = (i : Int) + 2 := w64 (by omega) (by omega)
    by_cases c : (i : Int) + 2 < (l.length : Int)
    · by_cases g : rd l ((i + 1 : Nat) : Int) ≤ x
      · obtain ⟨r, r1, r2, r3, r4⟩ := ih (i + 1) (by omega) (by omega)
        refine ⟨r, r1, by omega, fun h => by omega, ev_step r4 fun k => ?_⟩
        simp only [impl_piece.l0, w1, w2]
        rw [if_pos c, if_pos (by omega), if_pos (by omega), if_pos g]
      · refine ⟨i, hi, by omega, fun _ => rfl, ev_now fun k => ?_⟩
        simp only [impl_piece.l0, w1, w2]
        rw [if_pos c, if_pos (by omega), if_pos (by omega), if_neg g]
    · refine ⟨i, hi, by omega, fun _ => rfl, ev_now fun k => ?_⟩
      simp only [impl_piece.l0, w1, w2]
      rw [if_neg c]
theorem rise_le (l : List Int) (h : Rise l) : ∀ j : Nat, j < l.length → rd l 0 ≤ rd l (j : Int) := by
  intro j
  induction j with
  | zero => intro _; exact Int.le_refl _
  | succ j ih =>
    intro hj
    have h1 := ih (by omega)
    have h2 := h (j + 1) (by omega) hj
    rw [show j + 1 - 1 = j by omega] at h2
    omega
theorem gain_arith {a b c d x : Int} (h1 : 0 ≤ a) (h2 : a < b) (h3 : b ≤ 1000) (h4 : 0 ≤ c) (h5 : c ≤ 1000) (h6 : 0 ≤ d) (h7 : d ≤ 1000) (h8 : 0 ≤ x) (h9 : x ≤ 1000) : wrap64 (b - a) = b - a ∧ wrap64 (d - c) = d - c ∧ wrap64 (x - a) = x - a ∧ wrap64 (c * (b - a)) = c * (b - a) ∧ wrap64 ((d - c) * (x - a)) = (d - c) * (x - a) ∧ wrap64 (c * (b - a) + (d - c) * (x - a)) = c * (b - a) + (d - c) * (x - a) ∧ 1 ≤ b - a ∧ -4611686018427387904 ≤ c * (b - a) + (d - c) * (x - a) ∧ c * (b - a) + (d - c) * (x - a) ≤ 4611686018427387904 := by
  have p1 := abs_mul (x := c) (y := b - a) (A := 1000) (B := 1000) (by omega) (by omega) (by omega) (by omega)
  have p2 := abs_mul (x := d - c) (y := x - a) (A := 1000) (B := 1000) (by omega) (by omega) (by omega) (by omega)
  refine ⟨w64 (by omega) (by omega), w64 (by omega) (by omega), w64 (by omega) (by omega), w64 (by omega) (by omega), w64 (by omega) (by omega), w64 (by omega) (by omega), by omega, by omega, by omega⟩
theorem gainAt_i (l m : List Int) (s : Int) (hg : Good l m) : ∃ v, Ev (fun k => impl_GainAt.f k l m s) v ∧ (s = rd l 0 → v = rd m 0) := by
  have hok := gainOk_i l m hg
  obtain ⟨g1, g3, g4, g5, g6⟩ := hg
  have hlen1 : wrap64 ((l.length : Int) - 1) = ((l.length - 1 : Nat) : Int) := by rw [w64 (by omega) (by omega)]; omega
  have hle : rd l 0 ≤ rd l ((l.length - 1 : Nat) : Int) := rise_le l g4 _ (by omega)
  have a0 : 0 ≤ rd l 0 ∧ rd l 0 ≤ 1000 := g5 0 (by omega)
  have aN := g5 (l.length - 1) (by omega)
  have hx := held_in (x := s) hle
  have hs0 : s = rd l 0 → mx (mn s (rd l ((l.length - 1 : Nat) : Int))) (rd l 0) = rd l 0 := by
    intro h; rw [h]; unfold mx mn
    repeat' split
    all_goals omega
  have hh : impl_held.f s (rd l 0) (rd l ((l.length - 1 : Nat) : Int)) = some (mx (mn s (rd l ((l.length - 1 : Nat) : Int))) (rd l 0)) := rfl
  generalize hX : mx (mn s (rd l ((l.length - 1 : Nat) : Int))) (rd l 0) = x at *
  obtain ⟨r, r1, _, r3, r4⟩ := piece_i l x (by omega) (l.length - 1) 0 (by omega) (by omega)
  have hr1 : wrap64 ((r : Int) + 1) = ((r + 1 : Nat) : Int) := by rw [w64 (by omega) (by omega)]; omega
  have i0 : (0 : Int) < (l.length : Int) := by omega
  have i1 : (0 : Int) ≤ ((l.length - 1 : Nat) : Int) := by omega
  have i2 : ((l.length - 1 : Nat) : Int) < (l.length : Int) := by omega
  have i3 : (0 : Int) ≤ (r : Int) := by omega
  have i4 : (r : Int) < (l.length : Int) := by omega
  have i5 : (0 : Int) ≤ ((r + 1 : Nat) : Int) := by omega
  have i6 : ((r + 1 : Nat) : Int) < (l.length : Int) := by omega
  have i7 : (r : Int) < (m.length : Int) := by omega
  have i8 : ((r + 1 : Nat) : Int) < (m.length : Int) := by omega
  have ar := g5 r (by omega)
  have ar1 := g5 (r + 1) (by omega)
  have br := g6 r (by omega)
  have br1 := g6 (r + 1) (by omega)
  have asc := g4 (r + 1) (by omega) (by omega)
  rw [show r + 1 - 1 = r by omega] at asc
  obtain ⟨v1, v2, v3, v4, v5, v6, v7, v8, v9⟩ := gain_arith ar.1 asc ar1.2 br.1 br.2 br1.1 br1.2 (Int.le_trans a0.1 hx.1) (Int.le_trans hx.2 aN.2)
  refine ⟨(rd m (r : Int) * (rd l ((r + 1 : Nat) : Int) - rd l (r : Int)) + (rd m ((r + 1 : Nat) : Int) - rd m (r : Int)) * (x - rd l (r : Int))) / (rd l ((r + 1 : Nat) : Int) - rd l (r : Int)), ?_, ?_⟩
  · unfold impl_GainAt.f
    refine ev_bind (F := fun k => impl_GainOk.f k l m) hok ?_
    simp only [if_true, if_pos i0, hlen1, if_pos i1, if_pos i2, hh, Option.bind_some]
    refine ev_bind (F := fun k => impl_piece.f k l x) r4 ?_
    simp only [hr1, if_pos i3, if_pos i4, if_pos i5, if_pos i6, if_pos i7, if_pos i8, impl_between.f, v1, v2, v3, v4, v5, v6, Option.bind_some, floor_i v7 v8 v9]
    exact ev_const rfl
  · intro h
    have hxe := hs0 h
    have h01 := g4 1 (by omega) (by omega)
    have h01 : rd l 0 < rd l ((0 + 1 : Nat) : Int) := h01
    obtain rfl := r3 (by omega)
    have e0 : x - rd l ((0 : Nat) : Int) = 0 := by
      show x - rd l 0 = 0
      omega
    rw [e0, Int.mul_zero, Int.add_zero]
    exact Int.mul_ediv_cancel _ (by omega)
theorem fin_facts (lo hi step now : Int) (h2 : lo ≤ hi) (h4 : 1 ≤ step) (h5 : step ≤ 10000) (h6 : lo ≤ now) (h7 : now ≤ hi) (want t : Int) : (lo ≤ (fin want t lo hi step now).1 ∧ (fin want t lo hi step now).1 ≤ hi) ∧ (-step ≤ (fin want t lo hi step now).1 - now ∧ (fin want t lo hi step now).1 - now ≤ step) ∧ ((fin want t lo hi step now).2 ≠ 1) ∧ (t ≤ now → (fin want t lo hi step now).1 ≤ now) ∧ (now ≤ t → now ≤ (fin want t lo hi step now).1) ∧ ((fin want t lo hi step now).2 = 0 → (fin want t lo hi step now).1 = want) := by
  unfold fin
  have key : ∀ x : Int, x = mx (mn (mx (mn t hi) lo) (now + step)) (now - step) → lo ≤ x ∧ x ≤ hi ∧ -step ≤ x - now ∧ x - now ≤ step ∧ (t ≤ now → x ≤ now) ∧ (now ≤ t → now ≤ x) := by
    intro x hx
    unfold mx mn at hx
    repeat' split at hx
    all_goals omega
  obtain ⟨k1, k2, k3, k4, k5, k6⟩ := key _ rfl
  refine ⟨⟨k1, k2⟩, ⟨k3, k4⟩, ?_, k5, k6, ?_⟩
  · simp only
    split <;> omega
  · simp only
    split
    · rename_i e; exact fun _ => e
    · intro e; omega
theorem fin_mono (lo hi step now : Int) (h2 : lo ≤ hi) (h4 : 1 ≤ step) (h5 : step ≤ 10000) (h6 : lo ≤ now) (h7 : now ≤ hi) (w t : Int) (ht : t ≤ w) (a b : Int) : (fin a t lo hi step now).1 ≤ (fin b w lo hi step now).1 := by
  unfold fin
  simp only
  unfold mx mn
  repeat' split
  all_goals omega
section
variable (l m : List Int) (hg : Good l m) (rate speed load lo hi step now : Int) (hr : -10000 ≤ rate ∧ rate ≤ 10000) (hld : -1000 ≤ load ∧ load ≤ 1000) (h1 : -10000 ≤ lo) (h2 : lo ≤ hi) (h3 : hi ≤ 10000) (h4 : 1 ≤ step) (h5 : step ≤ 10000) (h6 : lo ≤ now) (h7 : now ≤ hi)
include hg hr hld h1 h2 h3 h4 h5 h6 h7
theorem law_i (mode ask : Int) (hm : 0 ≤ mode ∧ mode ≤ 2) (ha : -1000 ≤ ask ∧ ask ≤ 1000) : ∃ want, (mode = 2 → want = 10 * ask) ∧ Ev (fun k => impl_Law.f k mode l m ask rate speed load lo hi step now) (fin want (told mode load want now) lo hi step now) := by
  have hok := gainOk_i l m hg
  obtain ⟨v, hv, _⟩ := gainAt_i l m speed hg
  obtain ⟨b, e1, e2⟩ := lim_i lo hi step
  obtain rfl := e2.2 ⟨h1, h2, h3, h4, h5⟩
  have est : impl_stickOk.f ask rate speed load = some true := by
    unfold impl_stickOk.f
    simp only [in_i, Option.bind_some, decide_eq_true ha.1, decide_eq_true ha.2, decide_eq_true hr.1, decide_eq_true hr.2, decide_eq_true hld.1, decide_eq_true hld.2, Bool.and_self, if_true]
  have j1 : ∀ want, Ev (fun k => impl_Law.j1 k mode now want ask rate speed load lo hi step) (fin want (told mode load want now) lo hi step now) := fun want => ⟨5, fun k hk => by
    obtain ⟨k, rfl⟩ : ∃ q, k = q + 5 := ⟨k - 5, by omega⟩
    show impl_Law.j1 (k + 5) mode now want ask rate speed load lo hi step = _
    rw [told_i, fin_i _ _ _ _ _ _ _ h1 h2 h3 h4 h5 h6 h7]⟩
  have main : ∀ r, Ev (fun k => impl_Law.j0 k mode now false l m ask rate speed load lo hi step) r → Ev (fun k => impl_Law.f k mode l m ask rate speed load lo hi step now) r := by
    intro r hr'
    unfold impl_Law.f
    simp only [in_i, Option.bind_some, decide_eq_true hm.1, decide_eq_true hm.2, decide_eq_true h6, decide_eq_true h7, Bool.and_self, if_true]
    refine ev_bind (F := fun k => impl_GainOk.f k l m) hok ?_
    simp only [if_true, est, e1, Option.bind_some, Bool.not_true]
    exact hr'
  by_cases h : mode = 2
  · refine ⟨10 * ask, fun _ => rfl, main _ (ev_step (j1 (10 * ask)) fun k => ?_)⟩
    simp only [impl_Law.j0, Bool.false_eq_true, if_false, if_pos h]
    rw [w64 (a := 10 * ask) (by omega) (by omega)]
  · refine ⟨_, fun e => absurd e h, main _ (ev_step (G := fun k => (impl_GainAt.f k l m speed).bind fun t206 => (impl_Law.j1 k mode now (wrap64 (Int.tdiv (wrap64 (t206 * (wrap64 (ask - rate)))) 100)) ask rate speed load lo hi step)) (ev_bind (F := fun k => impl_GainAt.f k l m speed) (G := fun k t206 => impl_Law.j1 k mode now (wrap64 (Int.tdiv (wrap64 (t206 * (wrap64 (ask - rate)))) 100)) ask rate speed load lo hi step) hv (j1 _)) fun k => ?_)⟩
    simp only [impl_Law.j0, Bool.false_eq_true, if_false, if_neg h]
theorem round (mode ask : Int) (hm : 0 ≤ mode ∧ mode ≤ 2) (ha : -1000 ≤ ask ∧ ask ≤ 999) (he : Ev (fun k => laws_FnSurface.l0 k now (mode + 1) l m lo hi step (if mode = 2 then ask + 1 else ask) rate speed load) true) : Ev (fun k => laws_FnSurface.l0 k now mode l m lo hi step ask rate speed load) true := by
  obtain ⟨want, hw, hl⟩ := law_i l m hg rate speed load lo hi step now hr hld h1 h2 h3 h4 h5 h6 h7 mode ask hm (by omega)
  obtain ⟨⟨f1, f2⟩, ⟨f3, f4⟩, f5, f6, f7, f8⟩ := fin_facts lo hi step now h2 h4 h5 h6 h7 want (told mode load want now)
  have hmono := fun w => fin_mono lo hi step now h2 h4 h5 h6 h7 w (told mode load want now)
  generalize hF : fin want (told mode load want now) lo hi step now = F at *
  obtain ⟨x, c⟩ := F
  simp only at f1 f2 f3 f4 f5 f6 f7 f8 hmono
  have hsz : ∃ z, laws_size.f (wrap64 (x - now)) = some z ∧ z ≤ step := by
    unfold laws_size.f
    rw [w64 (a := x - now) (by omega) (by omega)]
    by_cases q : x - now < 0
    · rw [if_pos q, w64 (by omega) (by omega)]; exact ⟨_, rfl, by omega⟩
    · rw [if_neg q]; exact ⟨_, rfl, by omega⟩
  obtain ⟨z, z1, z2⟩ := hsz
  have j2 : Ev (fun k => laws_FnSurface.j2 k now mode x c false l m lo hi step ask rate speed load) true := by
    have w1 : wrap64 (mode + 1) = mode + 1 := w64 (by omega) (by omega)
    by_cases h : mode = 2
    · obtain ⟨want2, hw2, hl2⟩ := law_i l m hg rate speed load lo hi step now hr hld h1 h2 h3 h4 h5 h6 h7 mode (ask + 1) hm (by omega)
      have w2 : wrap64 (ask + 1) = ask + 1 := w64 (by omega) (by omega)
      have w3 : wrap64 (ask + 1 - 1) = ask := by rw [w64 (by omega) (by omega)]; omega
      have w4 : wrap64 (10 * ask) = 10 * ask := w64 (by omega) (by omega)
      have hx : x ≤ (fin want2 (told mode load want2 now) lo hi step now).1 := by
        have e1 := hw h
        have e2 := hw2 h
        have := fin_mono lo hi step now h2 h4 h5 h6 h7 (told mode load want2 now) (told mode load want now) (by
          unfold told
          rw [if_neg (by omega), if_neg (by omega)]; omega) want want2
        rw [hF] at this
        exact this
      rw [if_pos h] at he
      refine ev_step (ev_bind (F := fun k => impl_Law.f k mode l m (ask + 1) rate speed load lo hi step now) (G := fun k bt230 => (if bt230.1 < x then (some false) else (if c = 0 then (if x = (wrap64 (10 * (wrap64 ((wrap64 (ask + 1)) - 1)))) then (laws_FnSurface.l0 k now (wrap64 (mode + 1)) l m lo hi step (wrap64 (ask + 1)) rate speed load) else (some false)) else (laws_FnSurface.l0 k now (wrap64 (mode + 1)) l m lo hi step (wrap64 (ask + 1)) rate speed load)))) hl2 (ev_cong he fun k => ?_)) fun k => ?_
      · rw [if_neg (by omega), w1, w2, w3, w4]
        by_cases hc : c = 0
        · rw [if_pos hc, if_pos (by rw [f8 hc, hw h])]
        · rw [if_neg hc]
      · simp only [laws_FnSurface.j2, Bool.false_eq_true, if_false, if_pos h, w2]
    · rw [if_neg h] at he
      refine ev_step he fun k => ?_
      simp only [laws_FnSurface.j2, Bool.false_eq_true, if_false, if_neg h, w1]
  have j1 : Ev (fun k => laws_FnSurface.j1 k now mode x c false l m lo hi step ask rate speed load) true := by
    refine ev_step j2 fun k => ?_
    simp only [laws_FnSurface.j1, Bool.false_eq_true, if_false]
    by_cases h : mode = 0
    · have ht : told mode load want now = (if load > 250 then mn want now else if load < -100 then mx want now else want) := by unfold told; rw [if_pos h]
      rw [if_pos h]
      by_cases g : load > 250
      · have : x ≤ now := f6 (by rw [ht, if_pos g]; unfold mn; split <;> omega)
        rw [if_pos g, if_neg (by omega), if_neg (by omega)]
      · rw [if_neg g]
        by_cases g2 : load < -100
        · have : now ≤ x := f7 (by rw [ht, if_neg g, if_pos g2]; unfold mx; split <;> omega)
          rw [if_pos g2, decide_eq_false (by omega)]
        · rw [if_neg g2]
    · rw [if_neg h]
  refine ev_step (ev_bind (F := fun k => impl_Law.f k mode l m ask rate speed load lo hi step now) (G := fun k bt227 => (if bt227.2 = 1 then (laws_FnSurface.j1 k now mode bt227.1 bt227.2 true l m lo hi step ask rate speed load) else (if bt227.1 < lo then (laws_FnSurface.j1 k now mode bt227.1 bt227.2 true l m lo hi step ask rate speed load) else (if bt227.1 > hi then (laws_FnSurface.j1 k now mode bt227.1 bt227.2 true l m lo hi step ask rate speed load) else ((laws_size.f (wrap64 (bt227.1 - now))).bind fun t229 => (laws_FnSurface.j1 k now mode bt227.1 bt227.2 (decide (t229 > step)) l m lo hi step ask rate speed load)))))) hl (ev_cong j1 fun k => ?_)) fun k => ?_
  · simp only [z1, Option.bind_some]
    rw [if_neg f5, if_neg (by omega), if_neg (by omega), decide_eq_false (by omega)]
  · simp only [laws_FnSurface.l0]
    rw [if_pos (by omega)]
omit hr hld h1 h2 h3 h4 h5 h6 h7 in
theorem lastly (ask : Int) : Ev (fun k => laws_FnSurface.l0 k now 3 l m lo hi step ask rate speed load) true := by
  obtain ⟨v, v1, v2⟩ := gainAt_i l m (rd l 0) hg
  have hok := gainOk_i l m hg
  obtain ⟨g1, g3, g4, g5, g6⟩ := hg
  refine ev_step (G := fun k => (impl_GainAt.f k l m (rd l 0)).bind fun t233 => ((impl_ModeOf.f k 1 true 0).bind fun t234 => ((impl_GainOk.f k l m).bind fun t235 => (if t235 = true then (if 0 < (m.length : Int) then (if t233 = (rd m 0) then (if t234 = 2 then ((impl_ModeOf.f k 2 true 0).bind fun t237 => (if t237 = 0 then ((impl_ModeOf.f k 3 false 0).bind fun t238 => (some (t238 == 1))) else (some false))) else (some false)) else (some false)) else (none)) else (some false))))) (ev_bind (F := fun k => impl_GainAt.f k l m (rd l 0)) v1 ?_) fun k => by
    simp only [laws_FnSurface.l0]
    rw [if_neg (by omega), if_pos (by omega)]
  have m1 : Ev (fun k => impl_ModeOf.f k 1 true 0) 2 := ev_now fun k => by
    unfold impl_ModeOf.f; rw [if_pos (by omega)]; simp only [impl_ModeOf.j0, if_true]
  have m2 : Ev (fun k => impl_ModeOf.f k 2 true 0) 0 := ev_now fun k => by
    unfold impl_ModeOf.f; rw [if_neg (by omega), decide_eq_false (by omega)]; simp only [impl_ModeOf.j0, if_true, Bool.false_eq_true, if_false]; rw [if_neg (by omega)]
  have m3 : Ev (fun k => impl_ModeOf.f k 3 false 0) 1 := ev_now fun k => by
    unfold impl_ModeOf.f; rw [if_neg (by omega), decide_eq_false (by omega)]; simp only [impl_ModeOf.j0, Bool.false_eq_true, if_false]
  have hm0 : (0 : Int) < (m.length : Int) := by omega
  refine ev_bind (F := fun k => impl_ModeOf.f k 1 true 0) m1 ?_
  refine ev_bind (F := fun k => impl_GainOk.f k l m) hok ?_
  simp only [if_true, if_pos hm0, if_pos (v2 rfl)]
  refine ev_bind (F := fun k => impl_ModeOf.f k 2 true 0) m2 ?_
  simp only [if_true]
  exact ev_bind (F := fun k => impl_ModeOf.f k 3 false 0) (G := fun _ t => some (t == 1)) m3 (ev_const rfl)
end
section
variable (code : List Int) (hl : code.length ≤ 1048576)
include hl
theorem drawRise (n : Nat) (hn : n ≤ 5) : ∀ (d : Nat) (x : List Int) (t i h : Int), n - x.length = d → x.length ≤ n → 0 ≤ t → t ≤ 50 + 91 * x.length → Rise x → All x 0 (t - 1) → Cur code i → ∃ y i' h', Cur code i' ∧ y.length = n ∧ Rise y ∧ All y 0 1000 ∧ Ev (fun k => spec_l1DrawRise.l0 k (n : Int) 90 x t (x.length : Int) code i h) (y, i', h') := by
  intro d
  induction d with
  | zero =>
    intro x t i h hd hx t0 t1 hr ha hc
    refine ⟨x, i, h, hc, by omega, hr, fun j hj => by have := ha j hj; omega, ev_now fun k => ?_⟩
    simp only [spec_l1DrawRise.l0]
    rw [if_neg (by omega)]
  | succ d ih =>
    intro x t i h hd hx t0 t1 hr ha hc
    obtain ⟨v, i', h', e, v0, v1, _, c⟩ := below_s code i h 90 (by omega) hc (by omega)
    have v1 := v1 (by omega)
    obtain ⟨y, i2, h2, y1, y2, y3, y4, y5⟩ := ih (x ++ [t]) (t + 1 + v) i' h' (by simp; omega) (by simp; omega) (by omega) (by simp; omega) (by
      intro j j1 j2
      rw [List.length_append] at j2
      by_cases g : j < x.length
      · rw [rd_app x t j g, rd_app x t (j - 1) (by omega)]; exact hr j j1 g
      · obtain rfl : j = x.length := by simp at j2; omega
        rw [rd_end, rd_app x t (x.length - 1) (by omega)]
        have := ha (x.length - 1) (by omega)
        omega) (by
      intro j j2
      rw [List.length_append] at j2
      by_cases g : j < x.length
      · rw [rd_app x t j g]; have := ha j g; omega
      · obtain rfl : j = x.length := by simp at j2; omega
        rw [rd_end]; omega) c
    refine ⟨y, i2, h2, y1, y2, y3, y4, ev_step y5 fun k => ?_⟩
    simp only [spec_l1DrawRise.l0, e, Option.bind_some]
    rw [if_pos (by omega), if_pos (by omega), w64 (a := t + 1) (by omega) (by omega), w64 (a := t + 1 + v) (by omega) (by omega), w64 (a := (x.length : Int) + 1) (by omega) (by omega), List.length_append]
    rfl
theorem drawGains (l : List Int) (hn : l.length ≤ 5) : ∀ (d : Nat) (x : List Int) (i h : Int), l.length - x.length = d → x.length ≤ l.length → All x 0 299 → Cur code i → ∃ y lo hi step now, y.length = l.length ∧ All y 0 299 ∧ (-299 ≤ lo ∧ lo ≤ 0) ∧ (0 ≤ hi ∧ hi ≤ 299) ∧ (1 ≤ step ∧ step ≤ 80) ∧ (lo ≤ now ∧ now ≤ hi) ∧ Ev (fun k => spec_DrawLaws.l0 k (x.length : Int) code i h l x) (l, y, lo, hi, step, now) := by
  intro d
  induction d with
  | zero =>
    intro x i h hd hx ha hc
    obtain ⟨a, i1, h1, e1, a0, a1, _, c1⟩ := below_s code i h 300 (by omega) hc (by omega)
    obtain ⟨b, i2, h2, e2, b0, b1, _, c2⟩ := below_s code i1 h1 300 (by omega) c1 (by omega)
    obtain ⟨s, i3, h3, e3, s0, s1, _, c3⟩ := below_s code i2 h2 80 (by omega) c2 (by omega)
    have a1 := a1 (by omega)
    have b1 := b1 (by omega)
    have s1 := s1 (by omega)
    have w1 : wrap64 (-a) = -a := w64 (by omega) (by omega)
    have w2 : wrap64 (b - -a) = b - -a := w64 (by omega) (by omega)
    have w3 : wrap64 (b - -a + 1) = b - -a + 1 := w64 (by omega) (by omega)
    have w4 : wrap64 (1 + s) = 1 + s := w64 (by omega) (by omega)
    obtain ⟨v, i4, h4, e4, v0, v1, _, c4⟩ := below_s code i3 h3 (b - -a + 1) (by omega) c3 (by omega)
    have v1 := v1 (by omega)
    have w5 : wrap64 (-a + v) = -a + v := w64 (by omega) (by omega)
    refine ⟨x, -a, b, 1 + s, -a + v, by omega, ha, by omega, by omega, by omega, by omega, ev_now fun k => ?_⟩
    simp only [spec_DrawLaws.l0, e1, e2, e3, Option.bind_some, w1, w2, w3, e4, w4, w5]
    rw [if_neg (by omega)]
  | succ d ih =>
    intro x i h hd hx ha hc
    obtain ⟨v, i', h', e, v0, v1, _, c⟩ := below_s code i h 300 (by omega) hc (by omega)
    have v1 := v1 (by omega)
    obtain ⟨y, lo, hi, step, now, y1, y2, y3, y4, y5, y6, y7⟩ := ih (x ++ [v]) i' h' (by simp; omega) (by simp; omega) (by
      intro j j2
      rw [List.length_append] at j2
      by_cases g : j < x.length
      · rw [rd_app x v j g]; exact ha j g
      · obtain rfl : j = x.length := by simp at j2; omega
        rw [rd_end]; omega) c
    refine ⟨y, lo, hi, step, now, y1, y2, y3, y4, y5, y6, ev_step y7 fun k => ?_⟩
    simp only [spec_DrawLaws.l0, e, Option.bind_some]
    rw [if_pos (by omega), if_pos (by omega), w64 (a := (x.length : Int) + 1) (by omega) (by omega), List.length_append]
    rfl
theorem draws : ∃ l m lo hi step now, Good l m ∧ (-299 ≤ lo ∧ lo ≤ 0) ∧ (0 ≤ hi ∧ hi ≤ 299) ∧ (1 ≤ step ∧ step ≤ 80) ∧ (lo ≤ now ∧ now ≤ hi) ∧ Ev (fun k => spec_DrawLaws.f k code) (l, m, lo, hi, step, now) := by
  obtain ⟨h, hn⟩ := new_s code (by omega)
  obtain ⟨a, i1, h1, e1, a0, a1, _, c1⟩ := below_s code 0 h 4 (by omega) ⟨by omega, by omega⟩ (by omega)
  obtain ⟨b, i2, h2, e2, b0, b1, _, c2⟩ := below_s code i1 h1 50 (by omega) c1 (by omega)
  have a1 := a1 (by omega)
  have b1 := b1 (by omega)
  have w1 : wrap64 (2 + a) = (((2 + a).toNat : Nat) : Int) := by rw [w64 (by omega) (by omega)]; omega
  obtain ⟨l, i3, h3, c3, l1, l2, l3, l4⟩ := drawRise code hl (2 + a).toNat (by omega) (2 + a).toNat [] b i2 h2 (by simp) (by simp) b0 (by simp; omega) (fun j _ hj => absurd hj (Nat.not_lt_zero _)) (fun j hj => absurd hj (Nat.not_lt_zero _)) c2
  obtain ⟨m, lo, hi, step, now, m1, m2, m3, m4, m5, m6, m7⟩ := drawGains code hl l (by omega) l.length [] i3 h3 (by simp) (by simp) (fun j hj => absurd hj (Nat.not_lt_zero _)) c3
  refine ⟨l, m, lo, hi, step, now, ⟨⟨by omega, by omega⟩, m1, l2, l3, fun j hj => by have := m2 j hj; omega⟩, m3, m4, m5, m6, ?_⟩
  unfold spec_DrawLaws.f
  refine ev_bind (F := fun k => spec_l1New.f k code) hn ?_
  simp only [e1, e2, Option.bind_some, w1]
  exact ev_bind (F := fun k => spec_l1DrawRise.f k code i2 h2 (((2 + a).toNat : Nat) : Int) b 90) (G := fun k bt151 => spec_DrawLaws.l0 k 0 code bt151.2.1 bt151.2.2 bt151.1 ([] : List Int)) l4 m7
end
theorem FnSurface : laws_FnSurface.Pure := by
  intro code _ _ hu
  by_cases hl : code.length ≤ 1048576
  · obtain ⟨a, ea, a0, a1⟩ := at_in code hl hu 1 (by omega) (by omega)
    obtain ⟨b, eb, b0, b1⟩ := at_in code hl hu 2 (by omega) (by omega)
    obtain ⟨c, ec, c0, c1⟩ := at_in code hl hu 3 (by omega) (by omega)
    obtain ⟨d, ed, d0, d1⟩ := at_in code hl hu 4 (by omega) (by omega)
    obtain ⟨l, m, lo, hi, step, now, hg, q1, q2, q3, q4, q5⟩ := draws code hl
    have key : Ev (fun k => laws_FnSurface.f k code) true := by
      unfold laws_FnSurface.f
      rw [big_f code hl]
      simp only [Option.bind_some, Bool.false_eq_true, if_false, ea, eb, ec, ed]
      rw [w64 (a := a * 4) (by omega) (by omega), w64 (a := b * 4) (by omega) (by omega), w64 (a := c * 3) (by omega) (by omega), w64 (a := d * 4) (by omega) (by omega), w64 (a := a * 4 - 500) (by omega) (by omega), w64 (a := b * 4 - 500) (by omega) (by omega), w64 (a := d * 4 - 400) (by omega) (by omega)]
      refine ev_bind (F := fun k => spec_DrawLaws.f k code) (G := fun k bt210 => laws_FnSurface.l0 k bt210.2.2.2.2.2 0 bt210.1 bt210.2.1 bt210.2.2.1 bt210.2.2.2.1 bt210.2.2.2.2.1 (a * 4 - 500) (b * 4 - 500) (c * 3) (d * 4 - 400)) q5 ?_
      have R := fun mode ask hm ha he => round l m hg (b * 4 - 500) (c * 3) (d * 4 - 400) lo hi step now (by omega) (by omega) (by omega) (by omega) (by omega) (by omega) (by omega) q4.1 q4.2 mode ask hm ha he
      have L := fun ask => lastly l m hg (b * 4 - 500) (c * 3) (d * 4 - 400) lo hi step now ask
      have R2 := R 2 (a * 4 - 500) (by omega) (by omega) (by rw [if_pos rfl]; exact L _)
      have R1 := R 1 (a * 4 - 500) (by omega) (by omega) (by rw [if_neg (by omega)]; exact R2)
      exact R 0 (a * 4 - 500) (by omega) (by omega) (by rw [if_neg (by omega)]; exact R1)
    obtain ⟨K, hK⟩ := key
    exact ⟨K, hK K (Nat.le_refl _)⟩
  · refine ⟨0, ?_⟩
    unfold laws_FnSurface.f
    rw [big_t code hl, Option.bind_some, if_pos rfl]
end Go.Proofs.Ytifcfkoohfbfoaa.Pure.FnSurface
namespace Go.Proofs.Ytifcfkoohfbfoaa.Pure
theorem FnSurface : Go.Proofs.Ytifcfkoohfbfoaa.PFnSurface.laws_FnSurface.Pure := FnSurface.FnSurface
end Go.Proofs.Ytifcfkoohfbfoaa.Pure
