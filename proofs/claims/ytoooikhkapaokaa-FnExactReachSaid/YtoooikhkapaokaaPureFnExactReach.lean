/- For every list of Points and both slopes the program's Reach answers what the reference's answers, keeps nothing and writes nothing (FnExactReach returns true); no condition. -/
import Derived.Test.YtoooikhkapaokaaAskFnExactReach
import Derived.Test.YtoooikhkapaokaaNum
namespace Go.Proofs.Ytoooikhkapaokaa.Pure.FnExactReach
open Go.RowKit Go.Proofs.Ytoooikhkapaokaa.PFnExactReach Go.Proofs.YtoooikhkapaokaaW.PrintWords Go.Proofs.YtoooikhkapaokaaW.PrintLast Go.Proofs.YtoooikhkapaokaaW.PrintMore Go.Proofs.Ytoooikhkapaokaa.Num
set_option linter.unusedVariables false
set_option linter.unusedSimpArgs false
theorem in_s (a b c : Int) : spec_l1In.f a b c = some (decide (b ≤ a) && decide (a ≤ c)) := by
  unfold spec_l1In.f
  by_cases h : a ≥ b
  · rw [if_pos h, decide_eq_true (show b ≤ a from h)]; rfl
  · rw [if_neg h, decide_eq_false (show ¬ b ≤ a from h)]; rfl
theorem in_i (a b c : Int) : impl_in.f a b c = some (decide (b ≤ a) && decide (a ≤ c)) := by
  unfold impl_in.f
  by_cases h : a ≥ b
  · rw [if_pos h, decide_eq_true (show b ≤ a from h)]; rfl
  · rw [if_neg h, decide_eq_false (show ¬ b ≤ a from h)]; rfl
theorem min_s (a b : Int) : spec_l1Min.f a b = some (mn a b) := by
  unfold spec_l1Min.f mn
  by_cases h : a < b
  · rw [if_pos h, if_neg (by omega)]
  · rw [if_neg h]
    by_cases g : b < a
    · rw [if_pos g]
    · rw [if_neg g]; congr 1; omega
theorem max_s (a b : Int) : spec_l1Max.f a b = some (mx a b) := by
  unfold spec_l1Max.f mx
  by_cases h : a > b
  · rw [if_pos h, if_neg (by omega)]
  · rw [if_neg h]
    by_cases g : a < b
    · rw [if_pos g]
    · rw [if_neg g]; congr 1; omega
def conv (x : S51) : S41 := ⟨x.f0, x.f1, x.f2⟩
theorem laws_toPointS_l0 (x0 : List S51) (hn : x0.length ≤ 4611686018427387904) : ∀ (d k i : Nat) (x3 : List S41), x0.length - i = d → i ≤ x0.length → d < k → x3.length = x0.length → (∀ j, j < i → x3[j]? = (x0.map conv)[j]?) → laws_toPointS.l0 k x0 x3 (i : Int) = some (x0.map conv) := by
  intro d
  induction d with
  | zero =>
    intro k i x3 hd hi hk hl hj
    obtain ⟨k, rfl⟩ : ∃ m, k = m + 1 := ⟨k - 1, by omega⟩
    simp only [laws_toPointS.l0]
    rw [if_neg (by omega)]
    congr 1
    apply List.ext_getElem?
    intro j
    by_cases h : j < i
    · exact hj j h
    · rw [List.getElem?_eq_none (by omega), List.getElem?_eq_none (by simp; omega)]
  | succ d ih =>
    intro k i x3 hd hi hk hl hj
    obtain ⟨k, rfl⟩ : ∃ m, k = m + 1 := ⟨k - 1, by omega⟩
    have hlt : i < x0.length := by omega
    simp only [laws_toPointS.l0, laws_toPoint.f, Option.bind_some]
    rw [if_pos (by omega), if_pos (by omega), if_pos (by omega), w64 (a := (i : Int) + 1) (by omega) (by omega), show (i : Int) + 1 = ((i + 1 : Nat) : Int) by omega]
    refine ih k (i + 1) _ (by omega) (by omega) (by omega) (by simpa using hl) ?_
    intro j hj'
    have hr : rd_T51 x0 (i : Int) = x0[i] := by
      show x0.getD (i : Int).toNat z51 = _
      rw [Int.toNat_natCast, List.getD_eq_getElem?_getD, List.getElem?_eq_getElem hlt]; rfl
    simp only [Int.toNat_natCast, hr]
    by_cases e : j = i
    · subst e
      rw [List.getElem?_set_self (by omega), List.getElem?_map, List.getElem?_eq_getElem hlt]; rfl
    · rw [List.getElem?_set_ne (fun h => e h.symm)]
      exact hj j (by omega)
theorem laws_toPointS_eq (x0 : List S51) (k : Nat) (hn : x0.length ≤ 11728124029610) (hk : x0.length < k) : laws_toPointS.f k x0 = some (x0.map conv) := by
  unfold laws_toPointS.f
  rw [if_pos (by omega), if_pos (by rw [Int.toNat_natCast]; omega), Int.toNat_natCast]
  exact laws_toPointS_l0 x0 (by omega) x0.length k 0 _ (by omega) (by omega) hk (by simp) (fun j hj => by omega)

theorem laws_eqPointS_l0 (x0 : List S41) (hn : x0.length ≤ 4611686018427387904) : ∀ (d k i : Nat), x0.length - i = d → i ≤ x0.length → d < k → laws_eqPointS.l0 k x0 x0 (i : Int) = some true := by
  intro d
  induction d with
  | zero =>
    intro k i hd hi hk
    obtain ⟨k, rfl⟩ : ∃ m, k = m + 1 := ⟨k - 1, by omega⟩
    simp only [laws_eqPointS.l0]
    rw [if_neg (by omega)]
  | succ d ih =>
    intro k i hd hi hk
    obtain ⟨k, rfl⟩ : ∃ m, k = m + 1 := ⟨k - 1, by omega⟩
    simp only [laws_eqPointS.l0, laws_eqPoint.f, if_true, bne_self_eq_false, Bool.false_eq_true, if_false, Option.bind_some]
    rw [if_pos (by omega), if_pos (by omega), if_pos (by omega), w64 (a := (i : Int) + 1) (by omega) (by omega), show (i : Int) + 1 = ((i + 1 : Nat) : Int) by omega]
    exact ih k (i + 1) (by omega) (by omega) (by omega)
theorem laws_eqPointS_eq (x0 : List S41) (k : Nat) (hn : x0.length ≤ 4611686018427387904) (hk : x0.length < k) : laws_eqPointS.f k x0 x0 = some true := by
  unfold laws_eqPointS.f
  rw [if_pos rfl]
  exact laws_eqPointS_l0 x0 hn x0.length k 0 (by omega) (by omega) hk

theorem laws_markPointS_rs (x : List S41) (i : Nat) (v : S41) (h : i < x.length) : rd_T41 (x.set (i : Int).toNat v) (i : Int) = v := by
  show (x.set (i : Int).toNat v).getD (i : Int).toNat z41 = _
  rw [Int.toNat_natCast, List.getD_eq_getElem?_getD, List.getElem?_set_self h]; rfl
theorem laws_markPointS_l0 (m : Int) (n : Nat) (hm : 0 ≤ m) (hn : m + 3 * n ≤ 4611686018427387904) : ∀ (d k i : Nat) (x0 : List S41), x0.length = n → n - i = d → i ≤ n → d < k → (∀ j : Nat, j < i → x0[j]? = some (⟨m + 3 * (j : Int), m + 3 * (j : Int) + 1, m + 3 * (j : Int) + 1 + 1⟩ : S41)) → ∃ x, laws_markPointS.l0 k x0 (m + 3 * (i : Int)) (i : Int) = some (m + 3 * n, x) ∧ x.length = n ∧ ∀ j : Nat, j < n → x[j]? = some (⟨m + 3 * (j : Int), m + 3 * (j : Int) + 1, m + 3 * (j : Int) + 1 + 1⟩ : S41) := by
  intro d
  induction d with
  | zero =>
    intro k i x0 hl hd hi hk hj
    obtain ⟨k, rfl⟩ : ∃ m, k = m + 1 := ⟨k - 1, by omega⟩
    obtain rfl : i = n := by omega
    simp only [laws_markPointS.l0]
    rw [if_neg (by omega)]
    exact ⟨x0, rfl, hl, hj⟩
  | succ d ih =>
    intro k i x0 hl hd hi hk hj
    obtain ⟨k, rfl⟩ : ∃ m, k = m + 1 := ⟨k - 1, by omega⟩
    have hlt : i < x0.length := by omega
    have rs : ∀ v, rd_T41 (x0.set (i : Int).toNat v) (i : Int) = v := fun v => laws_markPointS_rs x0 i v hlt
    simp only [laws_markPointS.l0, Option.bind_some, rs, List.set_set]
    rw [if_pos (by omega), if_pos (by omega), w64 (a := (i : Int) + 1) (by omega) (by omega), w64 (a := m + 3 * (i : Int) + 1) (by omega) (by omega), w64 (a := m + 3 * (i : Int) + 1 + 1) (by omega) (by omega), w64 (a := m + 3 * (i : Int) + 1 + 1 + 1) (by omega) (by omega), show (i : Int) + 1 = ((i + 1 : Nat) : Int) by omega, show m + 3 * (i : Int) + 1 + 1 + 1 = m + 3 * ((i + 1 : Nat) : Int) by omega]
    refine ih k (i + 1) _ (by simpa using hl) (by omega) (by omega) (by omega) ?_
    intro j hj'
    rw [Int.toNat_natCast]
    by_cases e : j = i
    · subst e
      rw [List.getElem?_set_self (by omega)]
    · rw [List.getElem?_set_ne (fun h => e h.symm)]
      exact hj j (by omega)
theorem laws_heldPointS_l0 (m : Int) (n : Nat) (hm : 0 ≤ m) (hn : m + 3 * n ≤ 4611686018427387904) (x : List S41) (hl : x.length = n) (hx : ∀ j : Nat, j < n → x[j]? = some (⟨m + 3 * (j : Int), m + 3 * (j : Int) + 1, m + 3 * (j : Int) + 1 + 1⟩ : S41)) : ∀ (d k i : Nat), n - i = d → i ≤ n → d < k → laws_heldPointS.l0 k x (m + 3 * (i : Int)) (i : Int) = some (m + 3 * n) := by
  intro d
  induction d with
  | zero =>
    intro k i hd hi hk
    obtain ⟨k, rfl⟩ : ∃ m, k = m + 1 := ⟨k - 1, by omega⟩
    obtain rfl : i = n := by omega
    simp only [laws_heldPointS.l0]
    rw [if_neg (by omega)]
  | succ d ih =>
    intro k i hd hi hk
    obtain ⟨k, rfl⟩ : ∃ m, k = m + 1 := ⟨k - 1, by omega⟩
    have hr : rd_T41 x (i : Int) = (⟨m + 3 * (i : Int), m + 3 * (i : Int) + 1, m + 3 * (i : Int) + 1 + 1⟩ : S41) := by
      show x.getD (i : Int).toNat z41 = _
      rw [Int.toNat_natCast, List.getD_eq_getElem?_getD, hx i (by omega)]; rfl
    have wi : wrap64 ((i : Int) + 1) = ((i + 1 : Nat) : Int) := by rw [w64 (by omega) (by omega)]; omega
    have w1 : wrap64 (m + 3 * (i : Int) + 1) = m + 3 * (i : Int) + 1 := w64 (by omega) (by omega)
    have w2 : wrap64 (m + 3 * (i : Int) + 1 + 1) = m + 3 * (i : Int) + 1 + 1 := w64 (by omega) (by omega)
    have w3 : wrap64 (m + 3 * (i : Int) + 1 + 1 + 1) = m + 3 * (i : Int) + 1 + 1 + 1 := w64 (by omega) (by omega)
    have wn : m + 3 * (i : Int) + 1 + 1 + 1 = m + 3 * ((i + 1 : Nat) : Int) := by omega
    simp only [laws_heldPointS.l0, hr, wi, w1, w2, w3, if_true]
    rw [if_pos (by omega), if_pos (by omega), wn]
    exact ih k (i + 1) (by omega) (by omega) (by omega)
theorem marked (l : List S41) (m : Int) (hm : 0 ≤ m) (hn : m + 3 * l.length ≤ 4611686018427387904) : ∃ x, (∀ k, l.length < k → laws_markPointS.f k l m = some (m + 3 * l.length, x)) ∧ x.length = l.length ∧ ∀ k', l.length < k' → laws_heldPointS.f k' x m = some (m + 3 * l.length) := by
  have hz : m + 3 * ((0 : Nat) : Int) = m := by omega
  obtain ⟨x, h1, h2, h3⟩ := laws_markPointS_l0 m l.length hm hn l.length (l.length + 1) 0 l rfl (by omega) (by omega) (by omega) (fun j hj => by omega)
  refine ⟨x, fun k hk => ?_, h2, fun k' hk' => ?_⟩
  · obtain ⟨y, g1, g2, g3⟩ := laws_markPointS_l0 m l.length hm hn l.length k 0 l rfl (by omega) (by omega) hk (fun j hj => by omega)
    have e : y = x := by
      apply List.ext_getElem?
      intro j
      by_cases h : j < l.length
      · rw [g3 j h, h3 j h]
      · rw [List.getElem?_eq_none (by omega), List.getElem?_eq_none (by omega)]
    unfold laws_markPointS.f
    rw [hz] at g1
    rw [← e]; exact g1
  · unfold laws_heldPointS.f
    have := laws_heldPointS_l0 m l.length hm hn x h2 h3 l.length k' 0 (by omega) (by omega) hk'
    rwa [hz] at this

theorem rdp (l : List S41) (i : Nat) (h : i < l.length) : rd_T41 l (i : Int) = l[i] := by
  show l.getD (i : Int).toNat z41 = _
  rw [Int.toNat_natCast, List.getD_eq_getElem?_getD, List.getElem?_eq_getElem h]; rfl
/-- The point at i is right, beside the one before it. -/
def PtOk (x : List S41) (i : Nat) : Prop := (0 ≤ (rd_T41 x i).f0 ∧ (rd_T41 x i).f0 ≤ 100000) ∧ (0 ≤ (rd_T41 x i).f1 ∧ (rd_T41 x i).f1 ≤ (rd_T41 x i).f2) ∧ (rd_T41 x i).f2 ≤ 100000 ∧ (0 < i → (rd_T41 x ((i : Int) - 1)).f0 < (rd_T41 x i).f0)
def PtsFrom (x : List S41) (i : Nat) : Prop := (∀ j, i ≤ j → j < x.length → PtOk x j) ∧ 1 ≤ x.length ∧ x.length ≤ 30
theorem pts_here {x : List S41} {i : Nat} (h : i < x.length) : PtsFrom x i ↔ PtOk x i ∧ PtsFrom x (i + 1) :=
  ⟨fun g => ⟨g.1 i (by omega) h, ⟨fun j h1 h2 => g.1 j (by omega) h2, g.2⟩⟩,
   fun g => ⟨fun j h1 h2 => by by_cases e : j = i; · subst e; exact g.1
                               · exact g.2.1 j (by omega) h2, g.2.2⟩⟩
theorem pts_end {x : List S41} {i : Nat} (h : ¬ i < x.length) : PtsFrom x i ↔ 1 ≤ x.length ∧ x.length ≤ 30 :=
  ⟨fun g => g.2, fun g => ⟨fun j h1 h2 => by omega, g⟩⟩
theorem pts_not {x : List S41} {i : Nat} (h : i < x.length) (g : ¬ PtOk x i) : ∃ b, some false = some b ∧ (b = true ↔ PtsFrom x i) :=
  ⟨false, rfl, fun e => absurd e Bool.false_ne_true, fun e => absurd (e.1 i (by omega) h) g⟩
theorem points_sl (x : List S41) (hn : x.length ≤ 4611686018427387904) : ∀ (d k i : Nat), x.length - i = d → i ≤ x.length → d < k → ∃ b, spec_PointsOk.l0 k x (i : Int) = some b ∧ (b = true ↔ PtsFrom x i) := by
  intro d
  induction d with
  | zero =>
    intro k i hd hi hk
    obtain ⟨k, rfl⟩ : ∃ m, k = m + 1 := ⟨k - 1, by omega⟩
    simp only [spec_PointsOk.l0]
    rw [if_neg (by omega), in_s, Option.bind_some]
    refine ⟨_, rfl, Iff.trans ?_ (pts_end (by omega)).symm⟩
    rw [Bool.and_eq_true, decide_eq_true_eq, decide_eq_true_eq]; omega
  | succ d ih =>
    intro k i hd hi hk
    obtain ⟨k, rfl⟩ : ∃ m, k = m + 1 := ⟨k - 1, by omega⟩
    have hlt : i < x.length := by omega
    obtain ⟨b, hb, hbg⟩ := ih k (i + 1) (by omega) (by omega) (by omega)
    simp only [spec_PointsOk.l0, in_s, Option.bind_some]
    rw [if_pos (by omega), if_pos (by omega), w64 (a := (i : Int) + 1) (by omega) (by omega), show (i : Int) + 1 = ((i + 1 : Nat) : Int) by omega, ← Bool.decide_and, ← Bool.decide_and, hb]
    by_cases h1 : 0 ≤ (rd_T41 x i).f0 ∧ (rd_T41 x i).f0 ≤ 100000
    · rw [if_pos (decide_eq_true h1)]
      by_cases h2 : 0 ≤ (rd_T41 x i).f1 ∧ (rd_T41 x i).f1 ≤ (rd_T41 x i).f2
      · rw [if_pos (decide_eq_true h2)]
        by_cases h3 : (rd_T41 x i).f2 > 100000
        · rw [if_pos h3]; exact pts_not hlt fun g => by have := g.2.2.1; omega
        · rw [if_neg h3]
          by_cases h4 : (i : Int) > 0
          · rw [if_pos h4, w64 (a := (i : Int) - 1) (by omega) (by omega), if_pos (by omega), if_pos (by omega)]
            by_cases h5 : (rd_T41 x ((i : Int) - 1)).f0 ≥ (rd_T41 x i).f0
            · rw [if_pos h5]; exact pts_not hlt fun g => by have := g.2.2.2 (by omega); omega
            · rw [if_neg h5]; exact ⟨b, rfl, hbg.trans ⟨fun g => (pts_here hlt).2 ⟨⟨h1, h2, by omega, fun _ => by omega⟩, g⟩, fun g => ((pts_here hlt).1 g).2⟩⟩
          · rw [if_neg h4]
            exact ⟨b, rfl, hbg.trans ⟨fun g => (pts_here hlt).2 ⟨⟨h1, h2, by omega, fun _ => by omega⟩, g⟩, fun g => ((pts_here hlt).1 g).2⟩⟩
      · rw [if_neg (by rw [decide_eq_false h2]; exact Bool.false_ne_true)]; exact pts_not hlt fun g => h2 g.2.1
    · rw [if_neg (by rw [decide_eq_false h1]; exact Bool.false_ne_true)]; exact pts_not hlt fun g => h1 g.1
theorem points_il (x : List S41) (hn : x.length ≤ 4611686018427387904) : ∀ (d k i : Nat), x.length - i = d → i ≤ x.length → d < k → ∃ b, impl_PointsOk.l0 k x x (x.length : Int) (i : Int) = some b ∧ (b = true ↔ PtsFrom x i) := by
  intro d
  induction d with
  | zero =>
    intro k i hd hi hk
    obtain ⟨k, rfl⟩ : ∃ m, k = m + 1 := ⟨k - 1, by omega⟩
    simp only [impl_PointsOk.l0]
    rw [if_neg (by omega), in_i, Option.bind_some]
    refine ⟨_, rfl, Iff.trans ?_ (pts_end (by omega)).symm⟩
    rw [Bool.and_eq_true, decide_eq_true_eq, decide_eq_true_eq]; omega
  | succ d ih =>
    intro k i hd hi hk
    obtain ⟨k, rfl⟩ : ∃ m, k = m + 1 := ⟨k - 1, by omega⟩
    have hlt : i < x.length := by omega
    obtain ⟨b, hb, hbg⟩ := ih k (i + 1) (by omega) (by omega) (by omega)
    have tail : (0 ≤ (rd_T41 x i).f0 ∧ (rd_T41 x i).f0 ≤ 100000) → (0 < i → (rd_T41 x ((i : Int) - 1)).f0 < (rd_T41 x i).f0) → ∃ b', (if ((rd_T41 x i).f1) < 0 then (some false) else (if ((rd_T41 x i).f1) > ((rd_T41 x i).f2) then (some false) else (if ((rd_T41 x i).f2) > 100000 then (some false) else some b))) = some b' ∧ (b' = true ↔ PtsFrom x i) := by
      intro h1 h5
      by_cases c1 : (rd_T41 x i).f1 < 0
      · rw [if_pos c1]; exact pts_not hlt fun g => by have := g.2.1; omega
      · rw [if_neg c1]
        by_cases c2 : (rd_T41 x i).f1 > (rd_T41 x i).f2
        · rw [if_pos c2]; exact pts_not hlt fun g => by have := g.2.1; omega
        · rw [if_neg c2]
          by_cases c3 : (rd_T41 x i).f2 > 100000
          · rw [if_pos c3]; exact pts_not hlt fun g => by have := g.2.2.1; omega
          · rw [if_neg c3]; exact ⟨b, rfl, hbg.trans ⟨fun g => (pts_here hlt).2 ⟨⟨h1, ⟨by omega, by omega⟩, by omega, h5⟩, g⟩, fun g => ((pts_here hlt).1 g).2⟩⟩
    simp only [impl_PointsOk.l0, in_i, Option.bind_some]
    rw [if_pos (by omega), if_pos (by omega), if_pos (by omega), w64 (a := (i : Int) + 1) (by omega) (by omega), show (i : Int) + 1 = ((i + 1 : Nat) : Int) by omega, ← Bool.decide_and, hb]
    by_cases h1 : 0 ≤ (rd_T41 x i).f0 ∧ (rd_T41 x i).f0 ≤ 100000
    · rw [if_pos (decide_eq_true h1)]
      by_cases h4 : (i : Int) > 0
      · rw [if_pos h4, w64 (a := (i : Int) - 1) (by omega) (by omega), if_pos (by omega), if_pos (by omega)]
        by_cases h5 : (rd_T41 x ((i : Int) - 1)).f0 ≥ (rd_T41 x i).f0
        · rw [if_pos h5]; exact pts_not hlt fun g => by have := g.2.2.2 (by omega); omega
        · rw [if_neg h5]; exact tail h1 fun _ => by omega
      · rw [if_neg h4]; exact tail h1 fun _ => by omega
    · rw [if_neg (by rw [decide_eq_false h1]; exact Bool.false_ne_true)]; exact pts_not hlt fun g => h1 g.1
theorem points (x : List S41) (hn : x.length ≤ 4611686018427387904) : ∃ b, (∀ k, x.length < k → spec_PointsOk.f k x = some b) ∧ (∀ k, x.length < k → impl_PointsOk.f k x = some b) ∧ (b = true ↔ PtsFrom x 0) := by
  obtain ⟨b, hb, hg⟩ := points_sl x hn x.length (x.length + 1) 0 (by omega) (by omega) (by omega)
  refine ⟨b, fun k hk => ?_, fun k hk => ?_, hg⟩
  · obtain ⟨b', h, g⟩ := points_sl x hn x.length k 0 (by omega) (by omega) hk
    have e : b' = b := by rw [Bool.eq_iff_iff]; exact g.trans hg.symm
    subst e; exact h
  · obtain ⟨b', h, g⟩ := points_il x hn x.length k 0 (by omega) (by omega) hk
    have e : b' = b := by rw [Bool.eq_iff_iff]; exact g.trans hg.symm
    subst e; exact h
theorem rd_app (l : List S41) (v : S41) (i : Nat) (h : i < l.length) : rd_T41 (l ++ [v]) (i : Int) = rd_T41 l (i : Int) := by
  show (l ++ [v]).getD (i : Int).toNat z41 = l.getD (i : Int).toNat z41
  rw [Int.toNat_natCast, List.getD_eq_getElem?_getD, List.getD_eq_getElem?_getD, List.getElem?_append_left h]
theorem rd_end (l : List S41) (v : S41) : rd_T41 (l ++ [v]) (l.length : Int) = v := by
  show (l ++ [v]).getD (l.length : Int).toNat z41 = _
  rw [Int.toNat_natCast, List.getD_eq_getElem?_getD, List.getElem?_append_right (Nat.le_refl _), Nat.sub_self]; rfl
theorem reach_l (x0 : List S41) (u v : Int) (hn : x0.length ≤ 30) : ∀ (d i : Nat) (x9 : List S41), x0.length - i = d → i ≤ x0.length → x9.length = i → (∀ j : Nat, j < i → (rd_T41 x9 (j : Int)).f0 = (rd_T41 x0 (j : Int)).f0) → ∃ r : List S41 × Int × Bool, r.1.length ≤ x0.length ∧ ∀ k, d < k → spec_Reach.l0 k x0 u v x9 (i : Int) = some r ∧ impl_Reach.l0 k u v x9 x0 (x0.length : Int) (i : Int) = some r := by
  intro d
  induction d with
  | zero =>
    intro i x9 hd hi hl hj
    refine ⟨(x9, -1, true), by simp only; omega, fun k hk => ?_⟩
    obtain ⟨k, rfl⟩ : ∃ m, k = m + 1 := ⟨k - 1, by omega⟩
    simp only [spec_Reach.l0, impl_Reach.l0]
    rw [if_neg (by omega), if_neg (by omega)]
    exact ⟨rfl, rfl⟩
  | succ d ih =>
    intro i x9 hd hi hl hj
    have hlt : i < x0.length := by omega
    have step : ∀ p : S41, p.f0 = (rd_T41 x0 (i : Int)).f0 → ∃ r : List S41 × Int × Bool, r.1.length ≤ x0.length ∧ ∀ k, d < k → spec_Reach.l0 k x0 u v (x9 ++ [p]) ((i + 1 : Nat) : Int) = some r ∧ impl_Reach.l0 k u v (x9 ++ [p]) x0 (x0.length : Int) ((i + 1 : Nat) : Int) = some r := by
      intro p hp
      refine ih (i + 1) (x9 ++ [p]) (by omega) (by omega) (by simp [hl]) ?_
      intro j h
      by_cases e : j < i
      · rw [rd_app x9 p j (by omega)]; exact hj j e
      · obtain rfl : j = x9.length := by omega
        rw [rd_end, hp, hl]
    have w1 : wrap64 ((i : Int) + 1) = ((i + 1 : Nat) : Int) := by rw [w64 (by omega) (by omega)]; omega
    by_cases h0 : (i : Int) > 0
    · have w0 : wrap64 ((i : Int) - 1) = ((i - 1 : Nat) : Int) := by rw [w64 (by omega) (by omega)]; omega
      have hf := hj (i - 1) (by omega)
      obtain ⟨A, hA⟩ : ∃ A, mx (rd_T41 x0 (i : Int)).f1 (wrap64 ((rd_T41 x9 ((i - 1 : Nat) : Int)).f1 - (wrap64 (v * (wrap64 ((rd_T41 x0 (i : Int)).f0 - (rd_T41 x0 ((i - 1 : Nat) : Int)).f0)))))) = A := ⟨_, rfl⟩
      obtain ⟨B, hB⟩ : ∃ B, mn (rd_T41 x0 (i : Int)).f2 (wrap64 ((rd_T41 x9 ((i - 1 : Nat) : Int)).f2 + (wrap64 (u * (wrap64 ((rd_T41 x0 (i : Int)).f0 - (rd_T41 x0 ((i - 1 : Nat) : Int)).f0)))))) = B := ⟨_, rfl⟩
      by_cases hAB : A > B
      · refine ⟨(x9, (i : Int), true), by simp only; omega, fun k hk => ?_⟩
        obtain ⟨k, rfl⟩ : ∃ m, k = m + 1 := ⟨k - 1, by omega⟩
        simp only [spec_Reach.l0, impl_Reach.l0, w0, max_s, min_s, Option.bind_some, hf, hA, hB, if_pos hAB]
        rw [if_pos (by omega), if_pos (by omega), if_pos h0, if_pos (by omega), if_pos (by omega), if_pos (by omega)]
        rw [if_pos (by omega), if_pos (by omega), if_pos (by omega), if_pos h0, if_pos (by omega)]
        exact ⟨rfl, rfl⟩
      · obtain ⟨r, hr, h⟩ := step ⟨(rd_T41 x0 (i : Int)).f0, A, B⟩ rfl
        refine ⟨r, hr, fun k hk => ?_⟩
        obtain ⟨k, rfl⟩ : ∃ m, k = m + 1 := ⟨k - 1, by omega⟩
        simp only [spec_Reach.l0, impl_Reach.l0, w0, w1, max_s, min_s, Option.bind_some, hf, hA, hB, if_neg hAB]
        rw [if_pos (by omega), if_pos (by omega), if_pos h0, if_pos (by omega), if_pos (by omega), if_pos (by omega), if_pos (by omega)]
        rw [if_pos (by omega), if_pos (by omega), if_pos (by omega), if_pos h0, if_pos (by omega), if_pos (by omega), if_pos (by omega)]
        exact h k (by omega)
    · by_cases hAB : (rd_T41 x0 (i : Int)).f1 > (rd_T41 x0 (i : Int)).f2
      · refine ⟨(x9, (i : Int), true), by simp only; omega, fun k hk => ?_⟩
        obtain ⟨k, rfl⟩ : ∃ m, k = m + 1 := ⟨k - 1, by omega⟩
        simp only [spec_Reach.l0, impl_Reach.l0, if_neg h0, if_pos hAB]
        rw [if_pos (by omega), if_pos (by omega)]
        exact ⟨rfl, by rw [if_pos (by omega), if_pos (by omega), if_pos (by omega)]⟩
      · obtain ⟨r, hr, h⟩ := step ⟨(rd_T41 x0 (i : Int)).f0, (rd_T41 x0 (i : Int)).f1, (rd_T41 x0 (i : Int)).f2⟩ rfl
        refine ⟨r, hr, fun k hk => ?_⟩
        obtain ⟨k, rfl⟩ : ∃ m, k = m + 1 := ⟨k - 1, by omega⟩
        obtain ⟨h1, h2⟩ := h k (by omega)
        simp only [spec_Reach.l0, impl_Reach.l0, w1, if_neg h0, if_neg hAB]
        rw [if_pos (by omega), if_pos (by omega), if_pos (by omega)]
        exact ⟨h1, by rw [if_pos (by omega), if_pos (by omega), if_pos (by omega), if_pos (by omega)]; exact h2⟩
theorem reach (x : List S41) (u v : Int) (hn : x.length ≤ 4611686018427387904) : ∃ r : List S41 × Int × Bool, r.1.length ≤ x.length ∧ (∀ k, x.length + 1 < k → spec_Reach.f k x u v = some r) ∧ ∀ k, x.length + 1 < k → impl_Reach.f k x u v = some r := by
  obtain ⟨b, ps, pi, pg⟩ := points x hn
  have bad : ∀ k, 0 < k → spec_Reach.j0 k x u v [] true = some (([] : List S41), (-1 : Int), false) := by
    intro k hk
    obtain ⟨k, rfl⟩ : ∃ m, k = m + 1 := ⟨k - 1, by omega⟩
    rfl
  cases b
  · refine ⟨([], -1, false), by simp, fun k hk => ?_, fun k hk => ?_⟩
    · unfold spec_Reach.f
      rw [Option.bind_some, ps k (by omega), Option.bind_some]
      exact bad k (by omega)
    · unfold impl_Reach.f impl_slopesOk.f
      rw [pi k (by omega), Option.bind_some]; rfl
  · have hp := (pg.1 rfl).2
    by_cases hu : (0 ≤ u ∧ u ≤ 1000) ∧ (0 ≤ v ∧ v ≤ 1000)
    · obtain ⟨r, hr, h⟩ := reach_l x u v hp.2 x.length 0 [] (by omega) (by omega) rfl (fun j h => by omega)
      refine ⟨r, hr, fun k hk => ?_, fun k hk => ?_⟩
      · unfold spec_Reach.f spec_l13Slopes.f
        rw [Option.bind_some, ps k (by omega), Option.bind_some, if_pos rfl, in_s, in_s, ← Bool.decide_and, ← Bool.decide_and, decide_eq_true hu.1, decide_eq_true hu.2]
        obtain ⟨k, rfl⟩ : ∃ m, k = m + 1 := ⟨k - 1, by omega⟩
        exact (h k (by omega)).1
      · unfold impl_Reach.f impl_slopesOk.f
        rw [pi k (by omega), Option.bind_some, if_pos rfl, in_i, in_i, ← Bool.decide_and, ← Bool.decide_and, decide_eq_true hu.1, decide_eq_true hu.2]
        exact (h k (by omega)).2
    · have hs : spec_l13Slopes.f u v = some false := by
        unfold spec_l13Slopes.f
        rw [in_s, in_s, ← Bool.decide_and, ← Bool.decide_and, Option.bind_some]
        by_cases h : 0 ≤ u ∧ u ≤ 1000
        · rw [decide_eq_true h, decide_eq_false (fun g => hu ⟨h, g⟩)]; rfl
        · rw [decide_eq_false h]; rfl
      have hi : ∀ k, x.length + 1 < k → impl_slopesOk.f k x u v = some false := by
        intro k hk
        unfold impl_slopesOk.f
        rw [pi k (by omega), Option.bind_some, if_pos rfl, in_i, in_i, ← Bool.decide_and, ← Bool.decide_and, Option.bind_some]
        by_cases h : 0 ≤ u ∧ u ≤ 1000
        · rw [decide_eq_true h, decide_eq_false (fun g => hu ⟨h, g⟩)]; rfl
        · rw [decide_eq_false h]; rfl
      refine ⟨([], -1, false), by simp, fun k hk => ?_, fun k hk => ?_⟩
      · unfold spec_Reach.f
        rw [Option.bind_some, ps k (by omega), Option.bind_some, if_pos rfl, hs, Option.bind_some]
        exact bad k (by omega)
      · unfold impl_Reach.f
        rw [hi k hk, Option.bind_some]; rfl
theorem FnExactReach : laws_FnExactReach.Pure := by
  intro l u v ⟨hl, _⟩ _ _
  have hl' : l.length ≤ 9223372036854775807 := hl
  refine ⟨l.length + 40, ?_⟩
  unfold laws_FnExactReach.f laws_szPointS.f
  rw [w64 (by omega) (by omega)]
  by_cases h : (1048576 : Int) - (l.length : Int) < 0
  · rw [if_pos h]; rfl
  · rw [if_neg h, Option.bind_some, if_neg h]
    have lm : (l.map conv).length = l.length := List.length_map _
    have ht := fun k hk => laws_toPointS_eq l k (by omega) hk
    obtain ⟨r, hr, hs, hi⟩ := reach (l.map conv) u v (by omega)
    have he := fun k hk => laws_eqPointS_eq r.1 k (by omega) hk
    have he2 := fun k hk => laws_eqPointS_eq (l.map conv) k (by omega) hk
    obtain ⟨y, m1, m2, m3⟩ := marked (l.map conv) 1 (by omega) (by omega)
    obtain ⟨z, n1, n2, n3⟩ := marked r.1 1 (by omega) (by omega)
    have j2 : ∀ k, r.1.length + 1 < k → laws_FnExactReach.j2 k z (1 + 3 * (r.1.length : Int)) false = some true := by
      intro k hk
      obtain ⟨k, rfl⟩ : ∃ m, k = m + 1 := ⟨k - 1, by omega⟩
      simp only [laws_FnExactReach.j2, n3 k (by omega), Option.bind_some, Bool.false_eq_true, if_false]
      rw [if_neg (by omega), if_pos trivial]
    have j1 : ∀ k, l.length + 5 < k → laws_FnExactReach.j1 k l u v r.1 r.2.1 r.2.2 r.1 false = some true := by
      intro k hk
      obtain ⟨k, rfl⟩ : ∃ m, k = m + 1 := ⟨k - 1, by omega⟩
      simp only [laws_FnExactReach.j1, n1 k (by omega), n3 k (by omega), Option.bind_some, Bool.false_eq_true, if_false, ht k (by omega), hi k (by omega), he k (by omega), if_true, bne_self_eq_false, j2 k (by omega)]
      rw [if_neg (by omega)]
    have j0 : ∀ k, l.length + 10 < k → laws_FnExactReach.j0 k l u v r.1 r.2.1 r.2.2 (l.map conv) r.1 r.2.1 r.2.2 false = some true := by
      intro k hk
      obtain ⟨k, rfl⟩ : ∃ m, k = m + 1 := ⟨k - 1, by omega⟩
      simp only [laws_FnExactReach.j0, Bool.false_eq_true, if_false, ht k (by omega), Option.bind_some, he2 k (by omega), if_true, m1 k (by omega), he k (by omega), bne_self_eq_false, j1 k (by omega)]
      rw [if_neg (by omega)]
    simp only [ht _ (show l.length < l.length + 40 by omega), Option.bind_some, hs _ (show (l.map conv).length + 1 < l.length + 40 by omega), hi _ (show (l.map conv).length + 1 < l.length + 40 by omega), he _ (show r.1.length < l.length + 40 by omega), if_true, bne_self_eq_false, j0 _ (show l.length + 10 < l.length + 40 by omega)]
end Go.Proofs.Ytoooikhkapaokaa.Pure.FnExactReach
namespace Go.Proofs.Ytoooikhkapaokaa.Pure
theorem FnExactReach : Go.Proofs.Ytoooikhkapaokaa.PFnExactReach.laws_FnExactReach.Pure := FnExactReach.FnExactReach
end Go.Proofs.Ytoooikhkapaokaa.Pure
