/- For every list of Points the program's PointsOk answers what the reference's answers (FnExactPointsOk returns true); no condition. -/
import Derived.Test.YtoooikhkapaokaaAskFnExactPointsOk
import Derived.Test.YtoooikhkapaokaaNum
namespace Go.Proofs.Ytoooikhkapaokaa.Pure.FnExactPointsOk
open Go.RowKit Go.Proofs.Ytoooikhkapaokaa.PFnExactPointsOk Go.Proofs.YtoooikhkapaokaaW.PrintWords Go.Proofs.YtoooikhkapaokaaW.PrintLast Go.Proofs.YtoooikhkapaokaaW.PrintMore Go.Proofs.Ytoooikhkapaokaa.Num
set_option linter.unusedVariables false
set_option linter.unusedSimpArgs false
theorem in_s (a b c : Int) : spec_l1In.f a b c = some (decide (b ≤ a) && decide (a ≤ c)) := by
  unfold spec_l1In.f
  by_cases h : a ≥ b
  · rw [if_pos h, decide_eq_true (show b ≤ a from h)]; rfl
  · rw [if_neg h, decide_eq_false (show ¬ b ≤ a from h)]; rfl
theorem in_i (a b c : Int) : impl_in.f a b c = some (decide (b ≤ a) && decide (a ≤ c)) := by
  unfold impl_in.f
  by_cases h : a ≥ b
  · rw [if_pos h, decide_eq_true (show b ≤ a from h)]; rfl
  · rw [if_neg h, decide_eq_false (show ¬ b ≤ a from h)]; rfl
def conv (x : S51) : S41 := ⟨x.f0, x.f1, x.f2⟩
theorem laws_toPointS_l0 (x0 : List S51) (hn : x0.length ≤ 4611686018427387904) : ∀ (d k i : Nat) (x3 : List S41), x0.length - i = d → i ≤ x0.length → d < k → x3.length = x0.length → (∀ j, j < i → x3[j]? = (x0.map conv)[j]?) → laws_toPointS.l0 k x0 x3 (i : Int) = some (x0.map conv) := by
  intro d
  induction d with
  | zero =>
    intro k i x3 hd hi hk hl hj
    obtain ⟨k, rfl⟩ : ∃ m, k = m + 1 := ⟨k - 1, by omega⟩
    simp only [laws_toPointS.l0]
    rw [if_neg (by omega)]
    congr 1
    apply List.ext_getElem?
    intro j
    by_cases h : j < i
    · exact hj j h
    · rw [List.getElem?_eq_none (by omega), List.getElem?_eq_none (by simp; omega)]
  | succ d ih =>
    intro k i x3 hd hi hk hl hj
    obtain ⟨k, rfl⟩ : ∃ m, k = m + 1 := ⟨k - 1, by omega⟩
    have hlt : i < x0.length := by omega
    simp only [laws_toPointS.l0, laws_toPoint.f, Option.bind_some]
    rw [if_pos (by omega), if_pos (by omega), if_pos (by omega), w64 (a := (i : Int) + 1) (by omega) (by omega), show (i : Int) + 1 = ((i + 1 : Nat) : Int) by omega]
    refine ih k (i + 1) _ (by omega) (by omega) (by omega) (by simpa using hl) ?_
    intro j hj'
    have hr : rd_T51 x0 (i : Int) = x0[i] := by
      show x0.getD (i : Int).toNat z51 = _
      rw [Int.toNat_natCast, List.getD_eq_getElem?_getD, List.getElem?_eq_getElem hlt]; rfl
    simp only [Int.toNat_natCast, hr]
    by_cases e : j = i
    · subst e
      rw [List.getElem?_set_self (by omega), List.getElem?_map, List.getElem?_eq_getElem hlt]; rfl
    · rw [List.getElem?_set_ne (fun h => e h.symm)]
      exact hj j (by omega)
theorem laws_toPointS_eq (x0 : List S51) (k : Nat) (hn : x0.length ≤ 11728124029610) (hk : x0.length < k) : laws_toPointS.f k x0 = some (x0.map conv) := by
  unfold laws_toPointS.f
  rw [if_pos (by omega), if_pos (by rw [Int.toNat_natCast]; omega), Int.toNat_natCast]
  exact laws_toPointS_l0 x0 (by omega) x0.length k 0 _ (by omega) (by omega) hk (by simp) (fun j hj => by omega)

theorem laws_eqPointS_l0 (x0 : List S41) (hn : x0.length ≤ 4611686018427387904) : ∀ (d k i : Nat), x0.length - i = d → i ≤ x0.length → d < k → laws_eqPointS.l0 k x0 x0 (i : Int) = some true := by
  intro d
  induction d with
  | zero =>
    intro k i hd hi hk
    obtain ⟨k, rfl⟩ : ∃ m, k = m + 1 := ⟨k - 1, by omega⟩
    simp only [laws_eqPointS.l0]
    rw [if_neg (by omega)]
  | succ d ih =>
    intro k i hd hi hk
    obtain ⟨k, rfl⟩ : ∃ m, k = m + 1 := ⟨k - 1, by omega⟩
    simp only [laws_eqPointS.l0, laws_eqPoint.f, if_true, bne_self_eq_false, Bool.false_eq_true, if_false, Option.bind_some]
    rw [if_pos (by omega), if_pos (by omega), if_pos (by omega), w64 (a := (i : Int) + 1) (by omega) (by omega), show (i : Int) + 1 = ((i + 1 : Nat) : Int) by omega]
    exact ih k (i + 1) (by omega) (by omega) (by omega)
theorem laws_eqPointS_eq (x0 : List S41) (k : Nat) (hn : x0.length ≤ 4611686018427387904) (hk : x0.length < k) : laws_eqPointS.f k x0 x0 = some true := by
  unfold laws_eqPointS.f
  rw [if_pos rfl]
  exact laws_eqPointS_l0 x0 hn x0.length k 0 (by omega) (by omega) hk

theorem rdp (l : List S41) (i : Nat) (h : i < l.length) : rd_T41 l (i : Int) = l[i] := by
  show l.getD (i : Int).toNat z41 = _
  rw [Int.toNat_natCast, List.getD_eq_getElem?_getD, List.getElem?_eq_getElem h]; rfl
/-- The point at i is right, beside the one before it. -/
def PtOk (x : List S41) (i : Nat) : Prop := (0 ≤ (rd_T41 x i).f0 ∧ (rd_T41 x i).f0 ≤ 100000) ∧ (0 ≤ (rd_T41 x i).f1 ∧ (rd_T41 x i).f1 ≤ (rd_T41 x i).f2) ∧ (rd_T41 x i).f2 ≤ 100000 ∧ (0 < i → (rd_T41 x ((i : Int) - 1)).f0 < (rd_T41 x i).f0)
def PtsFrom (x : List S41) (i : Nat) : Prop := (∀ j, i ≤ j → j < x.length → PtOk x j) ∧ 1 ≤ x.length ∧ x.length ≤ 30
theorem pts_here {x : List S41} {i : Nat} (h : i < x.length) : PtsFrom x i ↔ PtOk x i ∧ PtsFrom x (i + 1) :=
  ⟨fun g => ⟨g.1 i (by omega) h, ⟨fun j h1 h2 => g.1 j (by omega) h2, g.2⟩⟩,
   fun g => ⟨fun j h1 h2 => by by_cases e : j = i; · subst e; exact g.1
                               · exact g.2.1 j (by omega) h2, g.2.2⟩⟩
theorem pts_end {x : List S41} {i : Nat} (h : ¬ i < x.length) : PtsFrom x i ↔ 1 ≤ x.length ∧ x.length ≤ 30 :=
  ⟨fun g => g.2, fun g => ⟨fun j h1 h2 => by omega, g⟩⟩
theorem pts_not {x : List S41} {i : Nat} (h : i < x.length) (g : ¬ PtOk x i) : ∃ b, some false = some b ∧ (b = true ↔ PtsFrom x i) :=
  ⟨false, rfl, fun e => absurd e Bool.false_ne_true, fun e => absurd (e.1 i (by omega) h) g⟩
theorem points_sl (x : List S41) (hn : x.length ≤ 4611686018427387904) : ∀ (d k i : Nat), x.length - i = d → i ≤ x.length → d < k → ∃ b, spec_PointsOk.l0 k x (i : Int) = some b ∧ (b = true ↔ PtsFrom x i) := by
  intro d
  induction d with
  | zero =>
    intro k i hd hi hk
    obtain ⟨k, rfl⟩ : ∃ m, k = m + 1 := ⟨k - 1, by omega⟩
    simp only [spec_PointsOk.l0]
    rw [if_neg (by omega), in_s, Option.bind_some]
    refine ⟨_, rfl, Iff.trans ?_ (pts_end (by omega)).symm⟩
    rw [Bool.and_eq_true, decide_eq_true_eq, decide_eq_true_eq]; omega
  | succ d ih =>
    intro k i hd hi hk
    obtain ⟨k, rfl⟩ : ∃ m, k = m + 1 := ⟨k - 1, by omega⟩
    have hlt : i < x.length := by omega
    obtain ⟨b, hb, hbg⟩ := ih k (i + 1) (by omega) (by omega) (by omega)
    simp only [spec_PointsOk.l0, in_s, Option.bind_some]
    rw [if_pos (by omega), if_pos (by omega), w64 (a := (i : Int) + 1) (by omega) (by omega), show (i : Int) + 1 = ((i + 1 : Nat) : Int) by omega, ← Bool.decide_and, ← Bool.decide_and, hb]
    by_cases h1 : 0 ≤ (rd_T41 x i).f0 ∧ (rd_T41 x i).f0 ≤ 100000
    · rw [if_pos (decide_eq_true h1)]
      by_cases h2 : 0 ≤ (rd_T41 x i).f1 ∧ (rd_T41 x i).f1 ≤ (rd_T41 x i).f2
      · rw [if_pos (decide_eq_true h2)]
        by_cases h3 : (rd_T41 x i).f2 > 100000
        · rw [if_pos h3]; exact pts_not hlt fun g => by have := g.2.2.1; omega
        · rw [if_neg h3]
          by_cases h4 : (i : Int) > 0
          · rw [if_pos h4, w64 (a := (i : Int) - 1) (by omega) (by omega), if_pos (by omega), if_pos (by omega)]
            by_cases h5 : (rd_T41 x ((i : Int) - 1)).f0 ≥ (rd_T41 x i).f0
            · rw [if_pos h5]; exact pts_not hlt fun g => by have := g.2.2.2 (by omega); omega
            · rw [if_neg h5]; exact ⟨b, rfl, hbg.trans ⟨fun g => (pts_here hlt).2 ⟨⟨h1, h2, by omega, fun _ => by omega⟩, g⟩, fun g => ((pts_here hlt).1 g).2⟩⟩
          · rw [if_neg h4]
            exact ⟨b, rfl, hbg.trans ⟨fun g => (pts_here hlt).2 ⟨⟨h1, h2, by omega, fun _ => by omega⟩, g⟩, fun g => ((pts_here hlt).1 g).2⟩⟩
      · rw [if_neg (by rw [decide_eq_false h2]; exact Bool.false_ne_true)]; exact pts_not hlt fun g => h2 g.2.1
    · rw [if_neg (by rw [decide_eq_false h1]; exact Bool.false_ne_true)]; exact pts_not hlt fun g => h1 g.1
theorem points_il (x : List S41) (hn : x.length ≤ 4611686018427387904) : ∀ (d k i : Nat), x.length - i = d → i ≤ x.length → d < k → ∃ b, impl_PointsOk.l0 k x x (x.length : Int) (i : Int) = some b ∧ (b = true ↔ PtsFrom x i) := by
  intro d
  induction d with
  | zero =>
    intro k i hd hi hk
    obtain ⟨k, rfl⟩ : ∃ m, k = m + 1 := ⟨k - 1, by omega⟩
    simp only [impl_PointsOk.l0]
    rw [if_neg (by omega), in_i, Option.bind_some]
    refine ⟨_, rfl, Iff.trans ?_ (pts_end (by omega)).symm⟩
    rw [Bool.and_eq_true, decide_eq_true_eq, decide_eq_true_eq]; omega
  | succ d ih =>
    intro k i hd hi hk
    obtain ⟨k, rfl⟩ : ∃ m, k = m + 1 := ⟨k - 1, by omega⟩
    have hlt : i < x.length := by omega
    obtain ⟨b, hb, hbg⟩ := ih k (i + 1) (by omega) (by omega) (by omega)
    have tail : (0 ≤ (rd_T41 x i).f0 ∧ (rd_T41 x i).f0 ≤ 100000) → (0 < i → (rd_T41 x ((i : Int) - 1)).f0 < (rd_T41 x i).f0) → ∃ b', (if ((rd_T41 x i).f1) < 0 then (some false) else (if ((rd_T41 x i).f1) > ((rd_T41 x i).f2) then (some false) else (if ((rd_T41 x i).f2) > 100000 then (some false) else some b))) = some b' ∧ (b' = true ↔ PtsFrom x i) := by
      intro h1 h5
      by_cases c1 : (rd_T41 x i).f1 < 0
      · rw [if_pos c1]; exact pts_not hlt fun g => by have := g.2.1; omega
      · rw [if_neg c1]
        by_cases c2 : (rd_T41 x i).f1 > (rd_T41 x i).f2
        · rw [if_pos c2]; exact pts_not hlt fun g => by have := g.2.1; omega
        · rw [if_neg c2]
          by_cases c3 : (rd_T41 x i).f2 > 100000
          · rw [if_pos c3]; exact pts_not hlt fun g => by have := g.2.2.1; omega
          · rw [if_neg c3]; exact ⟨b, rfl, hbg.trans ⟨fun g => (pts_here hlt).2 ⟨⟨h1, ⟨by omega, by omega⟩, by omega, h5⟩, g⟩, fun g => ((pts_here hlt).1 g).2⟩⟩
    simp only [impl_PointsOk.l0, in_i, Option.bind_some]
    rw [if_pos (by omega), if_pos (by omega), if_pos (by omega), w64 (a := (i : Int) + 1) (by omega) (by omega), show (i : Int) + 1 = ((i + 1 : Nat) : Int) by omega, ← Bool.decide_and, hb]
    by_cases h1 : 0 ≤ (rd_T41 x i).f0 ∧ (rd_T41 x i).f0 ≤ 100000
    · rw [if_pos (decide_eq_true h1)]
      by_cases h4 : (i : Int) > 0
      · rw [if_pos h4, w64 (a := (i : Int) - 1) (by omega) (by omega), if_pos (by omega), if_pos (by omega)]
        by_cases h5 : (rd_T41 x ((i : Int) - 1)).f0 ≥ (rd_T41 x i).f0
        · rw [if_pos h5]; exact pts_not hlt fun g => by have := g.2.2.2 (by omega); omega
        · rw [if_neg h5]; exact tail h1 fun _ => by omega
      · rw [if_neg h4]; exact tail h1 fun _ => by omega
    · rw [if_neg (by rw [decide_eq_false h1]; exact Bool.false_ne_true)]; exact pts_not hlt fun g => h1 g.1
theorem points (x : List S41) (hn : x.length ≤ 4611686018427387904) : ∃ b, (∀ k, x.length < k → spec_PointsOk.f k x = some b) ∧ (∀ k, x.length < k → impl_PointsOk.f k x = some b) ∧ (b = true ↔ PtsFrom x 0) := by
  obtain ⟨b, hb, hg⟩ := points_sl x hn x.length (x.length + 1) 0 (by omega) (by omega) (by omega)
  refine ⟨b, fun k hk => ?_, fun k hk => ?_, hg⟩
  · obtain ⟨b', h, g⟩ := points_sl x hn x.length k 0 (by omega) (by omega) hk
    have e : b' = b := by rw [Bool.eq_iff_iff]; exact g.trans hg.symm
    subst e; exact h
  · obtain ⟨b', h, g⟩ := points_il x hn x.length k 0 (by omega) (by omega) hk
    have e : b' = b := by rw [Bool.eq_iff_iff]; exact g.trans hg.symm
    subst e; exact h
theorem FnExactPointsOk : laws_FnExactPointsOk.Pure := by
  intro l ⟨hl, _⟩
  have hl' : l.length ≤ 9223372036854775807 := hl
  refine ⟨l.length + 30, ?_⟩
  unfold laws_FnExactPointsOk.f laws_szPointS.f
  rw [w64 (by omega) (by omega)]
  by_cases h : (1048576 : Int) - (l.length : Int) < 0
  · rw [if_pos h]; rfl
  · rw [if_neg h, Option.bind_some, if_neg h]
    have ht := laws_toPointS_eq l (l.length + 30) (by omega) (by omega)
    have he := laws_eqPointS_eq (l.map conv) (l.length + 30) (by rw [List.length_map]; omega) (by rw [List.length_map]; omega)
    obtain ⟨b, hs, hi, _⟩ := points (l.map conv) (by rw [List.length_map]; omega)
    simp only [ht, Option.bind_some, hs (l.length + 30) (by rw [List.length_map]; omega), hi (l.length + 30) (by rw [List.length_map]; omega), bne_self_eq_false, Bool.false_eq_true, if_false, he, if_true]
end Go.Proofs.Ytoooikhkapaokaa.Pure.FnExactPointsOk
namespace Go.Proofs.Ytoooikhkapaokaa.Pure
theorem FnExactPointsOk : Go.Proofs.Ytoooikhkapaokaa.PFnExactPointsOk.laws_FnExactPointsOk.Pure := FnExactPointsOk.FnExactPointsOk
end Go.Proofs.Ytoooikhkapaokaa.Pure
