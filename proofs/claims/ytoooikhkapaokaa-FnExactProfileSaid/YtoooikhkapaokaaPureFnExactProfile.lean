/- For every list of Points, both slopes and first the program's Profile answers what the reference's answers, keeps nothing and writes nothing (FnExactProfile returns true); no condition. -/
import Derived.Test.YtoooikhkapaokaaAskFnExactProfile
import Derived.Test.YtoooikhkapaokaaNum
namespace Go.Proofs.Ytoooikhkapaokaa.Pure.FnExactProfile
open Go.RowKit Go.Proofs.Ytoooikhkapaokaa.PFnExactProfile Go.Proofs.YtoooikhkapaokaaW.PrintWords Go.Proofs.YtoooikhkapaokaaW.PrintLast Go.Proofs.YtoooikhkapaokaaW.PrintMore Go.Proofs.Ytoooikhkapaokaa.Num
set_option linter.unusedVariables false
set_option linter.unusedSimpArgs false
theorem in_s (a b c : Int) : spec_l1In.f a b c = some (decide (b ≤ a) && decide (a ≤ c)) := by
  unfold spec_l1In.f
  by_cases h : a ≥ b
  · rw [if_pos h, decide_eq_true (show b ≤ a from h)]; rfl
  · rw [if_neg h, decide_eq_false (show ¬ b ≤ a from h)]; rfl
theorem in_i (a b c : Int) : impl_in.f a b c = some (decide (b ≤ a) && decide (a ≤ c)) := by
  unfold impl_in.f
  by_cases h : a ≥ b
  · rw [if_pos h, decide_eq_true (show b ≤ a from h)]; rfl
  · rw [if_neg h, decide_eq_false (show ¬ b ≤ a from h)]; rfl
theorem min_s (a b : Int) : spec_l1Min.f a b = some (mn a b) := by
  unfold spec_l1Min.f mn
  by_cases h : a < b
  · rw [if_pos h, if_neg (by omega)]
  · rw [if_neg h]
    by_cases g : b < a
    · rw [if_pos g]
    · rw [if_neg g]; congr 1; omega
theorem max_s (a b : Int) : spec_l1Max.f a b = some (mx a b) := by
  unfold spec_l1Max.f mx
  by_cases h : a > b
  · rw [if_pos h, if_neg (by omega)]
  · rw [if_neg h]
    by_cases g : a < b
    · rw [if_pos g]
    · rw [if_neg g]; congr 1; omega
/-- From some count of rounds on it answers r. -/
def Ev {α : Type} (F : Nat → Option α) (r : α) : Prop := ∃ K, ∀ k, K ≤ k → F k = some r
theorem ev_step {α : Type} {F G : Nat → Option α} {r : α} (h : Ev G r) (e : ∀ k, F (k + 1) = G k) : Ev F r := by
  obtain ⟨K, h⟩ := h
  refine ⟨K + 1, fun k hk => ?_⟩
  obtain ⟨m, rfl⟩ : ∃ m, k = m + 1 := ⟨k - 1, by omega⟩
  rw [e m]; exact h m (by omega)
theorem ev_now {α : Type} {F : Nat → Option α} {r : α} (e : ∀ k, F (k + 1) = some r) : Ev F r :=
  ⟨1, fun k hk => by obtain ⟨m, rfl⟩ : ∃ m, k = m + 1 := ⟨k - 1, by omega⟩; exact e m⟩
theorem ev_const {α : Type} {o : Option α} {r : α} (e : o = some r) : Ev (fun _ => o) r := ⟨0, fun _ _ => e⟩
theorem ev_bind {α β : Type} {F : Nat → Option α} {G : Nat → α → Option β} {a : α} {r : β} (h : Ev F a) (g : Ev (fun k => G k a) r) : Ev (fun k => (F k).bind (G k)) r := by
  obtain ⟨K, h⟩ := h
  obtain ⟨L, g⟩ := g
  exact ⟨max K L, fun k hk => by show (F k).bind (G k) = _; rw [h k (by omega), Option.bind_some]; exact g k (by omega)⟩
theorem ev_cong {α : Type} {F G : Nat → Option α} {r : α} (h : Ev G r) (e : ∀ k, F k = G k) : Ev F r := by
  obtain ⟨K, h⟩ := h
  exact ⟨K, fun k hk => (e k).trans (h k hk)⟩
def conv (x : S51) : S41 := ⟨x.f0, x.f1, x.f2⟩
theorem laws_toPointS_l0 (x0 : List S51) (hn : x0.length ≤ 4611686018427387904) : ∀ (d k i : Nat) (x3 : List S41), x0.length - i = d → i ≤ x0.length → d < k → x3.length = x0.length → (∀ j, j < i → x3[j]? = (x0.map conv)[j]?) → laws_toPointS.l0 k x0 x3 (i : Int) = some (x0.map conv) := by
  intro d
  induction d with
  | zero =>
    intro k i x3 hd hi hk hl hj
    obtain ⟨k, rfl⟩ : ∃ m, k = m + 1 := ⟨k - 1, by omega⟩
    simp only [laws_toPointS.l0]
    rw [if_neg (by omega)]
    congr 1
    apply List.ext_getElem?
    intro j
    by_cases h : j < i
    · exact hj j h
    · rw [List.getElem?_eq_none (by omega), List.getElem?_eq_none (by simp; omega)]
  | succ d ih =>
    intro k i x3 hd hi hk hl hj
    obtain ⟨k, rfl⟩ : ∃ m, k = m + 1 := ⟨k - 1, by omega⟩
    have hlt : i < x0.length := by omega
    simp only [laws_toPointS.l0, laws_toPoint.f, Option.bind_some]
    rw [if_pos (by omega), if_pos (by omega), if_pos (by omega), w64 (a := (i : Int) + 1) (by omega) (by omega), show (i : Int) + 1 = ((i + 1 : Nat) : Int) by omega]
    refine ih k (i + 1) _ (by omega) (by omega) (by omega) (by simpa using hl) ?_
    intro j hj'
    have hr : rd_T51 x0 (i : Int) = x0[i] := by
      show x0.getD (i : Int).toNat z51 = _
      rw [Int.toNat_natCast, List.getD_eq_getElem?_getD, List.getElem?_eq_getElem hlt]; rfl
    simp only [Int.toNat_natCast, hr]
    by_cases e : j = i
    · subst e
      rw [List.getElem?_set_self (by omega), List.getElem?_map, List.getElem?_eq_getElem hlt]; rfl
    · rw [List.getElem?_set_ne (fun h => e h.symm)]
      exact hj j (by omega)
theorem laws_toPointS_eq (x0 : List S51) (k : Nat) (hn : x0.length ≤ 11728124029610) (hk : x0.length < k) : laws_toPointS.f k x0 = some (x0.map conv) := by
  unfold laws_toPointS.f
  rw [if_pos (by omega), if_pos (by rw [Int.toNat_natCast]; omega), Int.toNat_natCast]
  exact laws_toPointS_l0 x0 (by omega) x0.length k 0 _ (by omega) (by omega) hk (by simp) (fun j hj => by omega)

theorem laws_eqPointS_l0 (x0 : List S41) (hn : x0.length ≤ 4611686018427387904) : ∀ (d k i : Nat), x0.length - i = d → i ≤ x0.length → d < k → laws_eqPointS.l0 k x0 x0 (i : Int) = some true := by
  intro d
  induction d with
  | zero =>
    intro k i hd hi hk
    obtain ⟨k, rfl⟩ : ∃ m, k = m + 1 := ⟨k - 1, by omega⟩
    simp only [laws_eqPointS.l0]
    rw [if_neg (by omega)]
  | succ d ih =>
    intro k i hd hi hk
    obtain ⟨k, rfl⟩ : ∃ m, k = m + 1 := ⟨k - 1, by omega⟩
    simp only [laws_eqPointS.l0, laws_eqPoint.f, if_true, bne_self_eq_false, Bool.false_eq_true, if_false, Option.bind_some]
    rw [if_pos (by omega), if_pos (by omega), if_pos (by omega), w64 (a := (i : Int) + 1) (by omega) (by omega), show (i : Int) + 1 = ((i + 1 : Nat) : Int) by omega]
    exact ih k (i + 1) (by omega) (by omega) (by omega)
theorem laws_eqPointS_eq (x0 : List S41) (k : Nat) (hn : x0.length ≤ 4611686018427387904) (hk : x0.length < k) : laws_eqPointS.f k x0 x0 = some true := by
  unfold laws_eqPointS.f
  rw [if_pos rfl]
  exact laws_eqPointS_l0 x0 hn x0.length k 0 (by omega) (by omega) hk

theorem laws_markPointS_rs (x : List S41) (i : Nat) (v : S41) (h : i < x.length) : rd_T41 (x.set (i : Int).toNat v) (i : Int) = v := by
  show (x.set (i : Int).toNat v).getD (i : Int).toNat z41 = _
  rw [Int.toNat_natCast, List.getD_eq_getElem?_getD, List.getElem?_set_self h]; rfl
theorem laws_markPointS_l0 (m : Int) (n : Nat) (hm : 0 ≤ m) (hn : m + 3 * n ≤ 4611686018427387904) : ∀ (d k i : Nat) (x0 : List S41), x0.length = n → n - i = d → i ≤ n → d < k → (∀ j : Nat, j < i → x0[j]? = some (⟨m + 3 * (j : Int), m + 3 * (j : Int) + 1, m + 3 * (j : Int) + 1 + 1⟩ : S41)) → ∃ x, laws_markPointS.l0 k x0 (m + 3 * (i : Int)) (i : Int) = some (m + 3 * n, x) ∧ x.length = n ∧ ∀ j : Nat, j < n → x[j]? = some (⟨m + 3 * (j : Int), m + 3 * (j : Int) + 1, m + 3 * (j : Int) + 1 + 1⟩ : S41) := by
  intro d
  induction d with
  | zero =>
    intro k i x0 hl hd hi hk hj
    obtain ⟨k, rfl⟩ : ∃ m, k = m + 1 := ⟨k - 1, by omega⟩
    obtain rfl : i = n := by omega
    simp only [laws_markPointS.l0]
    rw [if_neg (by omega)]
    exact ⟨x0, rfl, hl, hj⟩
  | succ d ih =>
    intro k i x0 hl hd hi hk hj
    obtain ⟨k, rfl⟩ : ∃ m, k = m + 1 := ⟨k - 1, by omega⟩
    have hlt : i < x0.length := by omega
    have rs : ∀ v, rd_T41 (x0.set (i : Int).toNat v) (i : Int) = v := fun v => laws_markPointS_rs x0 i v hlt
    simp only [laws_markPointS.l0, Option.bind_some, rs, List.set_set]
    rw [if_pos (by omega), if_pos (by omega), w64 (a := (i : Int) + 1) (by omega) (by omega), w64 (a := m + 3 * (i : Int) + 1) (by omega) (by omega), w64 (a := m + 3 * (i : Int) + 1 + 1) (by omega) (by omega), w64 (a := m + 3 * (i : Int) + 1 + 1 + 1) (by omega) (by omega), show (i : Int) + 1 = ((i + 1 : Nat) : Int) by omega, show m + 3 * (i : Int) + 1 + 1 + 1 = m + 3 * ((i + 1 : Nat) : Int) by omega]
    refine ih k (i + 1) _ (by simpa using hl) (by omega) (by omega) (by omega) ?_
    intro j hj'
    rw [Int.toNat_natCast]
    by_cases e : j = i
    · subst e
      rw [List.getElem?_set_self (by omega)]
    · rw [List.getElem?_set_ne (fun h => e h.symm)]
      exact hj j (by omega)
theorem markedP (l : List S41) (m : Int) (hm : 0 ≤ m) (hn : m + 3 * l.length ≤ 4611686018427387904) : ∃ x, (∀ k, l.length < k → laws_markPointS.f k l m = some (m + 3 * l.length, x)) ∧ x.length = l.length := by
  have hz : m + 3 * ((0 : Nat) : Int) = m := by omega
  obtain ⟨x, h1, h2, h3⟩ := laws_markPointS_l0 m l.length hm hn l.length (l.length + 1) 0 l rfl (by omega) (by omega) (by omega) (fun j hj => by omega)
  refine ⟨x, fun k hk => ?_, h2⟩
  · obtain ⟨y, g1, g2, g3⟩ := laws_markPointS_l0 m l.length hm hn l.length k 0 l rfl (by omega) (by omega) hk (fun j hj => by omega)
    have e : y = x := by
      apply List.ext_getElem?
      intro j
      by_cases h : j < l.length
      · rw [g3 j h, h3 j h]
      · rw [List.getElem?_eq_none (by omega), List.getElem?_eq_none (by omega)]
    unfold laws_markPointS.f
    rw [hz] at g1
    rw [← e]; exact g1

theorem laws_eqIntS_l0 (x0 : List Int) (hn : x0.length ≤ 4611686018427387904) : ∀ (d k i : Nat), x0.length - i = d → i ≤ x0.length → d < k → laws_eqIntS.l0 k x0 x0 (i : Int) = some true := by
  intro d
  induction d with
  | zero =>
    intro k i hd hi hk
    obtain ⟨k, rfl⟩ : ∃ m, k = m + 1 := ⟨k - 1, by omega⟩
    simp only [laws_eqIntS.l0]
    rw [if_neg (by omega)]
  | succ d ih =>
    intro k i hd hi hk
    obtain ⟨k, rfl⟩ : ∃ m, k = m + 1 := ⟨k - 1, by omega⟩
    simp only [laws_eqIntS.l0]
    rw [if_pos (by omega), if_pos (by omega), if_pos (by omega), w64 (a := (i : Int) + 1) (by omega) (by omega), show (i : Int) + 1 = ((i + 1 : Nat) : Int) by omega]
    rw [if_pos trivial]
    exact ih k (i + 1) (by omega) (by omega) (by omega)
theorem laws_eqIntS_eq (x0 : List Int) (k : Nat) (hn : x0.length ≤ 4611686018427387904) (hk : x0.length < k) : laws_eqIntS.f k x0 x0 = some true := by
  unfold laws_eqIntS.f
  rw [if_pos rfl]
  exact laws_eqIntS_l0 x0 hn x0.length k 0 (by omega) (by omega) hk

theorem laws_markIntS_l0 (m : Int) (n : Nat) (hm : 0 ≤ m) (hn : m + n ≤ 4611686018427387904) : ∀ (d k i : Nat) (x0 : List Int), x0.length = n → n - i = d → i ≤ n → d < k → (∀ j, j < i → x0[j]? = some (m + (j : Int))) → ∃ x, laws_markIntS.l0 k x0 (m + i) (i : Int) = some (m + n, x) ∧ x.length = n ∧ ∀ j, j < n → x[j]? = some (m + (j : Int)) := by
  intro d
  induction d with
  | zero =>
    intro k i x0 hl hd hi hk hj
    obtain ⟨k, rfl⟩ : ∃ m, k = m + 1 := ⟨k - 1, by omega⟩
    obtain rfl : i = n := by omega
    simp only [laws_markIntS.l0]
    rw [if_neg (by omega)]
    exact ⟨x0, rfl, hl, hj⟩
  | succ d ih =>
    intro k i x0 hl hd hi hk hj
    obtain ⟨k, rfl⟩ : ∃ m, k = m + 1 := ⟨k - 1, by omega⟩
    simp only [laws_markIntS.l0]
    rw [if_pos (by omega), if_pos (by omega), w64 (a := (i : Int) + 1) (by omega) (by omega), w64 (a := m + (i : Int) + 1) (by omega) (by omega), show (i : Int) + 1 = ((i + 1 : Nat) : Int) by omega, show m + (i : Int) + 1 = m + ((i + 1 : Nat) : Int) by omega]
    refine ih k (i + 1) _ (by simpa using hl) (by omega) (by omega) (by omega) ?_
    intro j hj'
    rw [Int.toNat_natCast]
    by_cases e : j = i
    · subst e
      rw [List.getElem?_set_self (by omega)]
    · rw [List.getElem?_set_ne (fun h => e h.symm)]
      exact hj j (by omega)
theorem laws_heldIntS_l0 (m : Int) (n : Nat) (hm : 0 ≤ m) (hn : m + n ≤ 4611686018427387904) (x : List Int) (hl : x.length = n) (hx : ∀ j, j < n → x[j]? = some (m + (j : Int))) : ∀ (d k i : Nat), n - i = d → i ≤ n → d < k → laws_heldIntS.l0 k x (m + i) (i : Int) = some (m + n) := by
  intro d
  induction d with
  | zero =>
    intro k i hd hi hk
    obtain ⟨k, rfl⟩ : ∃ m, k = m + 1 := ⟨k - 1, by omega⟩
    obtain rfl : i = n := by omega
    simp only [laws_heldIntS.l0]
    rw [if_neg (by omega)]
  | succ d ih =>
    intro k i hd hi hk
    obtain ⟨k, rfl⟩ : ∃ m, k = m + 1 := ⟨k - 1, by omega⟩
    simp only [laws_heldIntS.l0]
    have hr : rd x (i : Int) = (m + (i : Int)) := by
      show x.getD (i : Int).toNat 0 = _
      rw [Int.toNat_natCast, List.getD_eq_getElem?_getD, hx i (by omega)]; rfl
    rw [if_pos (by omega), if_pos (by omega), if_pos hr, w64 (a := (i : Int) + 1) (by omega) (by omega), w64 (a := m + (i : Int) + 1) (by omega) (by omega), show (i : Int) + 1 = ((i + 1 : Nat) : Int) by omega, show m + (i : Int) + 1 = m + ((i + 1 : Nat) : Int) by omega]
    exact ih k (i + 1) (by omega) (by omega) (by omega)
theorem mark_int (l : List Int) (m : Int) (hm : 0 ≤ m) (hn : m + l.length ≤ 4611686018427387904) (k : Nat) (hk : l.length < k) : ∃ x, laws_markIntS.f k l m = some (m + l.length, x) ∧ x.length = l.length ∧ ∀ k', l.length < k' → laws_heldIntS.f k' x m = some (m + l.length) := by
  obtain ⟨x, h1, h2, h3⟩ := laws_markIntS_l0 m l.length hm hn l.length k 0 l rfl (by omega) (by omega) hk (fun j hj => by omega)
  refine ⟨x, ?_, h2, fun k' hk' => ?_⟩
  · unfold laws_markIntS.f
    have := h1
    rwa [show m + ((0 : Nat) : Int) = m by omega] at this
  · unfold laws_heldIntS.f
    have := laws_heldIntS_l0 m l.length hm hn x h2 h3 l.length k' 0 (by omega) (by omega) hk'
    rwa [show m + ((0 : Nat) : Int) = m by omega] at this

theorem rdp (l : List S41) (i : Nat) (h : i < l.length) : rd_T41 l (i : Int) = l[i] := by
  show l.getD (i : Int).toNat z41 = _
  rw [Int.toNat_natCast, List.getD_eq_getElem?_getD, List.getElem?_eq_getElem h]; rfl
/-- The point at i is right, beside the one before it. -/
def PtOk (x : List S41) (i : Nat) : Prop := (0 ≤ (rd_T41 x i).f0 ∧ (rd_T41 x i).f0 ≤ 100000) ∧ (0 ≤ (rd_T41 x i).f1 ∧ (rd_T41 x i).f1 ≤ (rd_T41 x i).f2) ∧ (rd_T41 x i).f2 ≤ 100000 ∧ (0 < i → (rd_T41 x ((i : Int) - 1)).f0 < (rd_T41 x i).f0)
def PtsFrom (x : List S41) (i : Nat) : Prop := (∀ j, i ≤ j → j < x.length → PtOk x j) ∧ 1 ≤ x.length ∧ x.length ≤ 30
theorem pts_here {x : List S41} {i : Nat} (h : i < x.length) : PtsFrom x i ↔ PtOk x i ∧ PtsFrom x (i + 1) :=
  ⟨fun g => ⟨g.1 i (by omega) h, ⟨fun j h1 h2 => g.1 j (by omega) h2, g.2⟩⟩,
   fun g => ⟨fun j h1 h2 => by by_cases e : j = i; · subst e; exact g.1
                               · exact g.2.1 j (by omega) h2, g.2.2⟩⟩
theorem pts_end {x : List S41} {i : Nat} (h : ¬ i < x.length) : PtsFrom x i ↔ 1 ≤ x.length ∧ x.length ≤ 30 :=
  ⟨fun g => g.2, fun g => ⟨fun j h1 h2 => by omega, g⟩⟩
theorem pts_not {x : List S41} {i : Nat} (h : i < x.length) (g : ¬ PtOk x i) : ∃ b, some false = some b ∧ (b = true ↔ PtsFrom x i) :=
  ⟨false, rfl, fun e => absurd e Bool.false_ne_true, fun e => absurd (e.1 i (by omega) h) g⟩
theorem points_sl (x : List S41) (hn : x.length ≤ 4611686018427387904) : ∀ (d k i : Nat), x.length - i = d → i ≤ x.length → d < k → ∃ b, spec_PointsOk.l0 k x (i : Int) = some b ∧ (b = true ↔ PtsFrom x i) := by
  intro d
  induction d with
  | zero =>
    intro k i hd hi hk
    obtain ⟨k, rfl⟩ : ∃ m, k = m + 1 := ⟨k - 1, by omega⟩
    simp only [spec_PointsOk.l0]
    rw [if_neg (by omega), in_s, Option.bind_some]
    refine ⟨_, rfl, Iff.trans ?_ (pts_end (by omega)).symm⟩
    rw [Bool.and_eq_true, decide_eq_true_eq, decide_eq_true_eq]; omega
  | succ d ih =>
    intro k i hd hi hk
    obtain ⟨k, rfl⟩ : ∃ m, k = m + 1 := ⟨k - 1, by omega⟩
    have hlt : i < x.length := by omega
    obtain ⟨b, hb, hbg⟩ := ih k (i + 1) (by omega) (by omega) (by omega)
    simp only [spec_PointsOk.l0, in_s, Option.bind_some]
    rw [if_pos (by omega), if_pos (by omega), w64 (a := (i : Int) + 1) (by omega) (by omega), show (i : Int) + 1 = ((i + 1 : Nat) : Int) by omega, ← Bool.decide_and, ← Bool.decide_and, hb]
    by_cases h1 : 0 ≤ (rd_T41 x i).f0 ∧ (rd_T41 x i).f0 ≤ 100000
    · rw [if_pos (decide_eq_true h1)]
      by_cases h2 : 0 ≤ (rd_T41 x i).f1 ∧ (rd_T41 x i).f1 ≤ (rd_T41 x i).f2
      · rw [if_pos (decide_eq_true h2)]
        by_cases h3 : (rd_T41 x i).f2 > 100000
        · rw [if_pos h3]; exact pts_not hlt fun g => by have := g.2.2.1; omega
        · rw [if_neg h3]
          by_cases h4 : (i : Int) > 0
          · rw [if_pos h4, w64 (a := (i : Int) - 1) (by omega) (by omega), if_pos (by omega), if_pos (by omega)]
            by_cases h5 : (rd_T41 x ((i : Int) - 1)).f0 ≥ (rd_T41 x i).f0
            · rw [if_pos h5]; exact pts_not hlt fun g => by have := g.2.2.2 (by omega); omega
            · rw [if_neg h5]; exact ⟨b, rfl, hbg.trans ⟨fun g => (pts_here hlt).2 ⟨⟨h1, h2, by omega, fun _ => by omega⟩, g⟩, fun g => ((pts_here hlt).1 g).2⟩⟩
          · rw [if_neg h4]
            exact ⟨b, rfl, hbg.trans ⟨fun g => (pts_here hlt).2 ⟨⟨h1, h2, by omega, fun _ => by omega⟩, g⟩, fun g => ((pts_here hlt).1 g).2⟩⟩
      · rw [if_neg (by rw [decide_eq_false h2]; exact Bool.false_ne_true)]; exact pts_not hlt fun g => h2 g.2.1
    · rw [if_neg (by rw [decide_eq_false h1]; exact Bool.false_ne_true)]; exact pts_not hlt fun g => h1 g.1
theorem points_il (x : List S41) (hn : x.length ≤ 4611686018427387904) : ∀ (d k i : Nat), x.length - i = d → i ≤ x.length → d < k → ∃ b, impl_PointsOk.l0 k x x (x.length : Int) (i : Int) = some b ∧ (b = true ↔ PtsFrom x i) := by
  intro d
  induction d with
  | zero =>
    intro k i hd hi hk
    obtain ⟨k, rfl⟩ : ∃ m, k = m + 1 := ⟨k - 1, by omega⟩
    simp only [impl_PointsOk.l0]
    rw [if_neg (by omega), in_i, Option.bind_some]
    refine ⟨_, rfl, Iff.trans ?_ (pts_end (by omega)).symm⟩
    rw [Bool.and_eq_true, decide_eq_true_eq, decide_eq_true_eq]; omega
  | succ d ih =>
    intro k i hd hi hk
    obtain ⟨k, rfl⟩ : ∃ m, k = m + 1 := ⟨k - 1, by omega⟩
    have hlt : i < x.length := by omega
    obtain ⟨b, hb, hbg⟩ := ih k (i + 1) (by omega) (by omega) (by omega)
    have tail : (0 ≤ (rd_T41 x i).f0 ∧ (rd_T41 x i).f0 ≤ 100000) → (0 < i → (rd_T41 x ((i : Int) - 1)).f0 < (rd_T41 x i).f0) → ∃ b', (if ((rd_T41 x i).f1) < 0 then (some false) else (if ((rd_T41 x i).f1) > ((rd_T41 x i).f2) then (some false) else (if ((rd_T41 x i).f2) > 100000 then (some false) else some b))) = some b' ∧ (b' = true ↔ PtsFrom x i) := by
      intro h1 h5
      by_cases c1 : (rd_T41 x i).f1 < 0
      · rw [if_pos c1]; exact pts_not hlt fun g => by have := g.2.1; omega
      · rw [if_neg c1]
        by_cases c2 : (rd_T41 x i).f1 > (rd_T41 x i).f2
        · rw [if_pos c2]; exact pts_not hlt fun g => by have := g.2.1; omega
        · rw [if_neg c2]
          by_cases c3 : (rd_T41 x i).f2 > 100000
          · rw [if_pos c3]; exact pts_not hlt fun g => by have := g.2.2.1; omega
          · rw [if_neg c3]; exact ⟨b, rfl, hbg.trans ⟨fun g => (pts_here hlt).2 ⟨⟨h1, ⟨by omega, by omega⟩, by omega, h5⟩, g⟩, fun g => ((pts_here hlt).1 g).2⟩⟩
    simp only [impl_PointsOk.l0, in_i, Option.bind_some]
    rw [if_pos (by omega), if_pos (by omega), if_pos (by omega), w64 (a := (i : Int) + 1) (by omega) (by omega), show (i : Int) + 1 = ((i + 1 : Nat) : Int) by omega, ← Bool.decide_and, hb]
    by_cases h1 : 0 ≤ (rd_T41 x i).f0 ∧ (rd_T41 x i).f0 ≤ 100000
    · rw [if_pos (decide_eq_true h1)]
      by_cases h4 : (i : Int) > 0
      · rw [if_pos h4, w64 (a := (i : Int) - 1) (by omega) (by omega), if_pos (by omega), if_pos (by omega)]
        by_cases h5 : (rd_T41 x ((i : Int) - 1)).f0 ≥ (rd_T41 x i).f0
        · rw [if_pos h5]; exact pts_not hlt fun g => by have := g.2.2.2 (by omega); omega
        · rw [if_neg h5]; exact tail h1 fun _ => by omega
      · rw [if_neg h4]; exact tail h1 fun _ => by omega
    · rw [if_neg (by rw [decide_eq_false h1]; exact Bool.false_ne_true)]; exact pts_not hlt fun g => h1 g.1
theorem points (x : List S41) (hn : x.length ≤ 4611686018427387904) : ∃ b, (∀ k, x.length < k → spec_PointsOk.f k x = some b) ∧ (∀ k, x.length < k → impl_PointsOk.f k x = some b) ∧ (b = true ↔ PtsFrom x 0) := by
  obtain ⟨b, hb, hg⟩ := points_sl x hn x.length (x.length + 1) 0 (by omega) (by omega) (by omega)
  refine ⟨b, fun k hk => ?_, fun k hk => ?_, hg⟩
  · obtain ⟨b', h, g⟩ := points_sl x hn x.length k 0 (by omega) (by omega) hk
    have e : b' = b := by rw [Bool.eq_iff_iff]; exact g.trans hg.symm
    subst e; exact h
  · obtain ⟨b', h, g⟩ := points_il x hn x.length k 0 (by omega) (by omega) hk
    have e : b' = b := by rw [Bool.eq_iff_iff]; exact g.trans hg.symm
    subst e; exact h
/-- The point ahead of q, held to what a way on to q allows. -/
def bkS (u v : Int) (q p : S41) : S41 := ⟨p.f0, mx p.f1 (wrap64 (q.f1 - wrap64 (u * wrap64 (q.f0 - p.f0)))), mn p.f2 (wrap64 (q.f2 + wrap64 (v * wrap64 (q.f0 - p.f0))))⟩
def bk (u v : Int) : Nat → List S41 → Option (List S41)
  | 0, x => some x
  | n + 1, x => if (bkS u v (rd_T41 x ((n + 1 : Nat) : Int)) (rd_T41 x (n : Int))).f1 > (bkS u v (rd_T41 x ((n + 1 : Nat) : Int)) (rd_T41 x (n : Int))).f2 then none else bk u v n (x.set n (bkS u v (rd_T41 x ((n + 1 : Nat) : Int)) (rd_T41 x (n : Int))))
theorem bk_pos {u v : Int} {n : Nat} {x : List S41} (h : (bkS u v (rd_T41 x ((n + 1 : Nat) : Int)) (rd_T41 x (n : Int))).f1 > (bkS u v (rd_T41 x ((n + 1 : Nat) : Int)) (rd_T41 x (n : Int))).f2) : bk u v (n + 1) x = none := by
  simp only [bk]; rw [if_pos h]
theorem bk_neg {u v : Int} {n : Nat} {x : List S41} (h : ¬ (bkS u v (rd_T41 x ((n + 1 : Nat) : Int)) (rd_T41 x (n : Int))).f1 > (bkS u v (rd_T41 x ((n + 1 : Nat) : Int)) (rd_T41 x (n : Int))).f2) : bk u v (n + 1) x = bk u v n (x.set n (bkS u v (rd_T41 x ((n + 1 : Nat) : Int)) (rd_T41 x (n : Int)))) := by
  simp only [bk]; rw [if_neg h]
theorem rds_eq (x : List S41) (i : Nat) (v : S41) (h : i < x.length) : rd_T41 (x.set i v) (i : Int) = v := by
  show (x.set i v).getD (i : Int).toNat z41 = _
  rw [Int.toNat_natCast, List.getD_eq_getElem?_getD, List.getElem?_set_self h]; rfl
theorem rds_ne (x : List S41) (i j : Nat) (v : S41) (h : j ≠ i) : rd_T41 (x.set i v) (j : Int) = rd_T41 x (j : Int) := by
  show (x.set i v).getD (j : Int).toNat z41 = x.getD (j : Int).toNat z41
  rw [Int.toNat_natCast, List.getD_eq_getElem?_getD, List.getD_eq_getElem?_getD, List.getElem?_set_ne (fun e => h e.symm)]
theorem onward_l (u v : Int) : ∀ (n k : Nat) (x : List S41), n + 1 ≤ x.length → x.length ≤ 4611686018427387904 → n < k → impl_onward.l0 k u v x ((n : Int) - 1) = some (match bk u v n x with | some y => (y, true) | none => ([], false)) := by
  intro n
  induction n with
  | zero =>
    intro k x hn hx hk
    obtain ⟨k, rfl⟩ : ∃ m, k = m + 1 := ⟨k - 1, by omega⟩
    simp only [impl_onward.l0]
    rw [if_neg (by omega)]; rfl
  | succ n ih =>
    intro k x hn hx hk
    obtain ⟨k, rfl⟩ : ∃ m, k = m + 1 := ⟨k - 1, by omega⟩
    rw [show (((n + 1 : Nat) : Int) - 1) = (n : Int) by omega]
    have w1 : wrap64 ((n : Int) + 1) = ((n + 1 : Nat) : Int) := by rw [w64 (by omega) (by omega)]; omega
    have w2 : wrap64 ((n : Int) - 1) = (n : Int) - 1 := w64 (by omega) (by omega)
    have rs : ∀ v, rd_T41 (x.set n v) (n : Int) = v := fun v => rds_eq x n v (by omega)
    simp only [impl_onward.l0, w1, w2, Option.bind_some, Int.toNat_natCast, rs, List.set_set]
    rw [if_pos (by omega), if_pos (by omega), if_pos (by omega), if_pos (by omega), if_pos (by omega)]
    by_cases hc : (bkS u v (rd_T41 x ((n + 1 : Nat) : Int)) (rd_T41 x (n : Int))).f1 > (bkS u v (rd_T41 x ((n + 1 : Nat) : Int)) (rd_T41 x (n : Int))).f2
    · rw [bk_pos hc]
      simp only [bkS] at hc ⊢
      rw [if_pos hc]
    · rw [bk_neg hc]
      have := ih k (x.set n (bkS u v (rd_T41 x ((n + 1 : Nat) : Int)) (rd_T41 x (n : Int)))) (by simp; omega) (by simp; omega) (by omega)
      simp only [bkS] at hc this ⊢
      rw [if_neg hc]
      exact this
theorem bk_facts (u v : Int) : ∀ (n : Nat) (x y : List S41), n + 1 ≤ x.length → bk u v n x = some y → y.length = x.length ∧ (∀ j : Nat, (rd_T41 y j).f0 = (rd_T41 x j).f0 ∧ (rd_T41 x j).f1 ≤ (rd_T41 y j).f1 ∧ (rd_T41 y j).f2 ≤ (rd_T41 x j).f2) ∧ (∀ j : Nat, n ≤ j → rd_T41 y j = rd_T41 x j) ∧ (∀ j : Nat, j < n → (rd_T41 y j).f1 ≤ (rd_T41 y j).f2 ∧ rd_T41 y j = bkS u v (rd_T41 y ((j + 1 : Nat) : Int)) (rd_T41 x j)) := by
  intro n
  induction n with
  | zero =>
    intro x y hn h
    obtain rfl := Option.some.inj h
    exact ⟨rfl, fun j => ⟨rfl, Int.le_refl _, Int.le_refl _⟩, fun j _ => rfl, fun j h => absurd h (Nat.not_lt_zero _)⟩
  | succ n ih =>
    intro x y hn h
    simp only [bk] at h
    split at h
    · cases h
    · rename_i hc
      obtain ⟨h1, h2, h3, h4⟩ := ih _ y (by simp; omega) h
      have hs := rds_eq x n (bkS u v (rd_T41 x ((n + 1 : Nat) : Int)) (rd_T41 x (n : Int))) (by omega)
      have hy : rd_T41 y (n : Int) = bkS u v (rd_T41 x ((n + 1 : Nat) : Int)) (rd_T41 x (n : Int)) := (h3 n (by omega)).trans hs
      have hn1 : rd_T41 y ((n + 1 : Nat) : Int) = rd_T41 x ((n + 1 : Nat) : Int) := (h3 (n + 1) (by omega)).trans (rds_ne x n (n + 1) _ (by omega))
      refine ⟨h1.trans (by simp), fun j => ?_, fun j hj => (h3 j (by omega)).trans (rds_ne x n j _ (by omega)), fun j hj => ?_⟩
      · by_cases e : j = n
        · subst e
          rw [hy]
          refine ⟨rfl, ?_, ?_⟩
          · simp only [bkS]; unfold mx; split <;> omega
          · simp only [bkS]; unfold mn; split <;> omega
        · have := h2 j
          rw [rds_ne x n j _ e] at this
          exact this
      · by_cases e : j = n
        · subst e
          rw [hn1, hy]
          exact ⟨by omega, rfl⟩
        · have := h4 j (by omega)
          rw [rds_ne x n j _ e] at this
          exact this
/-- A step of a way: held to the point, and to what the slopes allow. -/
def wst (u v : Int) (p q : S41) (now : Int) : Int := mx (mn now (mn q.f2 (wrap64 (now + wrap64 (u * wrap64 (q.f0 - p.f0)))))) (mx q.f1 (wrap64 (now - wrap64 (v * wrap64 (q.f0 - p.f0)))))
def wy (u v : Int) (B : List S41) : Nat → List Int → List Int
  | 0, a => a
  | d + 1, a => wy u v B d (a ++ [wst u v (rd_T41 B ((a.length - 1 : Nat) : Int)) (rd_T41 B (a.length : Int)) (rd a ((a.length - 1 : Nat) : Int))])
theorem rdi_app (l : List Int) (v : Int) (i : Nat) (h : i < l.length) : rd (l ++ [v]) (i : Int) = rd l (i : Int) := by
  show (l ++ [v]).getD (i : Int).toNat 0 = l.getD (i : Int).toNat 0
  rw [Int.toNat_natCast, List.getD_eq_getElem?_getD, List.getD_eq_getElem?_getD, List.getElem?_append_left h]
theorem rdi_end (l : List Int) (v : Int) : rd (l ++ [v]) (l.length : Int) = v := by
  show (l ++ [v]).getD (l.length : Int).toNat 0 = _
  rw [Int.toNat_natCast, List.getD_eq_getElem?_getD, List.getElem?_append_right (Nat.le_refl _), Nat.sub_self]; rfl
theorem profile_l (u v : Int) (B : List S41) (hB : B.length ≤ 30) : ∀ (d k : Nat) (a : List Int), B.length - a.length = d → 1 ≤ a.length → a.length ≤ B.length → d < k → impl_profile.l0 k B u v a (a.length : Int) = some (wy u v B d a) := by
  intro d
  induction d with
  | zero =>
    intro k a hd h1 h2 hk
    obtain ⟨k, rfl⟩ : ∃ m, k = m + 1 := ⟨k - 1, by omega⟩
    simp only [impl_profile.l0]
    rw [if_neg (by omega)]; rfl
  | succ d ih =>
    intro k a hd h1 h2 hk
    obtain ⟨k, rfl⟩ : ∃ m, k = m + 1 := ⟨k - 1, by omega⟩
    have w1 : wrap64 ((a.length : Int) - 1) = ((a.length - 1 : Nat) : Int) := by rw [w64 (by omega) (by omega)]; omega
    have w2 : wrap64 ((a.length : Int) + 1) = ((a.length + 1 : Nat) : Int) := by rw [w64 (by omega) (by omega)]; omega
    simp only [impl_profile.l0, impl_held.f, Option.bind_some, w1, w2]
    rw [if_pos (by omega), if_pos (by omega), if_pos (by omega), if_pos (by omega), if_pos (by omega), if_pos (by omega)]
    have := ih k (a ++ [wst u v (rd_T41 B ((a.length - 1 : Nat) : Int)) (rd_T41 B (a.length : Int)) (rd a ((a.length - 1 : Nat) : Int))]) (by simp; omega) (by simp) (by simp; omega) (by omega)
    rw [List.length_append] at this
    exact this
theorem wy_facts (u v : Int) (B : List S41) (hu : 0 ≤ u ∧ u ≤ 1000) (hv : 0 ≤ v ∧ v ≤ 1000) (hb : ∀ j : Nat, j < B.length → (0 ≤ (rd_T41 B j).f0 ∧ (rd_T41 B j).f0 ≤ 100000) ∧ (0 ≤ (rd_T41 B j).f1 ∧ (rd_T41 B j).f1 ≤ (rd_T41 B j).f2 ∧ (rd_T41 B j).f2 ≤ 100000) ∧ (0 < j → (rd_T41 B ((j - 1 : Nat) : Int)).f0 < (rd_T41 B j).f0)) : ∀ (d : Nat) (a : List Int), B.length - a.length = d → 1 ≤ a.length → a.length ≤ B.length → (∀ j : Nat, j < a.length → 0 ≤ rd a j ∧ rd a j ≤ 100000) → (wy u v B d a).length = B.length ∧ (∀ j : Nat, j < B.length → 0 ≤ rd (wy u v B d a) j ∧ rd (wy u v B d a) j ≤ 100000) ∧ (∀ j : Nat, j < a.length → rd (wy u v B d a) j = rd a j) ∧ (∀ j : Nat, a.length ≤ j → j < B.length → rd (wy u v B d a) j = wst u v (rd_T41 B ((j - 1 : Nat) : Int)) (rd_T41 B (j : Int)) (rd (wy u v B d a) ((j - 1 : Nat) : Int))) := by
  intro d
  induction d with
  | zero =>
    intro a hd h1 h2 ha
    have e : a.length = B.length := by omega
    exact ⟨e, fun j hj => ha j (by omega), fun j _ => rfl, fun j g1 g2 => by omega⟩
  | succ d ih =>
    intro a hd h1 h2 ha
    obtain ⟨t, ht⟩ : ∃ t, wst u v (rd_T41 B ((a.length - 1 : Nat) : Int)) (rd_T41 B (a.length : Int)) (rd a ((a.length - 1 : Nat) : Int)) = t := ⟨_, rfl⟩
    have htb : 0 ≤ t ∧ t ≤ 100000 := by
      have hp := hb (a.length - 1) (by omega)
      have hq := hb a.length (by omega)
      have hn := ha (a.length - 1) (by omega)
      have hlt := hq.2.2 (by omega)
      generalize rd_T41 B ((a.length - 1 : Nat) : Int) = p at *
      generalize rd_T41 B (a.length : Int) = q at *
      generalize rd a ((a.length - 1 : Nat) : Int) = now at *
      have m1 := abs_mul (x := u) (y := q.f0 - p.f0) (A := 1000) (B := 100000) (by omega) (by omega) (by omega) (by omega)
      have m2 := abs_mul (x := v) (y := q.f0 - p.f0) (A := 1000) (B := 100000) (by omega) (by omega) (by omega) (by omega)
      have n1 := Int.mul_nonneg hu.1 (show 0 ≤ q.f0 - p.f0 by omega)
      have n2 := Int.mul_nonneg hv.1 (show 0 ≤ q.f0 - p.f0 by omega)
      rw [← ht]
      unfold wst
      rw [w64 (a := q.f0 - p.f0) (by omega) (by omega), w64 (a := u * (q.f0 - p.f0)) (by omega) (by omega), w64 (a := v * (q.f0 - p.f0)) (by omega) (by omega), w64 (a := now + u * (q.f0 - p.f0)) (by omega) (by omega), w64 (a := now - v * (q.f0 - p.f0)) (by omega) (by omega)]
      generalize u * (q.f0 - p.f0) = U at *
      generalize v * (q.f0 - p.f0) = V at *
      unfold mx mn
      obtain ⟨_, ⟨_, _, _⟩, _⟩ := hq
      repeat' split
      all_goals omega
    obtain ⟨g1, g2, g3, g4⟩ := ih (a ++ [t]) (by simp; omega) (by simp) (by simp; omega) (fun j hj => by
      rw [List.length_append] at hj
      by_cases e : j < a.length
      · rw [rdi_app _ _ _ e]; exact ha j e
      · obtain rfl : j = a.length := by simp at hj; omega
        rw [rdi_end]; exact htb)
    have ew : wy u v B (d + 1) a = wy u v B d (a ++ [t]) := by rw [← ht]; rfl
    rw [ew]
    refine ⟨g1, g2, fun j hj => (g3 j (by simp; omega)).trans (rdi_app _ _ _ hj), fun j h3 h4 => ?_⟩
    by_cases e : j = a.length
    · subst e
      rw [g3 a.length (by simp), rdi_end, g3 (a.length - 1) (by simp; omega), rdi_app _ _ _ (by omega), ht]
    · exact g4 j (by simp; omega) h4
theorem back_l (u v : Int) (x0 : List S41) : ∀ (n k : Nat) (x : List S41), n + 1 ≤ x.length → x.length ≤ 4611686018427387904 → x0.length = x.length → (∀ j : Nat, (rd_T41 x j).f0 = (rd_T41 x0 j).f0) → (∀ j : Nat, j < n → rd_T41 x j = rd_T41 x0 j) → n < k → ∃ z, spec_l13Back.l0 k x0 u v x ((n : Int) - 1) = some (match bk u v n x with | some y => (y, true) | none => (z, false)) := by
  intro n
  induction n with
  | zero =>
    intro k x hn hx h0 hf hj hk
    obtain ⟨k, rfl⟩ : ∃ m, k = m + 1 := ⟨k - 1, by omega⟩
    simp only [spec_l13Back.l0]
    rw [if_neg (by omega)]; exact ⟨[], rfl⟩
  | succ n ih =>
    intro k x hn hx h0 hf hj hk
    obtain ⟨k, rfl⟩ : ∃ m, k = m + 1 := ⟨k - 1, by omega⟩
    rw [show (((n + 1 : Nat) : Int) - 1) = (n : Int) by omega]
    have w1 : wrap64 ((n : Int) + 1) = ((n + 1 : Nat) : Int) := by rw [w64 (by omega) (by omega)]; omega
    have w2 : wrap64 ((n : Int) - 1) = (n : Int) - 1 := w64 (by omega) (by omega)
    have rs : ∀ v, rd_T41 (x.set n v) (n : Int) = v := fun v => rds_eq x n v (by omega)
    have rn : ∀ v, rd_T41 (x.set n v) ((n + 1 : Nat) : Int) = rd_T41 x ((n + 1 : Nat) : Int) := fun v => rds_ne x n (n + 1) v (by omega)
    simp only [spec_l13Back.l0, w1, w2, max_s, min_s, Option.bind_some, Int.toNat_natCast, rs, rn, List.set_set, ← hj n (by omega), ← hf (n + 1)]
    rw [if_pos (by omega), if_pos (by omega), if_pos (by omega), if_pos (by omega), if_pos (by omega), if_pos (by omega), if_pos (by omega)]
    by_cases hc : (bkS u v (rd_T41 x ((n + 1 : Nat) : Int)) (rd_T41 x (n : Int))).f1 > (bkS u v (rd_T41 x ((n + 1 : Nat) : Int)) (rd_T41 x (n : Int))).f2
    · rw [bk_pos hc]
      simp only [bkS] at hc ⊢
      rw [if_pos hc]
      exact ⟨_, rfl⟩
    · rw [bk_neg hc]
      have := ih k (x.set n (bkS u v (rd_T41 x ((n + 1 : Nat) : Int)) (rd_T41 x (n : Int)))) (by simp; omega) (by simp; omega) (by simp; omega) (fun j => ?_) (fun j hj' => ?_) (by omega)
      · simp only [bkS] at hc this ⊢
        rw [if_neg hc]
        exact this
      · by_cases e : j = n
        · subst e; rw [rs]; exact hf j
        · rw [rds_ne x n j _ e]; exact hf j
      · rw [rds_ne x n j _ (by omega)]; exact hj j (by omega)
theorem profile_sl (u v : Int) (x0 B : List S41) (hB : B.length ≤ 30) (h0 : x0.length = B.length) (hf : ∀ j : Nat, (rd_T41 B j).f0 = (rd_T41 x0 j).f0) : ∀ (d k : Nat) (a : List Int), B.length - a.length = d → 1 ≤ a.length → a.length ≤ B.length → d < k → spec_Profile.l0 k x0 u v B a (a.length : Int) = some (wy u v B d a, true) := by
  intro d
  induction d with
  | zero =>
    intro k a hd h1 h2 hk
    obtain ⟨k, rfl⟩ : ∃ m, k = m + 1 := ⟨k - 1, by omega⟩
    simp only [spec_Profile.l0]
    rw [if_neg (by omega)]; rfl
  | succ d ih =>
    intro k a hd h1 h2 hk
    obtain ⟨k, rfl⟩ : ∃ m, k = m + 1 := ⟨k - 1, by omega⟩
    have w1 : wrap64 ((a.length : Int) - 1) = ((a.length - 1 : Nat) : Int) := by rw [w64 (by omega) (by omega)]; omega
    have w2 : wrap64 ((a.length : Int) + 1) = ((a.length + 1 : Nat) : Int) := by rw [w64 (by omega) (by omega)]; omega
    have hcm : ∀ a b c : Int, mx a (mn b c) = mx (mn c b) a := by
      intro a b c; unfold mx mn; repeat' split
      all_goals omega
    simp only [spec_Profile.l0, max_s, min_s, Option.bind_some, w1, w2, ← hf, hcm]
    rw [if_pos (by omega), if_pos (by omega), if_pos (by omega), if_pos (by omega), if_pos (by omega), if_pos (by omega), if_pos (by omega)]
    have := ih k (a ++ [wst u v (rd_T41 B ((a.length - 1 : Nat) : Int)) (rd_T41 B (a.length : Int)) (rd a ((a.length - 1 : Nat) : Int))]) (by simp; omega) (by simp) (by simp; omega) (by omega)
    rw [List.length_append] at this
    exact this
/-- What Profile tells of right points. -/
def profR (u v : Int) (x : List S41) (h : Int) : List Int × Bool :=
  if (0 ≤ u ∧ u ≤ 1000) ∧ (0 ≤ v ∧ v ≤ 1000) then
    match bk u v (x.length - 1) x with
    | none => ([], false)
    | some B => if (rd_T41 B 0).f1 ≤ h ∧ h ≤ (rd_T41 B 0).f2 then (wy u v B (B.length - 1) [h], true) else ([], false)
  else ([], false)
theorem slopes_s (u v : Int) : spec_l13Slopes.f u v = some (decide ((0 ≤ u ∧ u ≤ 1000) ∧ (0 ≤ v ∧ v ≤ 1000))) := by
  unfold spec_l13Slopes.f
  rw [in_s, in_s, ← Bool.decide_and, ← Bool.decide_and, Option.bind_some]
  by_cases h : 0 ≤ u ∧ u ≤ 1000
  · rw [decide_eq_true h, if_pos rfl, Option.bind_some]
    congr 1
    by_cases g : 0 ≤ v ∧ v ≤ 1000
    · rw [decide_eq_true g, decide_eq_true ⟨h, g⟩]
    · rw [decide_eq_false g, decide_eq_false (fun e => g e.2)]
  · rw [decide_eq_false h, if_neg (by decide), decide_eq_false (fun e => h e.1)]
theorem back_s (u v : Int) (x : List S41) (h1 : 1 ≤ x.length) (h2 : x.length ≤ 30) : ∃ z, Ev (fun k => spec_l13Back.f k x u v) (match bk u v (x.length - 1) x with | some y => (y, true) | none => (z, false)) := by
  have hb := fun k hk => back_l u v x (x.length - 1) k x (by omega) (by omega) rfl (fun _ => rfl) (fun _ _ => rfl) hk
  obtain ⟨z, hz⟩ := hb (x.length + 1) (by omega)
  refine ⟨z, x.length + 1, fun k hk => ?_⟩
  show spec_l13Back.f k x u v = _
  unfold spec_l13Back.f
  rw [Option.bind_some, if_pos (by simp only [List.length_nil]; omega), List.nil_append, w64 (a := (x.length : Int) - 2) (by omega) (by omega), show (x.length : Int) - 2 = ((x.length - 1 : Nat) : Int) - 1 by omega]
  have hm : ∀ j, spec_l13Back.l0 (x.length + 1 + j) x u v x (((x.length - 1 : Nat) : Int) - 1) = spec_l13Back.l0 (x.length + 1) x u v x (((x.length - 1 : Nat) : Int) - 1) := by
    intro j
    induction j with
    | zero => rfl
    | succ j ih => exact (spec_l13Back.mono_l (x.length + 1 + j) x u v x (((x.length - 1 : Nat) : Int) - 1) _ (ih.trans hz)).trans hz.symm
  obtain ⟨j, rfl⟩ : ∃ j, k = x.length + 1 + j := ⟨k - (x.length + 1), by omega⟩
  rw [hm j, hz]
theorem prof_s (u v : Int) (x : List S41) (hp : Ev (fun k => spec_PointsOk.f k x) true) (h1 : 1 ≤ x.length) (h2 : x.length ≤ 30) (h : Int) : Ev (fun k => spec_Profile.f k x u v h) (profR u v x h) := by
  unfold spec_Profile.f
  refine ev_bind (G := fun k t => if t = true then ((spec_l13Slopes.f u v).bind fun t196 => (spec_Profile.j0 k x u v h (!t196))) else (spec_Profile.j0 k x u v h true)) hp ?_
  simp only [if_true, slopes_s, Option.bind_some]
  unfold profR
  by_cases hs : (0 ≤ u ∧ u ≤ 1000) ∧ (0 ≤ v ∧ v ≤ 1000)
  · rw [decide_eq_true hs, if_pos hs]
    obtain ⟨z, hz⟩ := back_s u v x h1 h2
    refine ev_step (G := fun k => (spec_l13Back.f k x u v).bind fun bt200 => (if bt200.2 = true then (if 0 < (bt200.1.length : Int) then ((spec_l1In.f h ((rd_T41 bt200.1 0).f1) ((rd_T41 bt200.1 0).f2)).bind fun t206 => (spec_Profile.j1 k x u v h bt200.1 (!t206))) else (none)) else (spec_Profile.j1 k x u v h bt200.1 true))) (ev_bind (G := fun k bt200 => (if bt200.2 = true then (if 0 < (bt200.1.length : Int) then ((spec_l1In.f h ((rd_T41 bt200.1 0).f1) ((rd_T41 bt200.1 0).f2)).bind fun t206 => (spec_Profile.j1 k x u v h bt200.1 (!t206))) else (none)) else (spec_Profile.j1 k x u v h bt200.1 true))) hz ?_) (fun k => by simp only [spec_Profile.j0, Bool.not_true, Bool.false_eq_true, if_false])
    cases hb : bk u v (x.length - 1) x with
    | none =>
      simp only [Bool.false_eq_true, if_false]
      exact ev_now fun k => by simp only [spec_Profile.j1, if_true]
    | some B =>
      obtain ⟨f1, f2, _, _⟩ := bk_facts u v (x.length - 1) x B (by omega) hb
      have hB0 : (0 : Int) < (B.length : Int) := by omega
      have hd : (decide ((rd_T41 B 0).f1 ≤ h) && decide (h ≤ (rd_T41 B 0).f2)) = decide ((rd_T41 B 0).f1 ≤ h ∧ h ≤ (rd_T41 B 0).f2) := (Bool.decide_and _ _).symm
      simp only [if_true, if_pos hB0, in_s, Option.bind_some, hd]
      by_cases hh : (rd_T41 B 0).f1 ≤ h ∧ h ≤ (rd_T41 B 0).f2
      · rw [decide_eq_true hh, if_pos hh]
        refine ev_step (G := fun k => spec_Profile.l0 k x u v B [h] 1) ⟨B.length, fun k hk => ?_⟩ (fun k => by simp only [spec_Profile.j1, Bool.not_true, Bool.false_eq_true, if_false])
        exact profile_sl u v x B (by omega) f1.symm (fun j => (f2 j).1) (B.length - 1) k [h] (by simp) (by simp) (by simp; omega) (by omega)
      · rw [decide_eq_false hh, if_neg hh]
        exact ev_now fun k => by simp only [spec_Profile.j1, Bool.not_false, if_true]
  · rw [decide_eq_false hs, if_neg hs]
    exact ev_now fun k => by simp only [spec_Profile.j0, Bool.not_false, if_true]
theorem onward_i (u v : Int) (x : List S41) (h1 : 1 ≤ x.length) (h2 : x.length ≤ 30) : Ev (fun k => impl_onward.f k x u v) (match bk u v (x.length - 1) x with | some y => (y, true) | none => ([], false)) := by
  refine ⟨x.length + 1, fun k hk => ?_⟩
  show impl_onward.f k x u v = _
  unfold impl_onward.f impl_Point.f
  rw [Option.bind_some, if_pos (by simp only [List.length_nil]; omega), List.nil_append, Option.bind_some, w64 (a := (x.length : Int) - 2) (by omega) (by omega), show (x.length : Int) - 2 = ((x.length - 1 : Nat) : Int) - 1 by omega]
  exact onward_l u v (x.length - 1) k x (by omega) (by omega) (by omega)
theorem slopes_i (u v : Int) (x : List S41) (b : Bool) (hp : Ev (fun k => impl_PointsOk.f k x) b) : Ev (fun k => impl_slopesOk.f k x u v) (b && decide ((0 ≤ u ∧ u ≤ 1000) ∧ (0 ≤ v ∧ v ≤ 1000))) := by
  unfold impl_slopesOk.f
  refine ev_bind (G := fun _ t => if t = true then ((impl_in.f u 0 1000).bind fun t123 => (if t123 = true then ((impl_in.f v 0 1000).bind fun t124 => (some t124)) else (some false))) else (some false)) hp (ev_const ?_)
  rw [in_i, in_i, ← Bool.decide_and, ← Bool.decide_and, Option.bind_some]
  cases b
  · rfl
  · rw [if_pos rfl, Bool.true_and]
    by_cases h : 0 ≤ u ∧ u ≤ 1000
    · rw [decide_eq_true h, if_pos rfl, Option.bind_some]
      congr 1
      by_cases g : 0 ≤ v ∧ v ≤ 1000
      · rw [decide_eq_true g, decide_eq_true ⟨h, g⟩]
      · rw [decide_eq_false g, decide_eq_false (fun e => g e.2)]
    · rw [decide_eq_false h, if_neg (by decide), decide_eq_false (fun e => h e.1)]
theorem profile_i (u v : Int) (B : List S41) (h1 : 1 ≤ B.length) (h2 : B.length ≤ 30) (h : Int) : Ev (fun k => impl_profile.f k B u v h) (wy u v B (B.length - 1) [h]) :=
  ⟨B.length, fun k hk => profile_l u v B h2 (B.length - 1) k [h] (by simp) (by simp) (by simp; omega) (by omega)⟩
theorem profile_both (x : List S41) (u v h : Int) (hn : x.length ≤ 4611686018427387904) : ∃ r : List Int × Bool, r.1.length ≤ 30 ∧ Ev (fun k => spec_Profile.f k x u v h) r ∧ Ev (fun k => impl_Profile.f k x u v h) r := by
  obtain ⟨b, ps, pi, pg⟩ := points x hn
  have es : Ev (fun k => spec_PointsOk.f k x) b := ⟨x.length + 1, fun k hk => ps k (by omega)⟩
  have ei : Ev (fun k => impl_PointsOk.f k x) b := ⟨x.length + 1, fun k hk => pi k (by omega)⟩
  have sl := slopes_i u v x b ei
  have im : ∀ r, Ev (fun k => if ((b && decide ((0 ≤ u ∧ u ≤ 1000) ∧ (0 ≤ v ∧ v ≤ 1000))) = true) then ((impl_onward.f k x u v).bind fun bt160 => (if bt160.2 = true then (if 0 < (bt160.1.length : Int) then ((impl_in.f h ((rd_T41 bt160.1 0).f1) ((rd_T41 bt160.1 0).f2)).bind fun t166 => (if t166 = true then ((impl_profile.f k bt160.1 u v h).bind fun t167 => (some (t167, true))) else (some (([] : List Int), false)))) else (none)) else (some (([] : List Int), false)))) else (some (([] : List Int), false))) r → Ev (fun k => impl_Profile.f k x u v h) r := by
    intro r hr
    unfold impl_Profile.f
    exact ev_bind (G := fun k t159 => (if t159 = true then ((impl_onward.f k x u v).bind fun bt160 => (if bt160.2 = true then (if 0 < (bt160.1.length : Int) then ((impl_in.f h ((rd_T41 bt160.1 0).f1) ((rd_T41 bt160.1 0).f2)).bind fun t166 => (if t166 = true then ((impl_profile.f k bt160.1 u v h).bind fun t167 => (some (t167, true))) else (some (([] : List Int), false)))) else (none)) else (some (([] : List Int), false)))) else (some (([] : List Int), false)))) sl hr
  cases b
  · refine ⟨([], false), by simp, ?_, im _ ?_⟩
    · unfold spec_Profile.f
      refine ev_bind (G := fun k t => if t = true then ((spec_l13Slopes.f u v).bind fun t196 => (spec_Profile.j0 k x u v h (!t196))) else (spec_Profile.j0 k x u v h true)) es ?_
      simp only [Bool.false_eq_true, if_false]
      exact ev_now fun k => by simp only [spec_Profile.j0, if_true]
    · simp only [Bool.false_and, Bool.false_eq_true, if_false]
      exact ev_const rfl
  · obtain ⟨hp, hp1, hp2⟩ := pg.1 rfl
    have pr := prof_s u v x es hp1 hp2 h
    refine ⟨profR u v x h, ?_, pr, im _ ?_⟩
    · unfold profR
      split
      · split
        · simp
        · rename_i B hb
          obtain ⟨f1, f2, f3, f4⟩ := bk_facts u v (x.length - 1) x B (by omega) hb
          split
          · have wl : ∀ (d : Nat) (a : List Int), (wy u v B d a).length = a.length + d := by
              intro d
              induction d with
              | zero => intro a; rfl
              | succ d ih => intro a; simp only [wy]; rw [ih]; simp; omega
            rw [wl]; simp; omega
          · simp
      · simp
    · unfold profR
      by_cases sg : (0 ≤ u ∧ u ≤ 1000) ∧ (0 ≤ v ∧ v ≤ 1000)
      · have onw := onward_i u v x hp1 hp2
        simp only [decide_eq_true sg, Bool.true_and, if_true, if_pos sg]
        refine ev_bind (F := fun k => impl_onward.f k x u v) (G := fun k bt160 => (if bt160.2 = true then (if 0 < (bt160.1.length : Int) then ((impl_in.f h ((rd_T41 bt160.1 0).f1) ((rd_T41 bt160.1 0).f2)).bind fun t166 => (if t166 = true then ((impl_profile.f k bt160.1 u v h).bind fun t167 => (some (t167, true))) else (some (([] : List Int), false)))) else (none)) else (some (([] : List Int), false)))) onw ?_
        cases hb : bk u v (x.length - 1) x with
        | none =>
          simp only [Bool.false_eq_true, if_false]
          exact ev_const rfl
        | some B =>
          obtain ⟨f1, f2, f3, f4⟩ := bk_facts u v (x.length - 1) x B (by omega) hb
          have hB0 : (0 : Int) < (B.length : Int) := by omega
          have hd : (decide ((rd_T41 B 0).f1 ≤ h) && decide (h ≤ (rd_T41 B 0).f2)) = decide ((rd_T41 B 0).f1 ≤ h ∧ h ≤ (rd_T41 B 0).f2) := (Bool.decide_and _ _).symm
          simp only [if_true, if_pos hB0, in_i, Option.bind_some, hd]
          by_cases hh : (rd_T41 B 0).f1 ≤ h ∧ h ≤ (rd_T41 B 0).f2
          · simp only [decide_eq_true hh, if_true, if_pos hh]
            exact ev_bind (F := fun k => impl_profile.f k B u v h) (G := fun _ t167 => some (t167, true)) (profile_i u v B (by omega) (by omega) h) (ev_const rfl)
          · simp only [decide_eq_false hh, Bool.false_eq_true, if_false, if_neg hh]
            exact ev_const rfl
      · simp only [decide_eq_false sg, Bool.and_false, Bool.false_eq_true, if_false, if_neg sg]
        exact ev_const rfl
theorem FnExactProfile : laws_FnExactProfile.Pure := by
  intro l u v h ⟨hl, _⟩ _ _ _
  have hl' : l.length ≤ 9223372036854775807 := hl
  by_cases hc : (1048576 : Int) - (l.length : Int) < 0
  · refine ⟨0, ?_⟩
    unfold laws_FnExactProfile.f laws_szPointS.f
    rw [w64 (by omega) (by omega), if_pos hc]; rfl
  · have lm : (l.map conv).length = l.length := List.length_map _
    obtain ⟨⟨r1, r2⟩, hr, ⟨K1, hs⟩, K2, hi⟩ := profile_both (l.map conv) u v h (by omega)
    have hr : r1.length ≤ 30 := hr
    obtain ⟨n, hn⟩ : ∃ n, n = K1 + K2 + l.length + 50 := ⟨_, rfl⟩
    refine ⟨n + 3, ?_⟩
    have ht := fun k hk => laws_toPointS_eq l k (by omega) hk
    have he := fun k hk => laws_eqPointS_eq (l.map conv) k (by omega) hk
    have hq := fun k hk => laws_eqIntS_eq r1 k (by omega) hk
    obtain ⟨y, m1, m2⟩ := markedP (l.map conv) 1 (by omega) (by omega)
    obtain ⟨z, n1, n2, n3⟩ := mark_int r1 1 (by omega) (by omega) (n + 1) (by omega)
    have j2 : laws_FnExactProfile.j2 (n + 1) z (1 + (r1.length : Int)) false = some true := by
      simp only [laws_FnExactProfile.j2, Bool.false_eq_true, if_false, n3 n (by omega), Option.bind_some]
      rw [if_neg (by omega), if_pos trivial]
    have j1 : laws_FnExactProfile.j1 (n + 2) l u v h r1 r2 r1 false = some true := by
      simp only [laws_FnExactProfile.j1, Bool.false_eq_true, if_false, n1, n3 (n + 1) (by omega), Option.bind_some, ht (n + 1) (by omega), hi (n + 1) (by omega), hq (n + 1) (by omega), if_true, bne_self_eq_false, j2]
      rw [if_neg (by omega)]
    have j0 : laws_FnExactProfile.j0 (n + 3) l u v h r1 r2 (l.map conv) r1 r2 false = some true := by
      simp only [laws_FnExactProfile.j0, Bool.false_eq_true, if_false, ht (n + 2) (by omega), he (n + 2) (by omega), m1 (n + 2) (by omega), hq (n + 2) (by omega), Option.bind_some, if_true, bne_self_eq_false, j1]
      rw [if_neg (by omega)]
    unfold laws_FnExactProfile.f laws_szPointS.f
    rw [w64 (by omega) (by omega), if_neg hc, Option.bind_some, if_neg hc]
    simp only [ht (n + 3) (by omega), Option.bind_some, hs (n + 3) (by omega), hi (n + 3) (by omega), hq (n + 3) (by omega), if_true, bne_self_eq_false, j0]
end Go.Proofs.Ytoooikhkapaokaa.Pure.FnExactProfile
namespace Go.Proofs.Ytoooikhkapaokaa.Pure
theorem FnExactProfile : Go.Proofs.Ytoooikhkapaokaa.PFnExactProfile.laws_FnExactProfile.Pure := FnExactProfile.FnExactProfile
end Go.Proofs.Ytoooikhkapaokaa.Pure
