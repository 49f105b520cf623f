/- For every code the law FnProfiles returns true: what can be had at drawn points can be come to, a profile keeps all bounds and slopes, and greater slopes let no less be had. No condition. -/
import Derived.Test.YtoooikhkapaokaaPFnProfilesx8
import Derived.Test.YtoooikhkapaokaaNum
namespace Go.Proofs.Ytoooikhkapaokaa.Pure.FnProfiles
open Go.RowKit Go.Proofs.Ytoooikhkapaokaa.PFnProfiles Go.Proofs.YtoooikhkapaokaaW.PrintWords Go.Proofs.YtoooikhkapaokaaW.PrintLast Go.Proofs.YtoooikhkapaokaaW.PrintMore Go.Proofs.Ytoooikhkapaokaa.Num
set_option linter.unusedVariables false
set_option linter.unusedSimpArgs false
theorem in_i (a b c : Int) : impl_in.f a b c = some (decide (b ≤ a) && decide (a ≤ c)) := by
  unfold impl_in.f
  by_cases h : a ≥ b
  · rw [if_pos h, decide_eq_true (show b ≤ a from h)]; rfl
  · rw [if_neg h, decide_eq_false (show ¬ b ≤ a from h)]; rfl
theorem floor_i {a b : Int} (hb : 1 ≤ b) (h1 : -4611686018427387904 ≤ a) (h2 : a ≤ 4611686018427387904) : impl_floorOver.f a b = some (a / b) := by
  have hf := floor_tdiv (a := a) hb
  have ht := tdiv_in (M := 4611686018427387904) hb h1 h2
  have w : wrap64 (a.tdiv b) = a.tdiv b := w64 (by omega) (by omega)
  have w' : wrap64 (a.tdiv b - 1) = a.tdiv b - 1 := w64 (by omega) (by omega)
  have hbn : decide (b < 0) = false := decide_eq_false (by omega)
  unfold impl_floorOver.f
  rw [if_neg (show ¬ b = 0 by omega), w, w', hbn]
  by_cases hm : a.tmod b = 0
  · rw [if_pos hm, hf.1 hm]
  · rw [if_neg hm]
    by_cases ha : a < 0
    · rw [decide_eq_true ha, if_pos (by decide), hf.2.2.1 hm ha]
    · rw [decide_eq_false ha, if_neg (by decide), hf.2.1 hm (by omega)]
theorem ceil_i {a b : Int} (hb : 1 ≤ b) (h1 : -4611686018427387904 ≤ a) (h2 : a ≤ 4611686018427387904) : impl_ceilOver.f a b = some (-((-a) / b)) := by
  have hd := ediv_in (a := -a) (M := 4611686018427387904) hb (by omega) (by omega)
  unfold impl_ceilOver.f
  rw [w64 (a := -a) (by omega) (by omega), floor_i hb (by omega) (by omega), Option.bind_some, w64 (by omega) (by omega)]
/-- From some count of rounds on it answers r. -/
def Ev {α : Type} (F : Nat → Option α) (r : α) : Prop := ∃ K, ∀ k, K ≤ k → F k = some r
theorem ev_step {α : Type} {F G : Nat → Option α} {r : α} (h : Ev G r) (e : ∀ k, F (k + 1) = G k) : Ev F r := by
  obtain ⟨K, h⟩ := h
  refine ⟨K + 1, fun k hk => ?_⟩
  obtain ⟨m, rfl⟩ : ∃ m, k = m + 1 := ⟨k - 1, by omega⟩
  rw [e m]; exact h m (by omega)
theorem ev_now {α : Type} {F : Nat → Option α} {r : α} (e : ∀ k, F (k + 1) = some r) : Ev F r :=
  ⟨1, fun k hk => by obtain ⟨m, rfl⟩ : ∃ m, k = m + 1 := ⟨k - 1, by omega⟩; exact e m⟩
theorem ev_const {α : Type} {o : Option α} {r : α} (e : o = some r) : Ev (fun _ => o) r := ⟨0, fun _ _ => e⟩
theorem ev_bind {α β : Type} {F : Nat → Option α} {G : Nat → α → Option β} {a : α} {r : β} (h : Ev F a) (g : Ev (fun k => G k a) r) : Ev (fun k => (F k).bind (G k)) r := by
  obtain ⟨K, h⟩ := h
  obtain ⟨L, g⟩ := g
  exact ⟨max K L, fun k hk => by show (F k).bind (G k) = _; rw [h k (by omega), Option.bind_some]; exact g k (by omega)⟩
theorem ev_cong {α : Type} {F G : Nat → Option α} {r : α} (h : Ev G r) (e : ∀ k, F k = G k) : Ev F r := by
  obtain ⟨K, h⟩ := h
  exact ⟨K, fun k hk => (e k).trans (h k hk)⟩
theorem at_in (l : List Int) (hl : l.length ≤ 1048576) (hu : ∀ x ∈ l, (Lit.int .u8 x).wf = true) (i : Int) (h0 : 0 ≤ i) (h1 : i ≤ 1000000) : ∃ v, laws_at.f l i = some v ∧ 0 ≤ v ∧ v ≤ 255 := by
  unfold laws_at.f
  by_cases h : i < (l.length : Int)
  · rw [if_pos h, if_pos h0]
    have hi : i.toNat < l.length := by omega
    have hr : rd l i = l[i.toNat] := by
      show l.getD i.toNat 0 = _
      rw [List.getD_eq_getElem?_getD, List.getElem?_eq_getElem hi]; rfl
    have hb := wfu8 (hu _ (List.getElem_mem hi))
    rw [hr, w64 (by omega) (by omega)]
    exact ⟨_, rfl, hb.1, hb.2⟩
  · rw [if_neg h]
    refine ⟨_, rfl, ?_⟩
    rw [w64 (a := i * 7) (by omega) (by omega), w64 (by omega) (by omega), Int.tmod_eq_emod_of_nonneg (by omega)]
    omega
theorem big_f (l : List Int) (h : l.length ≤ 1048576) : laws_big.f l = some false := by
  unfold laws_big.f
  rw [decide_eq_false (by omega)]
theorem big_t (l : List Int) (h : ¬ l.length ≤ 1048576) : laws_big.f l = some true := by
  unfold laws_big.f
  rw [decide_eq_true (by omega)]
theorem and255 (n : Int) : 0 ≤ Go.bits .and .i64 n 255 ∧ Go.bits .and .i64 n 255 ≤ 255 := by
  have e : Go.bits .and .i64 n 255 = n % 256 := by
    have h : (((BitVec.ofInt 64 n) &&& (BitVec.ofInt 64 255)).toNat : Int) = n % 256 := by
      rw [BitVec.toNat_and]
      have h1 : (BitVec.ofInt 64 255).toNat = 2 ^ 8 - 1 := by decide
      rw [h1, Nat.and_two_pow_sub_one_eq_mod, BitVec.toNat_ofInt]
      omega
    show IntKind.i64.wrap (((BitVec.ofInt 64 n) &&& (BitVec.ofInt 64 255)).toNat : Int) = _
    rw [h, IntKind.wrap_i64]
    omega
  rw [e]; omega
/-- A cursor over l: its place is within. -/
def Cur (l : List Int) (i : Int) : Prop := 0 ≤ i ∧ i ≤ (l.length : Int)
theorem new_s (l : List Int) (hl : l.length ≤ 4611686018427387904) : ∃ h, Ev (fun k => spec_l1New.f k l) (l, 0, h) := by
  have go : ∀ (d i : Nat) (h : Int), l.length - i = d → i ≤ l.length → ∃ h', Ev (fun k => spec_l1New.l0 k l h (i : Int)) (l, 0, h') := by
    intro d
    induction d with
    | zero =>
      intro i h hd hi
      refine ⟨h, ev_now fun k => ?_⟩
      simp only [spec_l1New.l0]
      rw [if_neg (by omega)]
    | succ d ih =>
      intro i h hd hi
      by_cases c : (i : Int) < 4000
      · obtain ⟨h', e⟩ := ih (i + 1) (Go.bits .and .i64 (wrap64 ((wrap64 ((wrap64 (h * 131)) + (wrap64 (rd l (i : Int))))) + 7)) 1073741823) (by omega) (by omega)
        refine ⟨h', ev_step e fun k => ?_⟩
        simp only [spec_l1New.l0]
        rw [if_pos (by omega), if_pos c, if_pos (by omega), w64 (a := (i : Int) + 1) (by omega) (by omega)]; rfl
      · refine ⟨h, ev_now fun k => ?_⟩
        simp only [spec_l1New.l0]
        rw [if_pos (by omega), if_neg c]
  exact go l.length 0 _ (by omega) (by omega)
theorem byte_s (l : List Int) (i h : Int) (hl : l.length ≤ 4611686018427387904) (hc : Cur l i) : ∃ v i' h', spec_l1Byte.f l i h = some (v, i', h') ∧ 0 ≤ v ∧ v ≤ 255 ∧ Cur l i' := by
  obtain ⟨h0, h1⟩ := hc
  unfold spec_l1Byte.f
  by_cases c : i < (l.length : Int)
  · rw [if_pos c, if_pos h0, w64 (a := i + 1) (by omega) (by omega)]
    exact ⟨_, _, _, rfl, (and255 _).1, (and255 _).2, by omega, by omega⟩
  · rw [if_neg c]
    exact ⟨_, _, _, rfl, (and255 _).1, (and255 _).2, h0, h1⟩
/-- What is drawn below n lies below n, wherever the cursor stands. -/
theorem below_s (l : List Int) (i h n : Int) (hl : l.length ≤ 4611686018427387904) (hc : Cur l i) (hn : n ≤ 4294967296) : ∃ v i' h', spec_l1Below.f l i h n = some (v, i', h') ∧ 0 ≤ v ∧ (0 < n → v < n) ∧ (n ≤ 0 → v = 0) ∧ Cur l i' := by
  unfold spec_l1Below.f
  by_cases c : n ≤ 0
  · rw [if_pos c]; exact ⟨_, _, _, rfl, by omega, fun g => by omega, fun _ => rfl, hc⟩
  · rw [if_neg c]
    by_cases c2 : n ≤ 256
    · rw [if_pos c2]
      obtain ⟨v, i', h', e, v0, v1, hc'⟩ := byte_s l i h hl hc
      rw [e, Option.bind_some, if_neg (by omega)]
      have m := Int.tmod_eq_emod_of_nonneg (b := n) v0
      have m0 := Int.emod_nonneg v (show n ≠ 0 by omega)
      have m1 := Int.emod_lt_of_pos v (show 0 < n by omega)
      exact ⟨_, _, _, rfl, by simp only; omega, fun _ => by simp only; omega, fun g => by omega, hc'⟩
    · rw [if_neg c2]
      obtain ⟨a, i1, h1, e1, a0, a1, c1⟩ := byte_s l i h hl hc
      rw [e1, Option.bind_some]
      obtain ⟨b, i2, h2, e2, b0, b1, c2⟩ := byte_s l i1 h1 hl c1
      simp only [e2, Option.bind_some]
      obtain ⟨p, i3, h3, e3, p0, p1, c3⟩ := byte_s l i2 h2 hl c2
      simp only [e3, Option.bind_some]
      obtain ⟨q, i4, h4, e4, q0, q1, c4⟩ := byte_s l i3 h3 hl c3
      simp only [e4, Option.bind_some]
      have e : wrap64 (wrap64 (wrap64 (wrap64 (a * 16777216) + wrap64 (b * 65536)) + wrap64 (p * 256)) + q) = a * 16777216 + b * 65536 + p * 256 + q := by
        rw [w64 (a := a * 16777216) (by omega) (by omega), w64 (a := b * 65536) (by omega) (by omega), w64 (a := p * 256) (by omega) (by omega), w64 (a := a * 16777216 + b * 65536) (by omega) (by omega), w64 (a := a * 16777216 + b * 65536 + p * 256) (by omega) (by omega), w64 (by omega) (by omega)]
      rw [e, if_neg (by omega)]
      have v0 : 0 ≤ a * 16777216 + b * 65536 + p * 256 + q := by omega
      generalize a * 16777216 + b * 65536 + p * 256 + q = v at v0
      have m := Int.tmod_eq_emod_of_nonneg (b := n) v0
      have m0 := Int.emod_nonneg v (show n ≠ 0 by omega)
      have m1 := Int.emod_lt_of_pos v (show 0 < n by omega)
      exact ⟨_, _, _, rfl, by rw [m]; exact m0, fun _ => by rw [m]; exact m1, fun g => by omega, c4⟩
theorem rdp (l : List S41) (i : Nat) (h : i < l.length) : rd_T41 l (i : Int) = l[i] := by
  show l.getD (i : Int).toNat z41 = _
  rw [Int.toNat_natCast, List.getD_eq_getElem?_getD, List.getElem?_eq_getElem h]; rfl
/-- The point at i is right, beside the one before it. -/
def PtOk (x : List S41) (i : Nat) : Prop := (0 ≤ (rd_T41 x i).f0 ∧ (rd_T41 x i).f0 ≤ 100000) ∧ (0 ≤ (rd_T41 x i).f1 ∧ (rd_T41 x i).f1 ≤ (rd_T41 x i).f2) ∧ (rd_T41 x i).f2 ≤ 100000 ∧ (0 < i → (rd_T41 x ((i : Int) - 1)).f0 < (rd_T41 x i).f0)
def PtsFrom (x : List S41) (i : Nat) : Prop := (∀ j, i ≤ j → j < x.length → PtOk x j) ∧ 1 ≤ x.length ∧ x.length ≤ 30
theorem pts_here {x : List S41} {i : Nat} (h : i < x.length) : PtsFrom x i ↔ PtOk x i ∧ PtsFrom x (i + 1) :=
  ⟨fun g => ⟨g.1 i (by omega) h, ⟨fun j h1 h2 => g.1 j (by omega) h2, g.2⟩⟩,
   fun g => ⟨fun j h1 h2 => by by_cases e : j = i; · subst e; exact g.1
                               · exact g.2.1 j (by omega) h2, g.2.2⟩⟩
theorem pts_end {x : List S41} {i : Nat} (h : ¬ i < x.length) : PtsFrom x i ↔ 1 ≤ x.length ∧ x.length ≤ 30 :=
  ⟨fun g => g.2, fun g => ⟨fun j h1 h2 => by omega, g⟩⟩
theorem pts_not {x : List S41} {i : Nat} (h : i < x.length) (g : ¬ PtOk x i) : ∃ b, some false = some b ∧ (b = true ↔ PtsFrom x i) :=
  ⟨false, rfl, fun e => absurd e Bool.false_ne_true, fun e => absurd (e.1 i (by omega) h) g⟩
theorem points_il (x : List S41) (hn : x.length ≤ 4611686018427387904) : ∀ (d k i : Nat), x.length - i = d → i ≤ x.length → d < k → ∃ b, impl_PointsOk.l0 k x x (x.length : Int) (i : Int) = some b ∧ (b = true ↔ PtsFrom x i) := by
  intro d
  induction d with
  | zero =>
    intro k i hd hi hk
    obtain ⟨k, rfl⟩ : ∃ m, k = m + 1 := ⟨k - 1, by omega⟩
    simp only [impl_PointsOk.l0]
    rw [if_neg (by omega), in_i, Option.bind_some]
    refine ⟨_, rfl, Iff.trans ?_ (pts_end (by omega)).symm⟩
    rw [Bool.and_eq_true, decide_eq_true_eq, decide_eq_true_eq]; omega
  | succ d ih =>
    intro k i hd hi hk
    obtain ⟨k, rfl⟩ : ∃ m, k = m + 1 := ⟨k - 1, by omega⟩
    have hlt : i < x.length := by omega
    obtain ⟨b, hb, hbg⟩ := ih k (i + 1) (by omega) (by omega) (by omega)
    have tail : (0 ≤ (rd_T41 x i).f0 ∧ (rd_T41 x i).f0 ≤ 100000) → (0 < i → (rd_T41 x ((i : Int) - 1)).f0 < (rd_T41 x i).f0) → ∃ b', (if ((rd_T41 x i).f1) < 0 then (some false) else (if ((rd_T41 x i).f1) > ((rd_T41 x i).f2) then (some false) else (if ((rd_T41 x i).f2) > 100000 then (some false) else some b))) = some b' ∧ (b' = true ↔ PtsFrom x i) := by
      intro h1 h5
      by_cases c1 : (rd_T41 x i).f1 < 0
      · rw [if_pos c1]; exact pts_not hlt fun g => by have := g.2.1; omega
      · rw [if_neg c1]
        by_cases c2 : (rd_T41 x i).f1 > (rd_T41 x i).f2
        · rw [if_pos c2]; exact pts_not hlt fun g => by have := g.2.1; omega
        · rw [if_neg c2]
          by_cases c3 : (rd_T41 x i).f2 > 100000
          · rw [if_pos c3]; exact pts_not hlt fun g => by have := g.2.2.1; omega
          · rw [if_neg c3]; exact ⟨b, rfl, hbg.trans ⟨fun g => (pts_here hlt).2 ⟨⟨h1, ⟨by omega, by omega⟩, by omega, h5⟩, g⟩, fun g => ((pts_here hlt).1 g).2⟩⟩
    simp only [impl_PointsOk.l0, in_i, Option.bind_some]
    rw [if_pos (by omega), if_pos (by omega), if_pos (by omega), w64 (a := (i : Int) + 1) (by omega) (by omega), show (i : Int) + 1 = ((i + 1 : Nat) : Int) by omega, ← Bool.decide_and, hb]
    by_cases h1 : 0 ≤ (rd_T41 x i).f0 ∧ (rd_T41 x i).f0 ≤ 100000
    · rw [if_pos (decide_eq_true h1)]
      by_cases h4 : (i : Int) > 0
      · rw [if_pos h4, w64 (a := (i : Int) - 1) (by omega) (by omega), if_pos (by omega), if_pos (by omega)]
        by_cases h5 : (rd_T41 x ((i : Int) - 1)).f0 ≥ (rd_T41 x i).f0
        · rw [if_pos h5]; exact pts_not hlt fun g => by have := g.2.2.2 (by omega); omega
        · rw [if_neg h5]; exact tail h1 fun _ => by omega
      · rw [if_neg h4]; exact tail h1 fun _ => by omega
    · rw [if_neg (by rw [decide_eq_false h1]; exact Bool.false_ne_true)]; exact pts_not hlt fun g => h1 g.1
theorem points (x : List S41) (hn : x.length ≤ 4611686018427387904) : ∃ b, True ∧ (∀ k, x.length < k → impl_PointsOk.f k x = some b) ∧ (b = true ↔ PtsFrom x 0) := by
  obtain ⟨b, hb, hg⟩ := points_il x hn x.length (x.length + 1) 0 (by omega) (by omega) (by omega)
  refine ⟨b, trivial, fun k hk => ?_, hg⟩
  obtain ⟨b', h, g⟩ := points_il x hn x.length k 0 (by omega) (by omega) hk
  have e : b' = b := by rw [Bool.eq_iff_iff]; exact g.trans hg.symm
  subst e; exact h
/-- The point ahead of q, held to what a way on to q allows. -/
def bkS (u v : Int) (q p : S41) : S41 := ⟨p.f0, mx p.f1 (wrap64 (q.f1 - wrap64 (u * wrap64 (q.f0 - p.f0)))), mn p.f2 (wrap64 (q.f2 + wrap64 (v * wrap64 (q.f0 - p.f0))))⟩
def bk (u v : Int) : Nat → List S41 → Option (List S41)
  | 0, x => some x
  | n + 1, x => if (bkS u v (rd_T41 x ((n + 1 : Nat) : Int)) (rd_T41 x (n : Int))).f1 > (bkS u v (rd_T41 x ((n + 1 : Nat) : Int)) (rd_T41 x (n : Int))).f2 then none else bk u v n (x.set n (bkS u v (rd_T41 x ((n + 1 : Nat) : Int)) (rd_T41 x (n : Int))))
theorem bk_pos {u v : Int} {n : Nat} {x : List S41} (h : (bkS u v (rd_T41 x ((n + 1 : Nat) : Int)) (rd_T41 x (n : Int))).f1 > (bkS u v (rd_T41 x ((n + 1 : Nat) : Int)) (rd_T41 x (n : Int))).f2) : bk u v (n + 1) x = none := by
  simp only [bk]; rw [if_pos h]
theorem bk_neg {u v : Int} {n : Nat} {x : List S41} (h : ¬ (bkS u v (rd_T41 x ((n + 1 : Nat) : Int)) (rd_T41 x (n : Int))).f1 > (bkS u v (rd_T41 x ((n + 1 : Nat) : Int)) (rd_T41 x (n : Int))).f2) : bk u v (n + 1) x = bk u v n (x.set n (bkS u v (rd_T41 x ((n + 1 : Nat) : Int)) (rd_T41 x (n : Int)))) := by
  simp only [bk]; rw [if_neg h]
theorem rds_eq (x : List S41) (i : Nat) (v : S41) (h : i < x.length) : rd_T41 (x.set i v) (i : Int) = v := by
  show (x.set i v).getD (i : Int).toNat z41 = _
  rw [Int.toNat_natCast, List.getD_eq_getElem?_getD, List.getElem?_set_self h]; rfl
theorem rds_ne (x : List S41) (i j : Nat) (v : S41) (h : j ≠ i) : rd_T41 (x.set i v) (j : Int) = rd_T41 x (j : Int) := by
  show (x.set i v).getD (j : Int).toNat z41 = x.getD (j : Int).toNat z41
  rw [Int.toNat_natCast, List.getD_eq_getElem?_getD, List.getD_eq_getElem?_getD, List.getElem?_set_ne (fun e => h e.symm)]
theorem onward_l (u v : Int) : ∀ (n k : Nat) (x : List S41), n + 1 ≤ x.length → x.length ≤ 4611686018427387904 → n < k → impl_onward.l0 k u v x ((n : Int) - 1) = some (match bk u v n x with | some y => (y, true) | none => ([], false)) := by
  intro n
  induction n with
  | zero =>
    intro k x hn hx hk
    obtain ⟨k, rfl⟩ : ∃ m, k = m + 1 := ⟨k - 1, by omega⟩
    simp only [impl_onward.l0]
    rw [if_neg (by omega)]; rfl
  | succ n ih =>
    intro k x hn hx hk
    obtain ⟨k, rfl⟩ : ∃ m, k = m + 1 := ⟨k - 1, by omega⟩
    rw [show (((n + 1 : Nat) : Int) - 1) = (n : Int) by omega]
    have w1 : wrap64 ((n : Int) + 1) = ((n + 1 : Nat) : Int) := by rw [w64 (by omega) (by omega)]; omega
    have w2 : wrap64 ((n : Int) - 1) = (n : Int) - 1 := w64 (by omega) (by omega)
    have rs : ∀ v, rd_T41 (x.set n v) (n : Int) = v := fun v => rds_eq x n v (by omega)
    simp only [impl_onward.l0, w1, w2, Option.bind_some, Int.toNat_natCast, rs, List.set_set]
    rw [if_pos (by omega), if_pos (by omega), if_pos (by omega), if_pos (by omega), if_pos (by omega)]
    by_cases hc : (bkS u v (rd_T41 x ((n + 1 : Nat) : Int)) (rd_T41 x (n : Int))).f1 > (bkS u v (rd_T41 x ((n + 1 : Nat) : Int)) (rd_T41 x (n : Int))).f2
    · rw [bk_pos hc]
      simp only [bkS] at hc ⊢
      rw [if_pos hc]
    · rw [bk_neg hc]
      have := ih k (x.set n (bkS u v (rd_T41 x ((n + 1 : Nat) : Int)) (rd_T41 x (n : Int)))) (by simp; omega) (by simp; omega) (by omega)
      simp only [bkS] at hc this ⊢
      rw [if_neg hc]
      exact this
theorem bk_facts (u v : Int) : ∀ (n : Nat) (x y : List S41), n + 1 ≤ x.length → bk u v n x = some y → y.length = x.length ∧ (∀ j : Nat, (rd_T41 y j).f0 = (rd_T41 x j).f0 ∧ (rd_T41 x j).f1 ≤ (rd_T41 y j).f1 ∧ (rd_T41 y j).f2 ≤ (rd_T41 x j).f2) ∧ (∀ j : Nat, n ≤ j → rd_T41 y j = rd_T41 x j) ∧ (∀ j : Nat, j < n → (rd_T41 y j).f1 ≤ (rd_T41 y j).f2 ∧ rd_T41 y j = bkS u v (rd_T41 y ((j + 1 : Nat) : Int)) (rd_T41 x j)) := by
  intro n
  induction n with
  | zero =>
    intro x y hn h
    obtain rfl := Option.some.inj h
    exact ⟨rfl, fun j => ⟨rfl, Int.le_refl _, Int.le_refl _⟩, fun j _ => rfl, fun j h => absurd h (Nat.not_lt_zero _)⟩
  | succ n ih =>
    intro x y hn h
    simp only [bk] at h
    split at h
    · cases h
    · rename_i hc
      obtain ⟨h1, h2, h3, h4⟩ := ih _ y (by simp; omega) h
      have hs := rds_eq x n (bkS u v (rd_T41 x ((n + 1 : Nat) : Int)) (rd_T41 x (n : Int))) (by omega)
      have hy : rd_T41 y (n : Int) = bkS u v (rd_T41 x ((n + 1 : Nat) : Int)) (rd_T41 x (n : Int)) := (h3 n (by omega)).trans hs
      have hn1 : rd_T41 y ((n + 1 : Nat) : Int) = rd_T41 x ((n + 1 : Nat) : Int) := (h3 (n + 1) (by omega)).trans (rds_ne x n (n + 1) _ (by omega))
      refine ⟨h1.trans (by simp), fun j => ?_, fun j hj => (h3 j (by omega)).trans (rds_ne x n j _ (by omega)), fun j hj => ?_⟩
      · by_cases e : j = n
        · subst e
          rw [hy]
          refine ⟨rfl, ?_, ?_⟩
          · simp only [bkS]; unfold mx; split <;> omega
          · simp only [bkS]; unfold mn; split <;> omega
        · have := h2 j
          rw [rds_ne x n j _ e] at this
          exact this
      · by_cases e : j = n
        · subst e
          rw [hn1, hy]
          exact ⟨by omega, rfl⟩
        · have := h4 j (by omega)
          rw [rds_ne x n j _ e] at this
          exact this
/-- A step of a way: held to the point, and to what the slopes allow. -/
def wst (u v : Int) (p q : S41) (now : Int) : Int := mx (mn now (mn q.f2 (wrap64 (now + wrap64 (u * wrap64 (q.f0 - p.f0)))))) (mx q.f1 (wrap64 (now - wrap64 (v * wrap64 (q.f0 - p.f0)))))
def wy (u v : Int) (B : List S41) : Nat → List Int → List Int
  | 0, a => a
  | d + 1, a => wy u v B d (a ++ [wst u v (rd_T41 B ((a.length - 1 : Nat) : Int)) (rd_T41 B (a.length : Int)) (rd a ((a.length - 1 : Nat) : Int))])
theorem rdi_app (l : List Int) (v : Int) (i : Nat) (h : i < l.length) : rd (l ++ [v]) (i : Int) = rd l (i : Int) := by
  show (l ++ [v]).getD (i : Int).toNat 0 = l.getD (i : Int).toNat 0
  rw [Int.toNat_natCast, List.getD_eq_getElem?_getD, List.getD_eq_getElem?_getD, List.getElem?_append_left h]
theorem rdi_end (l : List Int) (v : Int) : rd (l ++ [v]) (l.length : Int) = v := by
  show (l ++ [v]).getD (l.length : Int).toNat 0 = _
  rw [Int.toNat_natCast, List.getD_eq_getElem?_getD, List.getElem?_append_right (Nat.le_refl _), Nat.sub_self]; rfl
theorem profile_l (u v : Int) (B : List S41) (hB : B.length ≤ 30) : ∀ (d k : Nat) (a : List Int), B.length - a.length = d → 1 ≤ a.length → a.length ≤ B.length → d < k → impl_profile.l0 k B u v a (a.length : Int) = some (wy u v B d a) := by
  intro d
  induction d with
  | zero =>
    intro k a hd h1 h2 hk
    obtain ⟨k, rfl⟩ : ∃ m, k = m + 1 := ⟨k - 1, by omega⟩
    simp only [impl_profile.l0]
    rw [if_neg (by omega)]; rfl
  | succ d ih =>
    intro k a hd h1 h2 hk
    obtain ⟨k, rfl⟩ : ∃ m, k = m + 1 := ⟨k - 1, by omega⟩
    have w1 : wrap64 ((a.length : Int) - 1) = ((a.length - 1 : Nat) : Int) := by rw [w64 (by omega) (by omega)]; omega
    have w2 : wrap64 ((a.length : Int) + 1) = ((a.length + 1 : Nat) : Int) := by rw [w64 (by omega) (by omega)]; omega
    simp only [impl_profile.l0, impl_held.f, Option.bind_some, w1, w2]
    rw [if_pos (by omega), if_pos (by omega), if_pos (by omega), if_pos (by omega), if_pos (by omega), if_pos (by omega)]
    have := ih k (a ++ [wst u v (rd_T41 B ((a.length - 1 : Nat) : Int)) (rd_T41 B (a.length : Int)) (rd a ((a.length - 1 : Nat) : Int))]) (by simp; omega) (by simp) (by simp; omega) (by omega)
    rw [List.length_append] at this
    exact this
theorem wy_facts (u v : Int) (B : List S41) (hu : 0 ≤ u ∧ u ≤ 1000) (hv : 0 ≤ v ∧ v ≤ 1000) (hb : ∀ j : Nat, j < B.length → (0 ≤ (rd_T41 B j).f0 ∧ (rd_T41 B j).f0 ≤ 100000) ∧ (0 ≤ (rd_T41 B j).f1 ∧ (rd_T41 B j).f1 ≤ (rd_T41 B j).f2 ∧ (rd_T41 B j).f2 ≤ 100000) ∧ (0 < j → (rd_T41 B ((j - 1 : Nat) : Int)).f0 < (rd_T41 B j).f0)) : ∀ (d : Nat) (a : List Int), B.length - a.length = d → 1 ≤ a.length → a.length ≤ B.length → (∀ j : Nat, j < a.length → 0 ≤ rd a j ∧ rd a j ≤ 100000) → (wy u v B d a).length = B.length ∧ (∀ j : Nat, j < B.length → 0 ≤ rd (wy u v B d a) j ∧ rd (wy u v B d a) j ≤ 100000) ∧ (∀ j : Nat, j < a.length → rd (wy u v B d a) j = rd a j) ∧ (∀ j : Nat, a.length ≤ j → j < B.length → rd (wy u v B d a) j = wst u v (rd_T41 B ((j - 1 : Nat) : Int)) (rd_T41 B (j : Int)) (rd (wy u v B d a) ((j - 1 : Nat) : Int))) := by
  intro d
  induction d with
  | zero =>
    intro a hd h1 h2 ha
    have e : a.length = B.length := by omega
    exact ⟨e, fun j hj => ha j (by omega), fun j _ => rfl, fun j g1 g2 => by omega⟩
  | succ d ih =>
    intro a hd h1 h2 ha
    obtain ⟨t, ht⟩ : ∃ t, wst u v (rd_T41 B ((a.length - 1 : Nat) : Int)) (rd_T41 B (a.length : Int)) (rd a ((a.length - 1 : Nat) : Int)) = t := ⟨_, rfl⟩
    have htb : 0 ≤ t ∧ t ≤ 100000 := by
      have hp := hb (a.length - 1) (by omega)
      have hq := hb a.length (by omega)
      have hn := ha (a.length - 1) (by omega)
      have hlt := hq.2.2 (by omega)
      generalize rd_T41 B ((a.length - 1 : Nat) : Int) = p at *
      generalize rd_T41 B (a.length : Int) = q at *
      generalize rd a ((a.length - 1 : Nat) : Int) = now at *
      have m1 := abs_mul (x := u) (y := q.f0 - p.f0) (A := 1000) (B := 100000) (by omega) (by omega) (by omega) (by omega)
      have m2 := abs_mul (x := v) (y := q.f0 - p.f0) (A := 1000) (B := 100000) (by omega) (by omega) (by omega) (by omega)
      have n1 := Int.mul_nonneg hu.1 (show 0 ≤ q.f0 - p.f0 by omega)
      have n2 := Int.mul_nonneg hv.1 (show 0 ≤ q.f0 - p.f0 by omega)
      rw [← ht]
      unfold wst
      rw [w64 (a := q.f0 - p.f0) (by omega) (by omega), w64 (a := u * (q.f0 - p.f0)) (by omega) (by omega), w64 (a := v * (q.f0 - p.f0)) (by omega) (by omega), w64 (a := now + u * (q.f0 - p.f0)) (by omega) (by omega), w64 (a := now - v * (q.f0 - p.f0)) (by omega) (by omega)]
      generalize u * (q.f0 - p.f0) = U at *
      generalize v * (q.f0 - p.f0) = V at *
      unfold mx mn
      obtain ⟨_, ⟨_, _, _⟩, _⟩ := hq
      repeat' split
      all_goals omega
    obtain ⟨g1, g2, g3, g4⟩ := ih (a ++ [t]) (by simp; omega) (by simp) (by simp; omega) (fun j hj => by
      rw [List.length_append] at hj
      by_cases e : j < a.length
      · rw [rdi_app _ _ _ e]; exact ha j e
      · obtain rfl : j = a.length := by simp at hj; omega
        rw [rdi_end]; exact htb)
    have ew : wy u v B (d + 1) a = wy u v B d (a ++ [t]) := by rw [← ht]; rfl
    rw [ew]
    refine ⟨g1, g2, fun j hj => (g3 j (by simp; omega)).trans (rdi_app _ _ _ hj), fun j h3 h4 => ?_⟩
    by_cases e : j = a.length
    · subst e
      rw [g3 a.length (by simp), rdi_end, g3 (a.length - 1) (by simp; omega), rdi_app _ _ _ (by omega), ht]
    · exact g4 j (by simp; omega) h4
theorem onward_i (u v : Int) (x : List S41) (h1 : 1 ≤ x.length) (h2 : x.length ≤ 30) : Ev (fun k => impl_onward.f k x u v) (match bk u v (x.length - 1) x with | some y => (y, true) | none => ([], false)) := by
  refine ⟨x.length + 1, fun k hk => ?_⟩
  show impl_onward.f k x u v = _
  unfold impl_onward.f impl_Point.f
  rw [Option.bind_some, if_pos (by simp only [List.length_nil]; omega), List.nil_append, Option.bind_some, w64 (a := (x.length : Int) - 2) (by omega) (by omega), show (x.length : Int) - 2 = ((x.length - 1 : Nat) : Int) - 1 by omega]
  exact onward_l u v (x.length - 1) k x (by omega) (by omega) (by omega)
theorem slopes_i (u v : Int) (x : List S41) (b : Bool) (hp : Ev (fun k => impl_PointsOk.f k x) b) : Ev (fun k => impl_slopesOk.f k x u v) (b && decide ((0 ≤ u ∧ u ≤ 1000) ∧ (0 ≤ v ∧ v ≤ 1000))) := by
  unfold impl_slopesOk.f
  refine ev_bind (G := fun _ t => if t = true then ((impl_in.f u 0 1000).bind fun t123 => (if t123 = true then ((impl_in.f v 0 1000).bind fun t124 => (some t124)) else (some false))) else (some false)) hp (ev_const ?_)
  rw [in_i, in_i, ← Bool.decide_and, ← Bool.decide_and, Option.bind_some]
  cases b
  · rfl
  · rw [if_pos rfl, Bool.true_and]
    by_cases h : 0 ≤ u ∧ u ≤ 1000
    · rw [decide_eq_true h, if_pos rfl, Option.bind_some]
      congr 1
      by_cases g : 0 ≤ v ∧ v ≤ 1000
      · rw [decide_eq_true g, decide_eq_true ⟨h, g⟩]
      · rw [decide_eq_false g, decide_eq_false (fun e => g e.2)]
    · rw [decide_eq_false h, if_neg (by decide), decide_eq_false (fun e => h e.1)]
theorem profile_i (u v : Int) (B : List S41) (h1 : 1 ≤ B.length) (h2 : B.length ≤ 30) (h : Int) : Ev (fun k => impl_profile.f k B u v h) (wy u v B (B.length - 1) [h]) :=
  ⟨B.length, fun k hk => profile_l u v B h2 (B.length - 1) k [h] (by simp) (by simp) (by simp; omega) (by omega)⟩
def ab (a : Int) : Int := if a < 0 then wrap64 (-a) else a
theorem size_i (a : Int) (h1 : -1000000 ≤ a) (h2 : a ≤ 1000000) : impl_size.f a = some (ab a) := by
  unfold impl_size.f ab mx
  rw [w64 (a := -a) (by omega) (by omega)]
  congr 1
  repeat' split
  all_goals omega
def sm (W : List Int) : Nat → Int → Nat → Int
  | 0, s, _ => s
  | d + 1, s, i => sm W d (wrap64 (s + ab (wrap64 (rd W (i : Int) - rd W ((i - 1 : Nat) : Int))))) (i + 1)
section
variable (W : List Int) (hW : W.length ≤ 30) (hb : ∀ j : Nat, j < W.length → 0 ≤ rd W j ∧ rd W j ≤ 100000)
include hW hb
omit hW in
theorem dif (i : Nat) (h1 : 1 ≤ i) (h2 : i < W.length) : wrap64 (rd W (i : Int) - rd W ((i - 1 : Nat) : Int)) = rd W (i : Int) - rd W ((i - 1 : Nat) : Int) ∧ -100000 ≤ rd W (i : Int) - rd W ((i - 1 : Nat) : Int) ∧ rd W (i : Int) - rd W ((i - 1 : Nat) : Int) ≤ 100000 ∧ 0 ≤ ab (rd W (i : Int) - rd W ((i - 1 : Nat) : Int)) ∧ ab (rd W (i : Int) - rd W ((i - 1 : Nat) : Int)) ≤ 100000 := by
  have a := hb i h2
  have b := hb (i - 1) (by omega)
  generalize rd W (i : Int) = p at *
  generalize rd W ((i - 1 : Nat) : Int) = q at *
  refine ⟨w64 (by omega) (by omega), by omega, by omega, ?_⟩
  unfold ab
  split
  · rw [w64 (by omega) (by omega)]; omega
  · omega
theorem sm_in : ∀ (d i : Nat) (s : Int), W.length - i = d → 1 ≤ i → 0 ≤ s → s ≤ 100000 * i → 0 ≤ sm W d s i := by
  intro d
  induction d with
  | zero => intro i s _ _ h0 _; exact h0
  | succ d ih =>
    intro i s hd h1 h0 h2
    obtain ⟨e1, e2, e3, e4, e5⟩ := dif W hb i h1 (by omega)
    simp only [sm]
    rw [e1, w64 (by omega) (by omega)]
    exact ih (i + 1) _ (by omega) (by omega) (by omega) (by omega)
end
def aftI (B : List S41) (u v b m h : Int) (k : Nat) (t : Int) : Option (Int × Bool) := if b < 0 then (impl_Best.l0 k u v B h t (wrap64 (h + 1))) else (if t < m then (impl_Best.l0 k u v B h t (wrap64 (h + 1))) else (impl_Best.l0 k u v B b m (wrap64 (h + 1))))
theorem sum_i (B : List S41) (W : List Int) (u v b m h : Int) (r : Int × Bool) (hW : W.length ≤ 30) (hb : ∀ j : Nat, j < W.length → 0 ≤ rd W j ∧ rd W j ≤ 100000) : ∀ (d i : Nat) (s : Int), W.length - i = d → 1 ≤ i → i ≤ 30 → Ev (fun k => aftI B u v b m h k (sm W d s i)) r → Ev (fun k => impl_Best.l1 k u v B b m h s (rd W ((i - 1 : Nat) : Int)) W (W.length : Int) (i : Int)) r := by
  intro d
  induction d with
  | zero =>
    intro i s hd h1 h2 he
    refine ev_step he fun k => ?_
    simp only [impl_Best.l1, aftI, sm]
    rw [if_neg (by omega)]
    rfl
  | succ d ih =>
    intro i s hd h1 h2 he
    obtain ⟨e1, e2, e3, e4, e5⟩ := dif W hb i h1 (by omega)
    have w2 : wrap64 ((i : Int) + 1) = ((i + 1 : Nat) : Int) := by rw [w64 (by omega) (by omega)]; omega
    simp only [sm] at he
    have hi := ih (i + 1) _ (by omega) (by omega) (by omega) he
    rw [show i + 1 - 1 = i by omega] at hi
    refine ev_step hi fun k => ?_
    simp only [impl_Best.l1, w2, e1, size_i _ (show -1000000 ≤ rd W (i : Int) - rd W ((i - 1 : Nat) : Int) by omega) (by omega), Option.bind_some]
    rw [if_pos (by omega), if_pos (by omega), if_pos (by omega)]
theorem sum_i0 (B : List S41) (W : List Int) (u v b m h : Int) (r : Int × Bool) (hW : W.length ≤ 30) (h1 : 1 ≤ W.length) (hb : ∀ j : Nat, j < W.length → 0 ≤ rd W j ∧ rd W j ≤ 100000) (h0 : rd W 0 = h) (he : Ev (fun k => aftI B u v b m h k (sm W (W.length - 1) 0 1)) r) : Ev (fun k => impl_Best.l1 k u v B b m h 0 h W (W.length : Int) 0) r := by
  have hi := sum_i B W u v b m h r hW hb (W.length - 1) 1 0 rfl (by omega) (by omega) he
  refine ev_step hi fun k => ?_
  have hz : wrap64 (h - h) = 0 := by rw [Int.sub_self]; exact w64 (by omega) (by omega)
  have hs : impl_size.f 0 = some 0 := by rw [size_i 0 (by omega) (by omega)]; unfold ab; rw [if_neg (by omega)]
  simp only [impl_Best.l1, h0, hz, hs, Option.bind_some]
  rw [if_pos (by omega), if_pos (by omega), if_pos (by omega)]
  rw [show ((1 - 1 : Nat) : Int) = 0 from rfl, h0, w64 (a := 0 + 0) (by omega) (by omega), w64 (a := 0 + 1) (by omega) (by omega)]
  rfl
/-- The point behind l, held to what a way on from l allows. -/
def fS (u v : Int) (l p : S41) : S41 := ⟨p.f0, mx p.f1 (wrap64 (l.f1 - wrap64 (v * wrap64 (p.f0 - l.f0)))), mn p.f2 (wrap64 (l.f2 + wrap64 (u * wrap64 (p.f0 - l.f0))))⟩
theorem rd_app (l : List S41) (v : S41) (i : Nat) (h : i < l.length) : rd_T41 (l ++ [v]) (i : Int) = rd_T41 l (i : Int) := by
  show (l ++ [v]).getD (i : Int).toNat z41 = l.getD (i : Int).toNat z41
  rw [Int.toNat_natCast, List.getD_eq_getElem?_getD, List.getD_eq_getElem?_getD, List.getElem?_append_left h]
theorem rd_end (l : List S41) (v : S41) : rd_T41 (l ++ [v]) (l.length : Int) = v := by
  show (l ++ [v]).getD (l.length : Int).toNat z41 = _
  rw [Int.toNat_natCast, List.getD_eq_getElem?_getD, List.getElem?_append_right (Nat.le_refl _), Nat.sub_self]; rfl
/-- The points of c are those that can be had, of x, ahead of its place c.length. -/
def Part (u v : Int) (x c : List S41) : Prop := c.length ≤ x.length ∧ ∀ j : Nat, j < c.length → (rd_T41 c (j : Int)).f0 = (rd_T41 x (j : Int)).f0 ∧ (rd_T41 c (j : Int)).f1 ≤ (rd_T41 c (j : Int)).f2 ∧ (j = 0 → (rd_T41 c (j : Int)).f1 = (rd_T41 x (j : Int)).f1 ∧ (rd_T41 c (j : Int)).f2 = (rd_T41 x (j : Int)).f2) ∧ (0 < j → rd_T41 c (j : Int) = fS u v (rd_T41 c ((j - 1 : Nat) : Int)) (rd_T41 x (j : Int)))
/-- What Reach tells of right points. -/
def Told (u v : Int) (x : List S41) (r : List S41 × Int × Bool) : Prop := r.2.2 = true ∧ Part u v x r.1 ∧ 0 < r.1.length ∧ ((r.2.1 = -1 ∧ r.1.length = x.length) ∨ (r.2.1 = (r.1.length : Int) ∧ r.1.length < x.length ∧ (fS u v (rd_T41 r.1 ((r.1.length - 1 : Nat) : Int)) (rd_T41 x (r.1.length : Int))).f1 > (fS u v (rd_T41 r.1 ((r.1.length - 1 : Nat) : Int)) (rd_T41 x (r.1.length : Int))).f2))
theorem part_app {u v : Int} {x c : List S41} {p : S41} (h : Part u v x c) (hl : c.length < x.length) (h0 : p.f0 = (rd_T41 x (c.length : Int)).f0) (h1 : p.f1 ≤ p.f2) (h2 : c.length = 0 → p.f1 = (rd_T41 x (c.length : Int)).f1 ∧ p.f2 = (rd_T41 x (c.length : Int)).f2) (h3 : 0 < c.length → p = fS u v (rd_T41 c ((c.length - 1 : Nat) : Int)) (rd_T41 x (c.length : Int))) : Part u v x (c ++ [p]) := by
  obtain ⟨g1, g2⟩ := h
  refine ⟨by rw [List.length_append, List.length_singleton]; omega, fun j hj => ?_⟩
  rw [List.length_append, List.length_singleton] at hj
  by_cases e : j < c.length
  · rw [rd_app c p j e]
    obtain ⟨q1, q2, q3, q4⟩ := g2 j e
    refine ⟨q1, q2, q3, fun hp => ?_⟩
    rw [rd_app c p (j - 1) (by omega)]; exact q4 hp
  · obtain rfl : j = c.length := by omega
    rw [rd_end c p]
    refine ⟨h0, h1, h2, fun hp => ?_⟩
    rw [rd_app c p (c.length - 1) (by omega)]; exact h3 hp
theorem reach_il (x0 : List S41) (u v : Int) (hp : PtsFrom x0 0) : ∀ (d i : Nat) (x9 : List S41), x0.length - i = d → i ≤ x0.length → x9.length = i → Part u v x0 x9 → ∃ r : List S41 × Int × Bool, Told u v x0 r ∧ ∀ k, d < k → impl_Reach.l0 k u v x9 x0 (x0.length : Int) (i : Int) = some r := by
  have hn := hp.2.2
  have hn1 := hp.2.1
  intro d
  induction d with
  | zero =>
    intro i x9 hd hi hl hP
    refine ⟨(x9, -1, true), ⟨rfl, hP, by simp only; omega, Or.inl ⟨rfl, by simp only; omega⟩⟩, fun k hk => ?_⟩
    obtain ⟨k, rfl⟩ : ∃ m, k = m + 1 := ⟨k - 1, by omega⟩
    simp only [impl_Reach.l0]
    rw [if_neg (by omega)]
  | succ d ih =>
    intro i x9 hd hi hl hP
    have hlt : i < x0.length := by omega
    have w1 : wrap64 ((i : Int) + 1) = ((i + 1 : Nat) : Int) := by rw [w64 (by omega) (by omega)]; omega
    obtain ⟨_, ⟨_, p2⟩, _, _⟩ := hp.1 i (Nat.zero_le _) hlt
    by_cases h0 : (i : Int) > 0
    · have w0 : wrap64 ((i : Int) - 1) = ((i - 1 : Nat) : Int) := by rw [w64 (by omega) (by omega)]; omega
      by_cases hAB : (fS u v (rd_T41 x9 ((i - 1 : Nat) : Int)) (rd_T41 x0 (i : Int))).f1 > (fS u v (rd_T41 x9 ((i - 1 : Nat) : Int)) (rd_T41 x0 (i : Int))).f2
      · refine ⟨(x9, (i : Int), true), ⟨rfl, hP, by simp only; omega, Or.inr ⟨by simp only; omega, by simp only; omega, by simp only; rw [hl]; exact hAB⟩⟩, fun k hk => ?_⟩
        obtain ⟨k, rfl⟩ : ∃ m, k = m + 1 := ⟨k - 1, by omega⟩
        simp only [fS] at hAB
        simp only [impl_Reach.l0, w0, Option.bind_some, if_pos hAB]
        rw [if_pos (by omega), if_pos (by omega), if_pos (by omega), if_pos h0, if_pos (by omega)]
        rw [if_pos (by omega)]
      · obtain ⟨r, hr, h⟩ := ih (i + 1) (x9 ++ [fS u v (rd_T41 x9 ((i - 1 : Nat) : Int)) (rd_T41 x0 (i : Int))]) (by omega) (by omega) (by rw [List.length_append, List.length_singleton]; omega) (part_app hP (by omega) (by rw [hl]; rfl) (by omega) (fun e => by omega) (fun _ => by rw [hl]))
        refine ⟨r, hr, fun k hk => ?_⟩
        obtain ⟨k, rfl⟩ : ∃ m, k = m + 1 := ⟨k - 1, by omega⟩
        have := h k (by omega)
        simp only [fS] at hAB this
        simp only [impl_Reach.l0, w0, w1, Option.bind_some, if_neg hAB]
        rw [if_pos (by omega), if_pos (by omega), if_pos (by omega), if_pos h0, if_pos (by omega), if_pos (by omega), if_pos (by omega)]
        exact this
    · have hAB : ¬ (rd_T41 x0 (i : Int)).f1 > (rd_T41 x0 (i : Int)).f2 := by omega
      obtain ⟨r, hr, h⟩ := ih (i + 1) (x9 ++ [⟨(rd_T41 x0 (i : Int)).f0, (rd_T41 x0 (i : Int)).f1, (rd_T41 x0 (i : Int)).f2⟩]) (by omega) (by omega) (by rw [List.length_append, List.length_singleton]; omega) (part_app hP (by omega) (by rw [hl]) (by simp only; omega) (fun e => by rw [hl]; exact ⟨rfl, rfl⟩) (fun _ => by omega))
      refine ⟨r, hr, fun k hk => ?_⟩
      obtain ⟨k, rfl⟩ : ∃ m, k = m + 1 := ⟨k - 1, by omega⟩
      have := h k (by omega)
      simp only [impl_Reach.l0, w1, if_neg h0, if_neg hAB]
      rw [if_pos (by omega), if_pos (by omega), if_pos (by omega), if_pos (by omega)]
      exact this
theorem reach_i (x : List S41) (u v : Int) (hp : PtsFrom x 0) (hu : 0 ≤ u ∧ u ≤ 1000) (hv : 0 ≤ v ∧ v ≤ 1000) : ∃ r : List S41 × Int × Bool, Told u v x r ∧ Ev (fun k => impl_Reach.f k x u v) r := by
  have hn := hp.2.2
  obtain ⟨b, ps, pi, pg⟩ := points x (by omega)
  obtain rfl : b = true := pg.2 hp
  have ei : Ev (fun k => impl_PointsOk.f k x) true := ⟨x.length + 1, fun k hk => pi k (by omega)⟩
  have sl := slopes_i u v x true ei
  obtain ⟨r, hr, h⟩ := reach_il x u v hp x.length 0 [] (by omega) (by omega) rfl ⟨by simp, fun j h => absurd h (Nat.not_lt_zero _)⟩
  refine ⟨r, hr, ?_⟩
  obtain ⟨K, hK⟩ := sl
  refine ⟨K + x.length + 1, fun k hk => ?_⟩
  show impl_Reach.f k x u v = _
  unfold impl_Reach.f
  rw [show impl_slopesOk.f k x u v = _ from hK k (by omega), Option.bind_some, decide_eq_true ⟨hu, hv⟩]
  exact h k (by omega)
/-- Right points: what a step between two of them comes to. -/
theorem pt_gap {x : List S41} (hp : PtsFrom x 0) {j : Nat} (h0 : 0 < j) (h1 : j < x.length) : 0 < (rd_T41 x (j : Int)).f0 - (rd_T41 x ((j - 1 : Nat) : Int)).f0 ∧ (rd_T41 x (j : Int)).f0 - (rd_T41 x ((j - 1 : Nat) : Int)).f0 ≤ 100000 := by
  obtain ⟨a1, a2, a3, a4⟩ := hp.1 j (Nat.zero_le _) h1
  obtain ⟨b1, b2, b3, b4⟩ := hp.1 (j - 1) (Nat.zero_le _) (by omega)
  have := a4 h0
  rw [show (j : Int) - 1 = ((j - 1 : Nat) : Int) by omega] at this
  omega
theorem slope_in {u d : Int} (hu : 0 ≤ u ∧ u ≤ 1002) (hd : 0 < d ∧ d ≤ 100000) : 0 ≤ u * d ∧ u * d ≤ 100200000 := by
  refine ⟨Int.mul_nonneg hu.1 (by omega), ?_⟩
  have h1 : u * d ≤ 1002 * d := Int.mul_le_mul_of_nonneg_right hu.2 (by omega)
  omega
/-- The step forth, over numbers that are never too great. -/
theorem fS_n {u v : Int} (hu : 0 ≤ u ∧ u ≤ 1002) (hv : 0 ≤ v ∧ v ≤ 1002) {l p : S41} (hd : 0 < p.f0 - l.f0 ∧ p.f0 - l.f0 ≤ 100000) (h1 : 0 ≤ l.f1 ∧ l.f1 ≤ 100000) (h2 : 0 ≤ l.f2 ∧ l.f2 ≤ 100000) : (fS u v l p).f0 = p.f0 ∧ (fS u v l p).f1 = max p.f1 (l.f1 - v * (p.f0 - l.f0)) ∧ (fS u v l p).f2 = min p.f2 (l.f2 + u * (p.f0 - l.f0)) := by
  have a := slope_in hu hd
  have b := slope_in hv hd
  unfold fS
  rw [w64 (a := p.f0 - l.f0) (by omega) (by omega), w64 (a := u * (p.f0 - l.f0)) (by omega) (by omega), w64 (a := v * (p.f0 - l.f0)) (by omega) (by omega), w64 (a := l.f1 - v * (p.f0 - l.f0)) (by omega) (by omega), w64 (a := l.f2 + u * (p.f0 - l.f0)) (by omega) (by omega)]
  generalize v * (p.f0 - l.f0) = V at *
  generalize u * (p.f0 - l.f0) = U at *
  refine ⟨rfl, ?_, ?_⟩
  · show mx _ _ = _; unfold mx; omega
  · show mn _ _ = _; unfold mn; omega
section
variable {x : List S41} (hp : PtsFrom x 0) {u v : Int} (hu : 0 ≤ u ∧ u ≤ 1002) (hv : 0 ≤ v ∧ v ≤ 1002)
include hp hu hv
/-- What can be had lies within the point's bounds, and follows from the one before. -/
theorem part_in {c : List S41} (h : Part u v x c) : ∀ j : Nat, j < c.length → ((rd_T41 x (j : Int)).f1 ≤ (rd_T41 c (j : Int)).f1 ∧ (rd_T41 c (j : Int)).f1 ≤ (rd_T41 c (j : Int)).f2 ∧ (rd_T41 c (j : Int)).f2 ≤ (rd_T41 x (j : Int)).f2) ∧ (0 ≤ (rd_T41 c (j : Int)).f1 ∧ (rd_T41 c (j : Int)).f2 ≤ 100000) := by
  intro j
  induction j with
  | zero =>
    intro hj
    obtain ⟨g1, g2⟩ := h
    obtain ⟨q1, q2, q3, q4⟩ := g2 0 hj
    obtain ⟨e1, e2⟩ := q3 rfl
    obtain ⟨a1, a2, a3, a4⟩ := hp.1 0 (Nat.zero_le _) (by omega)
    omega
  | succ j ih =>
    intro hj
    obtain ⟨i1, i2⟩ := ih (by omega)
    have g1 := h.1
    obtain ⟨q1, q2, q3, q4⟩ := h.2 (j + 1) hj
    have e := q4 (by omega)
    rw [show j + 1 - 1 = j by omega] at e
    have gp := pt_gap hp (j := j + 1) (by omega) (by omega)
    rw [show j + 1 - 1 = j by omega] at gp
    have f0 := (h.2 j (by omega)).1
    obtain ⟨a1, a2, a3, a4⟩ := hp.1 (j + 1) (Nat.zero_le _) (by omega)
    obtain ⟨_, n1, n2⟩ := fS_n hu hv (l := rd_T41 c (j : Int)) (p := rd_T41 x ((j + 1 : Nat) : Int)) (by omega) (by omega) (by omega)
    rw [← e] at n1 n2
    omega
/-- From one place to the next. -/
theorem part_step {c : List S41} (h : Part u v x c) {j : Nat} (h0 : 0 < j) (hj : j < c.length) : (rd_T41 c (j : Int)).f1 = max (rd_T41 x (j : Int)).f1 ((rd_T41 c ((j - 1 : Nat) : Int)).f1 - v * ((rd_T41 x (j : Int)).f0 - (rd_T41 x ((j - 1 : Nat) : Int)).f0)) ∧ (rd_T41 c (j : Int)).f2 = min (rd_T41 x (j : Int)).f2 ((rd_T41 c ((j - 1 : Nat) : Int)).f2 + u * ((rd_T41 x (j : Int)).f0 - (rd_T41 x ((j - 1 : Nat) : Int)).f0)) := by
  have g1 := h.1
  obtain ⟨q1, q2, q3, q4⟩ := h.2 j hj
  have e := q4 h0
  have gp := pt_gap hp h0 (by omega)
  have f0 := (h.2 (j - 1) (by omega)).1
  obtain ⟨i1, i2⟩ := part_in hp hu hv h (j - 1) (by omega)
  obtain ⟨_, n1, n2⟩ := fS_n hu hv (l := rd_T41 c ((j - 1 : Nat) : Int)) (p := rd_T41 x (j : Int)) (by omega) (by omega) (by omega)
  rw [← e, f0] at n1 n2
  exact ⟨n1, n2⟩
end
/-- Greater slopes: no less can be had. -/
theorem part_more {x : List S41} (hp : PtsFrom x 0) {u v u' v' : Int} (hu : 0 ≤ u ∧ u ≤ 1002) (hv : 0 ≤ v ∧ v ≤ 1002) (hu' : u ≤ u' ∧ u' ≤ 1002) (hv' : v ≤ v' ∧ v' ≤ 1002) {c c' : List S41} (h : Part u v x c) (h' : Part u' v' x c') : ∀ j : Nat, j < c.length → j < c'.length → (rd_T41 c' (j : Int)).f1 ≤ (rd_T41 c (j : Int)).f1 ∧ (rd_T41 c (j : Int)).f2 ≤ (rd_T41 c' (j : Int)).f2 := by
  intro j
  induction j with
  | zero =>
    intro h1 h2
    obtain ⟨_, _, a, _⟩ := h.2 0 h1
    obtain ⟨_, _, b, _⟩ := h'.2 0 h2
    have := a rfl
    have := b rfl
    omega
  | succ j ih =>
    intro h1 h2
    obtain ⟨i1, i2⟩ := ih (by omega) (by omega)
    have g1 := h.1
    have gp := pt_gap hp (j := j + 1) (by omega) (by omega)
    obtain ⟨a1, a2⟩ := part_step hp hu hv h (j := j + 1) (by omega) h1
    obtain ⟨b1, b2⟩ := part_step hp (u := u') (v := v') (by omega) (by omega) h' (j := j + 1) (by omega) h2
    rw [show j + 1 - 1 = j by omega] at *
    have m1 : u * ((rd_T41 x ((j + 1 : Nat) : Int)).f0 - (rd_T41 x (j : Int)).f0) ≤ u' * ((rd_T41 x ((j + 1 : Nat) : Int)).f0 - (rd_T41 x (j : Int)).f0) := Int.mul_le_mul_of_nonneg_right hu'.1 (by omega)
    have m2 : v * ((rd_T41 x ((j + 1 : Nat) : Int)).f0 - (rd_T41 x (j : Int)).f0) ≤ v' * ((rd_T41 x ((j + 1 : Nat) : Int)).f0 - (rd_T41 x (j : Int)).f0) := Int.mul_le_mul_of_nonneg_right hv'.1 (by omega)
    generalize u * ((rd_T41 x ((j + 1 : Nat) : Int)).f0 - (rd_T41 x (j : Int)).f0) = U1 at *
    generalize u' * ((rd_T41 x ((j + 1 : Nat) : Int)).f0 - (rd_T41 x (j : Int)).f0) = U2 at *
    generalize v * ((rd_T41 x ((j + 1 : Nat) : Int)).f0 - (rd_T41 x (j : Int)).f0) = V1 at *
    generalize v' * ((rd_T41 x ((j + 1 : Nat) : Int)).f0 - (rd_T41 x (j : Int)).f0) = V2 at *
    omega
/-- .. and no sooner does it end. -/
theorem told_more {x : List S41} (hp : PtsFrom x 0) {u v u' v' : Int} (hu : 0 ≤ u ∧ u ≤ 1002) (hv : 0 ≤ v ∧ v ≤ 1002) (hu' : u ≤ u' ∧ u' ≤ 1002) (hv' : v ≤ v' ∧ v' ≤ 1002) {r r' : List S41 × Int × Bool} (h : Told u v x r) (h' : Told u' v' x r') : r.1.length ≤ r'.1.length := by
  obtain ⟨_, P, l0, _⟩ := h
  obtain ⟨_, P', l0', o'⟩ := h'
  rcases o' with ⟨_, e⟩ | ⟨_, lt, bad⟩
  · rw [e]; exact P.1
  · refine Decidable.byContradiction fun hc => ?_
    have hc : r'.1.length < r.1.length := by omega
    have gp := pt_gap hp (j := r'.1.length) l0' lt
    obtain ⟨m1, m2⟩ := part_more hp hu hv hu' hv' P P' (r'.1.length - 1) (by omega) (by omega)
    obtain ⟨a1, a2⟩ := part_step hp hu hv P l0' hc
    obtain ⟨b1, b2⟩ := part_in hp hu hv P r'.1.length hc
    obtain ⟨c1, c2⟩ := part_in hp (u := u') (v := v') (by omega) (by omega) P' (r'.1.length - 1) (by omega)
    have f0 := (P'.2 (r'.1.length - 1) (by omega)).1
    obtain ⟨_, n1, n2⟩ := fS_n (u := u') (v := v') (by omega) (by omega) (l := rd_T41 r'.1 ((r'.1.length - 1 : Nat) : Int)) (p := rd_T41 x (r'.1.length : Int)) (by omega) (by omega) (by omega)
    rw [n1, n2, f0] at bad
    have k1 : u * ((rd_T41 x (r'.1.length : Int)).f0 - (rd_T41 x ((r'.1.length - 1 : Nat) : Int)).f0) ≤ u' * ((rd_T41 x (r'.1.length : Int)).f0 - (rd_T41 x ((r'.1.length - 1 : Nat) : Int)).f0) := Int.mul_le_mul_of_nonneg_right hu'.1 (by omega)
    have k2 : v * ((rd_T41 x (r'.1.length : Int)).f0 - (rd_T41 x ((r'.1.length - 1 : Nat) : Int)).f0) ≤ v' * ((rd_T41 x (r'.1.length : Int)).f0 - (rd_T41 x ((r'.1.length - 1 : Nat) : Int)).f0) := Int.mul_le_mul_of_nonneg_right hv'.1 (by omega)
    generalize u * ((rd_T41 x (r'.1.length : Int)).f0 - (rd_T41 x ((r'.1.length - 1 : Nat) : Int)).f0) = U1 at *
    generalize u' * ((rd_T41 x (r'.1.length : Int)).f0 - (rd_T41 x ((r'.1.length - 1 : Nat) : Int)).f0) = U2 at *
    generalize v * ((rd_T41 x (r'.1.length : Int)).f0 - (rd_T41 x ((r'.1.length - 1 : Nat) : Int)).f0) = V1 at *
    generalize v' * ((rd_T41 x (r'.1.length : Int)).f0 - (rd_T41 x ((r'.1.length - 1 : Nat) : Int)).f0) = V2 at *
    obtain ⟨x1, ⟨x2, x3⟩, x4, x5⟩ := hp.1 r'.1.length (Nat.zero_le _) lt
    omega
/-- The step back, over numbers that are never too great. -/
theorem bkS_n {u v : Int} (hu : 0 ≤ u ∧ u ≤ 1002) (hv : 0 ≤ v ∧ v ≤ 1002) {q p : S41} (hd : 0 < q.f0 - p.f0 ∧ q.f0 - p.f0 ≤ 100000) (h1 : 0 ≤ q.f1 ∧ q.f1 ≤ 100000) (h2 : 0 ≤ q.f2 ∧ q.f2 ≤ 100000) : (bkS u v q p).f0 = p.f0 ∧ (bkS u v q p).f1 = max p.f1 (q.f1 - u * (q.f0 - p.f0)) ∧ (bkS u v q p).f2 = min p.f2 (q.f2 + v * (q.f0 - p.f0)) := by
  have a := slope_in hu hd
  have b := slope_in hv hd
  unfold bkS
  rw [w64 (a := q.f0 - p.f0) (by omega) (by omega), w64 (a := u * (q.f0 - p.f0)) (by omega) (by omega), w64 (a := v * (q.f0 - p.f0)) (by omega) (by omega), w64 (a := q.f1 - u * (q.f0 - p.f0)) (by omega) (by omega), w64 (a := q.f2 + v * (q.f0 - p.f0)) (by omega) (by omega)]
  generalize v * (q.f0 - p.f0) = V at *
  generalize u * (q.f0 - p.f0) = U at *
  refine ⟨rfl, ?_, ?_⟩
  · show mx _ _ = _; unfold mx; omega
  · show mn _ _ = _; unfold mn; omega
/-- Where all points can be had, a way back is there: at each place a height that can be had, and from which a way through all that follow is. -/
theorem forth_back {x : List S41} (hp : PtsFrom x 0) {u v : Int} (hu : 0 ≤ u ∧ u ≤ 1002) (hv : 0 ≤ v ∧ v ≤ 1002) {c : List S41} (h : Part u v x c) (hc : c.length = x.length) : ∀ (n : Nat) (z : List S41), n + 1 ≤ x.length → z.length = x.length → (∀ j : Nat, j < n → rd_T41 z (j : Int) = rd_T41 x (j : Int)) → (rd_T41 z (n : Int)).f0 = (rd_T41 x (n : Int)).f0 → (∃ y, (rd_T41 z (n : Int)).f1 ≤ y ∧ y ≤ (rd_T41 z (n : Int)).f2 ∧ (rd_T41 c (n : Int)).f1 ≤ y ∧ y ≤ (rd_T41 c (n : Int)).f2) → 0 ≤ (rd_T41 z (n : Int)).f1 → (rd_T41 z (n : Int)).f2 ≤ 100000 → ∃ B, bk u v n z = some B := by
  intro n
  induction n with
  | zero => intro z _ _ _ _ _ _ _; exact ⟨z, rfl⟩
  | succ n ih =>
    intro z h1 hz h2 h3 ⟨y, y1, y2, y3, y4⟩ b1 b2
    have gp := pt_gap hp (j := n + 1) (by omega) (by omega)
    obtain ⟨a1, a2⟩ := part_step hp hu hv h (j := n + 1) (by omega) (by omega)
    rw [show n + 1 - 1 = n by omega] at *
    obtain ⟨i1, i2⟩ := part_in hp hu hv h n (by omega)
    have zn := h2 n (by omega)
    obtain ⟨k0, k1, k2⟩ := bkS_n hu hv (q := rd_T41 z ((n + 1 : Nat) : Int)) (p := rd_T41 z (n : Int)) (by rw [zn, h3]; exact gp) (by omega) (by omega)
    rw [zn, h3] at k1 k2
    rw [zn] at k0
    have s1 := slope_in hu gp
    have s2 := slope_in hv gp
    obtain ⟨x1, ⟨x2, x3⟩, x4, x5⟩ := hp.1 n (Nat.zero_le _) (by omega)
    have key : ∃ y', (bkS u v (rd_T41 z ((n + 1 : Nat) : Int)) (rd_T41 z (n : Int))).f1 ≤ y' ∧ y' ≤ (bkS u v (rd_T41 z ((n + 1 : Nat) : Int)) (rd_T41 z (n : Int))).f2 ∧ (rd_T41 c (n : Int)).f1 ≤ y' ∧ y' ≤ (rd_T41 c (n : Int)).f2 := by
      rw [zn, k1, k2]
      generalize u * ((rd_T41 x ((n + 1 : Nat) : Int)).f0 - (rd_T41 x (n : Int)).f0) = U at *
      generalize v * ((rd_T41 x ((n + 1 : Nat) : Int)).f0 - (rd_T41 x (n : Int)).f0) = V at *
      refine ⟨max (rd_T41 c (n : Int)).f1 (y - U), ?_, ?_, ?_, ?_⟩ <;> omega
    have hneg : ¬ (bkS u v (rd_T41 z ((n + 1 : Nat) : Int)) (rd_T41 z (n : Int))).f1 > (bkS u v (rd_T41 z ((n + 1 : Nat) : Int)) (rd_T41 z (n : Int))).f2 := by
      obtain ⟨y', e1, e2, _, _⟩ := key; omega
    rw [bk_neg hneg]
    have rs := rds_eq z n (bkS u v (rd_T41 z ((n + 1 : Nat) : Int)) (rd_T41 z (n : Int))) (by omega)
    refine ih (z.set n (bkS u v (rd_T41 z ((n + 1 : Nat) : Int)) (rd_T41 z (n : Int)))) (by omega) (by rw [List.length_set]; exact hz) (fun j hj => ?_) (by rw [rs, zn]; exact k0) (by rw [rs]; exact key) (by rw [rs, zn, k1]; omega) (by rw [rs, zn, k2]; omega)
    rw [rds_ne z n j _ (by omega)]; exact h2 j (by omega)
/-- A way that keeps to points and slopes keeps to what can be had. -/
theorem way_in {x : List S41} (hp : PtsFrom x 0) {u v : Int} (hu : 0 ≤ u ∧ u ≤ 1002) (hv : 0 ≤ v ∧ v ≤ 1002) {c : List S41} (h : Part u v x c) (W : List Int) (h1 : ∀ j : Nat, j < x.length → (rd_T41 x (j : Int)).f1 ≤ rd W (j : Int) ∧ rd W (j : Int) ≤ (rd_T41 x (j : Int)).f2) (h2 : ∀ j : Nat, 0 < j → j < x.length → rd W (j : Int) - rd W ((j - 1 : Nat) : Int) ≤ u * ((rd_T41 x (j : Int)).f0 - (rd_T41 x ((j - 1 : Nat) : Int)).f0) ∧ rd W ((j - 1 : Nat) : Int) - rd W (j : Int) ≤ v * ((rd_T41 x (j : Int)).f0 - (rd_T41 x ((j - 1 : Nat) : Int)).f0)) : ∀ j : Nat, j < c.length → (rd_T41 c (j : Int)).f1 ≤ rd W (j : Int) ∧ rd W (j : Int) ≤ (rd_T41 c (j : Int)).f2 := by
  intro j
  induction j with
  | zero =>
    intro hj
    have g1 := h.1
    obtain ⟨_, _, a, _⟩ := h.2 0 hj
    obtain ⟨e1, e2⟩ := a rfl
    have := h1 0 (by omega)
    omega
  | succ j ih =>
    intro hj
    have g1 := h.1
    obtain ⟨i1, i2⟩ := ih (by omega)
    obtain ⟨a1, a2⟩ := part_step hp hu hv h (j := j + 1) (by omega) hj
    have b := h1 (j + 1) (by omega)
    have d := h2 (j + 1) (by omega) (by omega)
    rw [show j + 1 - 1 = j by omega] at *
    generalize u * ((rd_T41 x ((j + 1 : Nat) : Int)).f0 - (rd_T41 x (j : Int)).f0) = U at *
    generalize v * ((rd_T41 x ((j + 1 : Nat) : Int)).f0 - (rd_T41 x (j : Int)).f0) = V at *
    omega
/-- .. and where it keeps to all of them, what can be had never ends. -/
theorem way_all {x : List S41} (hp : PtsFrom x 0) {u v : Int} (hu : 0 ≤ u ∧ u ≤ 1002) (hv : 0 ≤ v ∧ v ≤ 1002) {r : List S41 × Int × Bool} (h : Told u v x r) (W : List Int) (h1 : ∀ j : Nat, j < x.length → (rd_T41 x (j : Int)).f1 ≤ rd W (j : Int) ∧ rd W (j : Int) ≤ (rd_T41 x (j : Int)).f2) (h2 : ∀ j : Nat, 0 < j → j < x.length → rd W (j : Int) - rd W ((j - 1 : Nat) : Int) ≤ u * ((rd_T41 x (j : Int)).f0 - (rd_T41 x ((j - 1 : Nat) : Int)).f0) ∧ rd W ((j - 1 : Nat) : Int) - rd W (j : Int) ≤ v * ((rd_T41 x (j : Int)).f0 - (rd_T41 x ((j - 1 : Nat) : Int)).f0)) : r.2.1 = -1 ∧ r.1.length = x.length := by
  obtain ⟨_, P, l0, o⟩ := h
  rcases o with o | ⟨_, lt, bad⟩
  · exact o
  · exfalso
    have gp := pt_gap hp (j := r.1.length) l0 lt
    obtain ⟨i1, i2⟩ := way_in hp hu hv P W h1 h2 (r.1.length - 1) (by omega)
    obtain ⟨c1, c2⟩ := part_in hp hu hv P (r.1.length - 1) (by omega)
    have f0 := (P.2 (r.1.length - 1) (by omega)).1
    obtain ⟨_, n1, n2⟩ := fS_n hu hv (l := rd_T41 r.1 ((r.1.length - 1 : Nat) : Int)) (p := rd_T41 x (r.1.length : Int)) (by omega) (by omega) (by omega)
    rw [n1, n2, f0] at bad
    have b := h1 r.1.length lt
    have d := h2 r.1.length l0 lt
    generalize u * ((rd_T41 x (r.1.length : Int)).f0 - (rd_T41 x ((r.1.length - 1 : Nat) : Int)).f0) = U at *
    generalize v * ((rd_T41 x (r.1.length : Int)).f0 - (rd_T41 x ((r.1.length - 1 : Nat) : Int)).f0) = V at *
    omega
theorem bk_range {x : List S41} (hp : PtsFrom x 0) {u v : Int} {B : List S41} (hb : bk u v (x.length - 1) x = some B) : B.length = x.length ∧ ∀ j : Nat, j < B.length → (0 ≤ (rd_T41 B j).f0 ∧ (rd_T41 B j).f0 ≤ 100000) ∧ (0 ≤ (rd_T41 B j).f1 ∧ (rd_T41 B j).f1 ≤ (rd_T41 B j).f2 ∧ (rd_T41 B j).f2 ≤ 100000) ∧ (0 < j → (rd_T41 B ((j - 1 : Nat) : Int)).f0 < (rd_T41 B j).f0) := by
  have hp1 := hp.2.1
  obtain ⟨f1, f2, f3, f4⟩ := bk_facts u v (x.length - 1) x B (by omega) hb
  refine ⟨f1, fun j hj => ?_⟩
  obtain ⟨q1, q2, q3, q4⟩ := hp.1 j (Nat.zero_le _) (by omega)
  obtain ⟨g1, g2, g3⟩ := f2 j
  have g4 := (f2 (j - 1)).1
  have hle : (rd_T41 B j).f1 ≤ (rd_T41 B j).f2 := by
    by_cases e : j < x.length - 1
    · exact (f4 j e).1
    · rw [f3 j (by omega)]; omega
  refine ⟨by omega, by omega, fun hj0 => ?_⟩
  have := q4 hj0
  rw [show (j : Int) - 1 = ((j - 1 : Nat) : Int) by omega] at this
  rw [g4, g1]; exact this
/-- The way that is told keeps to the points and to both slopes. -/
theorem wy_way {x : List S41} (hp : PtsFrom x 0) {u v : Int} (hu : 0 ≤ u ∧ u ≤ 1000) (hv : 0 ≤ v ∧ v ≤ 1000) {B : List S41} (hb : bk u v (x.length - 1) x = some B) (h : Int) (h1 : (rd_T41 B 0).f1 ≤ h) (h2 : h ≤ (rd_T41 B 0).f2) : (wy u v B (B.length - 1) [h]).length = x.length ∧ (∀ j : Nat, j < B.length → 0 ≤ rd (wy u v B (B.length - 1) [h]) j ∧ rd (wy u v B (B.length - 1) [h]) j ≤ 100000) ∧ rd (wy u v B (B.length - 1) [h]) 0 = h ∧ (∀ j : Nat, j < x.length → (rd_T41 x (j : Int)).f1 ≤ rd (wy u v B (B.length - 1) [h]) (j : Int) ∧ rd (wy u v B (B.length - 1) [h]) (j : Int) ≤ (rd_T41 x (j : Int)).f2) ∧ (∀ j : Nat, 0 < j → j < x.length → rd (wy u v B (B.length - 1) [h]) (j : Int) - rd (wy u v B (B.length - 1) [h]) ((j - 1 : Nat) : Int) ≤ u * ((rd_T41 x (j : Int)).f0 - (rd_T41 x ((j - 1 : Nat) : Int)).f0) ∧ rd (wy u v B (B.length - 1) [h]) ((j - 1 : Nat) : Int) - rd (wy u v B (B.length - 1) [h]) (j : Int) ≤ v * ((rd_T41 x (j : Int)).f0 - (rd_T41 x ((j - 1 : Nat) : Int)).f0)) := by
  have hp1 := hp.2.1
  have hp2 := hp.2.2
  obtain ⟨f1, f2, f3, f4⟩ := bk_facts u v (x.length - 1) x B (by omega) hb
  obtain ⟨_, bd⟩ := bk_range hp hb
  have b0 : 0 ≤ (rd_T41 B 0).f1 ∧ (rd_T41 B 0).f1 ≤ (rd_T41 B 0).f2 ∧ (rd_T41 B 0).f2 ≤ 100000 := (bd 0 (by omega)).2.1
  obtain ⟨w1, w2, w3, w4⟩ := wy_facts u v B hu hv bd (B.length - 1) [h] (by simp) (by simp) (by simp; omega) (fun j hj => by
    have : j = 0 := by simp at hj; omega
    subst this
    show 0 ≤ h ∧ h ≤ 100000
    omega)
  have w0 : rd (wy u v B (B.length - 1) [h]) 0 = h := w3 0 (by simp)
  simp only [List.length_singleton] at w4
  generalize wy u v B (B.length - 1) [h] = W at *
  have step : ∀ j : Nat, 0 < j → j < x.length → ((rd_T41 B ((j - 1 : Nat) : Int)).f1 ≤ rd W ((j - 1 : Nat) : Int) ∧ rd W ((j - 1 : Nat) : Int) ≤ (rd_T41 B ((j - 1 : Nat) : Int)).f2) → ((rd_T41 B (j : Int)).f1 ≤ rd W (j : Int) ∧ rd W (j : Int) ≤ (rd_T41 B (j : Int)).f2) ∧ rd W (j : Int) - rd W ((j - 1 : Nat) : Int) ≤ u * ((rd_T41 x (j : Int)).f0 - (rd_T41 x ((j - 1 : Nat) : Int)).f0) ∧ rd W ((j - 1 : Nat) : Int) - rd W (j : Int) ≤ v * ((rd_T41 x (j : Int)).f0 - (rd_T41 x ((j - 1 : Nat) : Int)).f0) := by
    intro j h0 hj hin
    have e := w4 j h0 (by omega)
    have gp := pt_gap hp h0 hj
    obtain ⟨_, bj, _⟩ := bd j (by omega)
    have back := (f4 (j - 1) (by omega)).2
    rw [show j - 1 + 1 = j by omega] at back
    have d1 := (f2 j).1
    have d0 := (f2 (j - 1)).1
    obtain ⟨_, k1, k2⟩ := bkS_n (u := u) (v := v) (by omega) (by omega) (q := rd_T41 B (j : Int)) (p := rd_T41 x ((j - 1 : Nat) : Int)) (by rw [d1]; exact gp) (by omega) (by omega)
    rw [← back, d1] at k1 k2
    have now := w2 (j - 1) (by omega)
    have s1 := slope_in (u := u) (by omega) gp
    have s2 := slope_in (u := v) (by omega) gp
    have e2 : rd W (j : Int) = max (min (rd W ((j - 1 : Nat) : Int)) (min (rd_T41 B (j : Int)).f2 (rd W ((j - 1 : Nat) : Int) + u * ((rd_T41 x (j : Int)).f0 - (rd_T41 x ((j - 1 : Nat) : Int)).f0)))) (max (rd_T41 B (j : Int)).f1 (rd W ((j - 1 : Nat) : Int) - v * ((rd_T41 x (j : Int)).f0 - (rd_T41 x ((j - 1 : Nat) : Int)).f0))) := by
      rw [e]
      unfold wst
      rw [d1, d0, w64 (a := (rd_T41 x (j : Int)).f0 - (rd_T41 x ((j - 1 : Nat) : Int)).f0) (by omega) (by omega), w64 (a := u * ((rd_T41 x (j : Int)).f0 - (rd_T41 x ((j - 1 : Nat) : Int)).f0)) (by omega) (by omega), w64 (a := v * ((rd_T41 x (j : Int)).f0 - (rd_T41 x ((j - 1 : Nat) : Int)).f0)) (by omega) (by omega)]
      generalize u * ((rd_T41 x (j : Int)).f0 - (rd_T41 x ((j - 1 : Nat) : Int)).f0) = U at *
      generalize v * ((rd_T41 x (j : Int)).f0 - (rd_T41 x ((j - 1 : Nat) : Int)).f0) = V at *
      rw [w64 (a := rd W ((j - 1 : Nat) : Int) + U) (by omega) (by omega), w64 (a := rd W ((j - 1 : Nat) : Int) - V) (by omega) (by omega)]
      clear e back
      unfold mx mn
      omega
    clear e back
    generalize u * ((rd_T41 x (j : Int)).f0 - (rd_T41 x ((j - 1 : Nat) : Int)).f0) = U at *
    generalize v * ((rd_T41 x (j : Int)).f0 - (rd_T41 x ((j - 1 : Nat) : Int)).f0) = V at *
    omega
  have all : ∀ j : Nat, j < x.length → (rd_T41 B (j : Int)).f1 ≤ rd W (j : Int) ∧ rd W (j : Int) ≤ (rd_T41 B (j : Int)).f2 := by
    intro j
    induction j with
    | zero => intro _; show (rd_T41 B 0).f1 ≤ rd W 0 ∧ rd W 0 ≤ (rd_T41 B 0).f2; omega
    | succ j ih => intro hj; exact (step (j + 1) (by omega) hj (ih (by omega))).1
  refine ⟨by omega, w2, w0, fun j hj => ?_, fun j h0 hj => (step j h0 hj (all (j - 1) (by omega))).2⟩
  have := all j hj
  have := f2 j
  omega
theorem mid_i (B : List S41) (u v lo hi : Int) (hB1 : 1 ≤ B.length) (hB2 : B.length ≤ 30) (hlo : (rd_T41 B 0).f1 = lo) (hhi : (rd_T41 B 0).f2 = hi) (h0 : 0 ≤ lo) (h1 : lo ≤ hi) (h3 : hi ≤ 300)
    (hw : ∀ h, lo ≤ h → h ≤ hi → (wy u v B (B.length - 1) [h]).length = B.length ∧ (∀ j : Nat, j < B.length → 0 ≤ rd (wy u v B (B.length - 1) [h]) j ∧ rd (wy u v B (B.length - 1) [h]) j ≤ 100000) ∧ rd (wy u v B (B.length - 1) [h]) 0 = h) :
    ∀ (d : Nat) (h bi mi : Int), hi + 1 - h = d → lo ≤ h → (h = lo → bi = -1) → (lo < h → lo ≤ bi ∧ bi ≤ hi) → ∃ r, (lo ≤ r ∧ r ≤ hi) ∧ Ev (fun k => impl_Best.l0 k u v B bi mi h) (r, true) := by
  intro d
  induction d with
  | zero =>
    intro h bi mi hd hl c1 c2
    refine ⟨bi, c2 (by omega), ev_now fun k => ?_⟩
    simp only [impl_Best.l0]
    rw [if_pos (by omega), if_neg (by omega)]
  | succ d ih =>
    intro h bi mi hd hl c1 c2
    obtain ⟨w1, w2, w3⟩ := hw h hl (by omega)
    have hpi := profile_i u v B hB1 hB2 h
    generalize wy u v B (B.length - 1) [h] = W at *
    have hW : W.length ≤ 30 := by omega
    have hb : ∀ j : Nat, j < W.length → 0 ≤ rd W j ∧ rd W j ≤ 100000 := fun j hj => w2 j (by omega)
    have e1 : wrap64 (h + 1) = h + 1 := w64 (by omega) (by omega)
    obtain ⟨r, rr, r2⟩ : ∃ r, (lo ≤ r ∧ r ≤ hi) ∧ Ev (fun k => aftI B u v bi mi h k (sm W (W.length - 1) 0 1)) (r, true) := by
      generalize sm W (W.length - 1) 0 1 = t at *
      unfold aftI
      simp only [e1]
      obtain ⟨ra, ia, ea⟩ := ih (h + 1) h t (by omega) (by omega) (fun g => by omega) (fun _ => by omega)
      by_cases e : bi < 0
      · exact ⟨ra, ia, by simpa only [if_pos e] using ea⟩
      · by_cases g : t < mi
        · exact ⟨ra, ia, by simpa only [if_neg e, if_pos g] using ea⟩
        · obtain ⟨rb, ib, eb⟩ := ih (h + 1) bi mi (by omega) (by omega) (fun g => by omega) (fun _ => by
            by_cases q : h = lo
            · have := c1 q; omega
            · exact c2 (by omega))
          exact ⟨rb, ib, by simpa only [if_neg e, if_neg g] using eb⟩
    refine ⟨r, rr, ev_step (ev_bind (F := fun k => impl_profile.f k B u v h) (G := fun k t164 => (impl_Best.l1 k u v B bi mi h 0 h t164 (t164.length : Int) 0)) hpi (sum_i0 B W u v bi mi h (r, true) hW (by omega) hb w3 r2)) fun k => ?_⟩
    simp only [impl_Best.l0]
    rw [if_pos (by omega), if_pos (by omega)]
theorem best_i {x : List S41} (hp : PtsFrom x 0) {u v : Int} (hu : 0 ≤ u ∧ u ≤ 1000) (hv : 0 ≤ v ∧ v ≤ 1000) (hh : (rd_T41 x 0).f2 ≤ 300) : ∃ r, Ev (fun k => impl_Best.f k x u v) r ∧ ((r.2 = false ∧ bk u v (x.length - 1) x = none) ∨ (r.2 = true ∧ ∃ B, bk u v (x.length - 1) x = some B ∧ (rd_T41 B 0).f1 ≤ r.1 ∧ r.1 ≤ (rd_T41 B 0).f2)) := by
  have hp1 := hp.2.1
  have hp2 := hp.2.2
  obtain ⟨b, ps, pi, pg⟩ := points x (by omega)
  obtain rfl : b = true := pg.2 hp
  have ei : Ev (fun k => impl_PointsOk.f k x) true := ⟨x.length + 1, fun k hk => pi k (by omega)⟩
  have sl := slopes_i u v x true ei
  rw [decide_eq_true ⟨hu, hv⟩] at sl
  have h0 : (0 : Int) < (x.length : Int) := by omega
  have mk : ∀ r, Ev (fun k => impl_Best.j0 k x u v false) r → Ev (fun k => impl_Best.f k x u v) r := by
    intro r hr
    unfold impl_Best.f
    refine ev_bind (G := fun k t156 => (if t156 = true then (if 0 < (x.length : Int) then (impl_Best.j0 k x u v (decide (((rd_T41 x 0).f2) > 300))) else (none)) else (impl_Best.j0 k x u v true))) sl ?_
    simpa only [Bool.true_and, if_true, if_pos h0, decide_eq_false (show ¬ (rd_T41 x 0).f2 > 300 by omega)] using hr
  have onw := onward_i u v x hp1 hp2
  have hi : ∀ r, Ev (fun k => if (match bk u v (x.length - 1) x with | some y => (y, true) | none => (([] : List S41), false)).2 = true then (if 0 < ((match bk u v (x.length - 1) x with | some y => (y, true) | none => (([] : List S41), false)).1.length : Int) then (impl_Best.l0 k u v (match bk u v (x.length - 1) x with | some y => (y, true) | none => (([] : List S41), false)).1 (-1) 0 ((rd_T41 (match bk u v (x.length - 1) x with | some y => (y, true) | none => (([] : List S41), false)).1 0).f1)) else (none)) else (some (0, false))) r → Ev (fun k => impl_Best.j0 k x u v false) r := fun r hr =>
    ev_step (ev_bind (F := fun k => impl_onward.f k x u v) (G := fun k bt158 => (if bt158.2 = true then (if 0 < (bt158.1.length : Int) then (impl_Best.l0 k u v bt158.1 (-1) 0 ((rd_T41 bt158.1 0).f1)) else (none)) else (some (0, false)))) onw hr) fun k => by simp only [impl_Best.j0, Bool.false_eq_true, if_false]
  cases hb : bk u v (x.length - 1) x with
  | none =>
    rw [hb] at hi
    refine ⟨(0, false), mk _ (hi _ ?_), Or.inl ⟨rfl, rfl⟩⟩
    simp only [Bool.false_eq_true, if_false]; exact ev_const rfl
  | some B =>
    rw [hb] at hi
    obtain ⟨f1, bd⟩ := bk_range hp hb
    obtain ⟨_, f2, _, _⟩ := bk_facts u v (x.length - 1) x B (by omega) hb
    have hB0 : (0 : Int) < (B.length : Int) := by omega
    simp only [if_true, if_pos hB0] at hi
    have b0 : 0 ≤ (rd_T41 B 0).f1 ∧ (rd_T41 B 0).f1 ≤ (rd_T41 B 0).f2 ∧ (rd_T41 B 0).f2 ≤ 100000 := (bd 0 (by omega)).2.1
    have g3 : (rd_T41 B 0).f2 ≤ (rd_T41 x 0).f2 := (f2 0).2.2
    obtain ⟨r, rr, re⟩ := mid_i B u v (rd_T41 B 0).f1 (rd_T41 B 0).f2 (by omega) (by omega) rfl rfl (by omega) (by omega) (by omega) (fun h c1 c2 => by
      obtain ⟨w1, w2, w3, _⟩ := wy_way hp hu hv hb h c1 c2
      exact ⟨by omega, w2, w3⟩) ((rd_T41 B 0).f2 + 1 - (rd_T41 B 0).f1).toNat (rd_T41 B 0).f1 (-1) 0 (by omega) (by omega) (fun _ => rfl) (fun g => by omega)
    exact ⟨(r, true), mk _ (hi _ re), Or.inr ⟨rfl, B, rfl, rr.1, rr.2⟩⟩
theorem profile_at {x : List S41} (hp : PtsFrom x 0) {u v : Int} (hu : 0 ≤ u ∧ u ≤ 1000) (hv : 0 ≤ v ∧ v ≤ 1000) {B : List S41} (hb : bk u v (x.length - 1) x = some B) (h : Int) (h1 : (rd_T41 B 0).f1 ≤ h) (h2 : h ≤ (rd_T41 B 0).f2) : Ev (fun k => impl_Profile.f k x u v h) (wy u v B (B.length - 1) [h], true) := by
  have hp1 := hp.2.1
  have hp2 := hp.2.2
  obtain ⟨b, ps, pi, pg⟩ := points x (by omega)
  obtain rfl : b = true := pg.2 hp
  have ei : Ev (fun k => impl_PointsOk.f k x) true := ⟨x.length + 1, fun k hk => pi k (by omega)⟩
  have sl := slopes_i u v x true ei
  rw [decide_eq_true ⟨hu, hv⟩] at sl
  have onw := onward_i u v x hp1 hp2
  rw [hb] at onw
  obtain ⟨f1, bd⟩ := bk_range hp hb
  have hB0 : (0 : Int) < (B.length : Int) := by omega
  have hd : (decide ((rd_T41 B 0).f1 ≤ h) && decide (h ≤ (rd_T41 B 0).f2)) = true := by rw [decide_eq_true h1, decide_eq_true h2]; rfl
  unfold impl_Profile.f
  refine ev_bind (G := fun k t159 => (if t159 = true then ((impl_onward.f k x u v).bind fun bt160 => (if bt160.2 = true then (if 0 < (bt160.1.length : Int) then ((impl_in.f h ((rd_T41 bt160.1 0).f1) ((rd_T41 bt160.1 0).f2)).bind fun t166 => (if t166 = true then ((impl_profile.f k bt160.1 u v h).bind fun t167 => (some (t167, true))) else (some (([] : List Int), false)))) else (none)) else (some (([] : List Int), false)))) else (some (([] : List Int), false)))) sl ?_
  simp only [Bool.true_and, if_true]
  refine ev_bind (F := fun k => impl_onward.f k x u v) (G := fun k bt160 => (if bt160.2 = true then (if 0 < (bt160.1.length : Int) then ((impl_in.f h ((rd_T41 bt160.1 0).f1) ((rd_T41 bt160.1 0).f2)).bind fun t166 => (if t166 = true then ((impl_profile.f k bt160.1 u v h).bind fun t167 => (some (t167, true))) else (some (([] : List Int), false)))) else (none)) else (some (([] : List Int), false)))) onw ?_
  simp only [if_true, if_pos hB0, in_i, Option.bind_some, hd]
  exact ev_bind (F := fun k => impl_profile.f k B u v h) (G := fun _ t167 => some (t167, true)) (profile_i u v B (by omega) (by omega) h) (ev_const rfl)
/-- Points drawn so far: right, not too high, and all ahead of the next one's place. -/
def Dr (c : List S41) (far : Int) : Prop := c.length ≤ 6 ∧ (0 ≤ far ∧ far ≤ 10 + 13 * (c.length : Int)) ∧ ∀ j : Nat, j < c.length → PtOk c j ∧ (rd_T41 c (j : Int)).f2 ≤ 300 ∧ (rd_T41 c (j : Int)).f0 < far
theorem dr_app {c : List S41} {far a b : Int} (h : Dr c far) (hc : c.length < 6) (a0 : 0 ≤ a) (a1 : a < 80) (b0 : 0 ≤ b) (b1 : b < 60) {far' : Int} (f1 : far + 1 ≤ far') (f2 : far' ≤ far + 12) : Dr (c ++ [(⟨far, a, a + b⟩ : S41)]) far' := by
  obtain ⟨h1, h2, h3⟩ := h
  have hl : (c ++ [(⟨far, a, a + b⟩ : S41)]).length = c.length + 1 := by rw [List.length_append, List.length_singleton]
  refine ⟨by omega, by rw [hl]; omega, fun j hj => ?_⟩
  rw [hl] at hj
  by_cases e : j < c.length
  · obtain ⟨⟨q1, q2, q3, q4⟩, q5, q6⟩ := h3 j e
    unfold PtOk
    rw [rd_app c _ j e]
    refine ⟨⟨q1, q2, q3, fun hp => ?_⟩, q5, by omega⟩
    have := q4 hp
    rw [show (j : Int) - 1 = ((j - 1 : Nat) : Int) by omega] at this ⊢
    rw [rd_app c _ (j - 1) (by omega)]; exact this
  · obtain rfl : j = c.length := by omega
    unfold PtOk
    rw [rd_end c _]
    refine ⟨⟨by simp only; omega, by simp only; omega, by simp only; omega, fun hp => ?_⟩, by simp only; omega, by simp only; omega⟩
    rw [show (c.length : Int) - 1 = ((c.length - 1 : Nat) : Int) by omega, rd_app c _ (c.length - 1) (by omega)]
    exact (h3 (c.length - 1) (by omega)).2.2
theorem draw_l (l : List Int) (hl : l.length ≤ 4611686018427387904) : ∀ (d : Nat) (c : List S41) (far i h : Int), Cur l i → Dr c far → c.length + d ≤ 6 → 0 < c.length + d → ∃ x : List S41, (PtsFrom x 0 ∧ (rd_T41 x 0).f2 ≤ 300) ∧ ∃ i' h', Ev (fun k => spec_l13Draw.l0 k c far (d : Int) l i h) (x, i', h') := by
  intro d
  induction d with
  | zero =>
    intro c far i h hc hd h6 h0
    refine ⟨c, ⟨⟨fun j _ hj => (hd.2.2 j hj).1, by omega, by omega⟩, (hd.2.2 0 (by omega)).2.1⟩, i, h, ev_now fun k => ?_⟩
    simp only [spec_l13Draw.l0]
    rw [if_neg (by omega)]
  | succ d ih =>
    intro c far i h hc hd h6 h0
    obtain ⟨a, i1, g1, e1, a0, a1, _, c1⟩ := below_s l i h 80 hl hc (by omega)
    obtain ⟨b, i2, g2, e2, b0, b1, _, c2⟩ := below_s l i1 g1 60 hl c1 (by omega)
    obtain ⟨g, i3, g3, e3, q0, q1, _, c3⟩ := below_s l i2 g2 12 hl c2 (by omega)
    have a1 := a1 (by omega)
    have b1 := b1 (by omega)
    have q1 := q1 (by omega)
    obtain ⟨_, hf, _⟩ := id hd
    obtain ⟨x, hx, i', h', he⟩ := ih (c ++ [(⟨far, a, a + b⟩ : S41)]) (far + 1 + g) i3 g3 c3 (dr_app hd (by omega) a0 a1 b0 b1 (by omega) (by omega)) (by rw [List.length_append, List.length_singleton]; omega) (by rw [List.length_append, List.length_singleton]; omega)
    refine ⟨x, hx, i', h', ev_step he fun k => ?_⟩
    simp only [spec_l13Draw.l0, e1, e2, e3, Option.bind_some]
    rw [if_pos (by omega), if_pos (by omega), w64 (a := a + b) (by omega) (by omega), w64 (a := far + 1) (by omega) (by omega), w64 (a := far + 1 + g) (by omega) (by omega), w64 (a := ((d + 1 : Nat) : Int) - 1) (by omega) (by omega), show ((d + 1 : Nat) : Int) - 1 = (d : Int) by omega]
theorem draw_points (l : List Int) (hl : l.length ≤ 4611686018427387904) : ∃ x : List S41, (PtsFrom x 0 ∧ (rd_T41 x 0).f2 ≤ 300) ∧ Ev (fun k => spec_DrawPoints.f k l) x := by
  obtain ⟨h0, en⟩ := new_s l hl
  obtain ⟨a, i1, g1, e1, a0, a1, _, c1⟩ := below_s l 0 h0 10 hl ⟨by omega, by omega⟩ (by omega)
  obtain ⟨b, i2, g2, e2, b0, b1, _, c2⟩ := below_s l i1 g1 6 hl c1 (by omega)
  have a1 := a1 (by omega)
  have b1 := b1 (by omega)
  obtain ⟨x, hx, i', h', he⟩ := draw_l l hl (1 + b).toNat [] a i2 g2 c2 ⟨by simp, ⟨a0, by simp; omega⟩, fun j hj => absurd hj (Nat.not_lt_zero _)⟩ (by simp; omega) (by simp; omega)
  rw [show (((1 + b).toNat : Nat) : Int) = 1 + b by omega] at he
  refine ⟨x, hx, ?_⟩
  unfold spec_DrawPoints.f
  refine ev_bind (F := fun k => spec_l1New.f k l) (G := fun k bt169 => ((spec_l13Draw.f k bt169.1 bt169.2.1 bt169.2.2).bind fun bt173 => (some bt173.1))) en ?_
  refine ev_bind (F := fun k => spec_l13Draw.f k l 0 h0) (G := fun k bt173 => some bt173.1) (a := (x, i', h')) ?_ (ev_const rfl)
  unfold spec_l13Draw.f
  simp only [e1, e2, Option.bind_some]
  rw [w64 (a := 1 + b) (by omega) (by omega)]
  exact he
theorem descent_12 : impl_Descent.f 30 4 20 = some (12, true) := by
  have h := ceil_i (a := 30) (b := 4) (by omega) (by omega) (by omega)
  simp only [impl_Descent.f, in_i, Option.bind_some, h]
  rw [if_pos (by decide), if_pos (by decide), if_pos (by decide), if_neg (by decide), w64 (by decide) (by decide)]
  rfl
theorem wsucc {i n : Nat} (h : i < n) (hn : n ≤ 1000) : wrap64 ((i : Int) + 1) = ((i + 1 : Nat) : Int) := by rw [w64 (by omega) (by omega)]; omega
theorem wpred {i n : Nat} (h : i < n) (hn : n ≤ 1000) (h0 : (i : Int) > 0) : wrap64 ((i : Int) - 1) = ((i - 1 : Nat) : Int) := by rw [w64 (by omega) (by omega)]; omega
section
variable {x : List S41} (hp : PtsFrom x 0) {u v : Int} (hu : 0 ≤ u ∧ u ≤ 1000) (hv : 0 ≤ v ∧ v ≤ 1000)
include hp hu hv
/-- The last loop: each height of the way, between what can be had, and no steeper than the slopes. -/
theorem loop1 {c : List S41} {W : List Int} (hc : c.length = x.length) (hW : W.length = x.length) (wr : ∀ j : Nat, j < x.length → 0 ≤ rd W (j : Int) ∧ rd W (j : Int) ≤ 100000) (win : ∀ j : Nat, j < c.length → (rd_T41 c (j : Int)).f1 ≤ rd W (j : Int) ∧ rd W (j : Int) ≤ (rd_T41 c (j : Int)).f2) (wst : ∀ j : Nat, 0 < j → j < x.length → rd W (j : Int) - rd W ((j - 1 : Nat) : Int) ≤ u * ((rd_T41 x (j : Int)).f0 - (rd_T41 x ((j - 1 : Nat) : Int)).f0) ∧ rd W ((j - 1 : Nat) : Int) - rd W (j : Int) ≤ v * ((rd_T41 x (j : Int)).f0 - (rd_T41 x ((j - 1 : Nat) : Int)).f0)) : ∀ (d i : Nat), x.length - i = d → i ≤ x.length → Ev (fun k => laws_FnProfiles.l1 k x u v c W (i : Int)) true := by
  have hn := hp.2.2
  intro d
  induction d with
  | zero =>
    intro i hd hi
    refine ev_now fun k => ?_
    simp only [laws_FnProfiles.l1, descent_12, Option.bind_some, if_true]
    rw [if_neg (by omega)]; rfl
  | succ d ih =>
    intro i hd hi
    have hlt : i < x.length := by omega
    have he := ih (i + 1) (by omega) (by omega)
    obtain ⟨w1, w2⟩ := win i (by omega)
    have hn3 : x.length ≤ 1000 := by omega
    have hj : Ev (fun k => laws_FnProfiles.j6 k x u v c W (i : Int) false) true := by
      refine ev_step he fun k => ?_
      clear he ih win
      by_cases h0 : (i : Int) > 0
      · obtain ⟨s1, s2⟩ := wst i (by omega) hlt
        have gp := pt_gap hp (j := i) (by omega) hlt
        have b1 := slope_in (u := u) (by omega) gp
        have b2 := slope_in (u := v) (by omega) gp
        have r1 := wr i hlt
        have r2 := wr (i - 1) (by omega)
        clear wst wr
        have n0 : wrap64 ((rd_T41 x (i : Int)).f0 - (rd_T41 x ((i - 1 : Nat) : Int)).f0) = (rd_T41 x (i : Int)).f0 - (rd_T41 x ((i - 1 : Nat) : Int)).f0 := by
          clear s1 s2 b1 b2; exact w64 (by omega) (by omega)
        have n1 : ¬ wrap64 (rd W (i : Int) - rd W ((i - 1 : Nat) : Int)) > wrap64 (u * wrap64 ((rd_T41 x (i : Int)).f0 - (rd_T41 x ((i - 1 : Nat) : Int)).f0)) := by
          rw [n0]; clear n0 s2 b2
          generalize u * ((rd_T41 x (i : Int)).f0 - (rd_T41 x ((i - 1 : Nat) : Int)).f0) = U at *
          rw [w64 (a := U) (by omega) (by omega), w64 (a := rd W (i : Int) - rd W ((i - 1 : Nat) : Int)) (by omega) (by omega)]; omega
        have n2 : ¬ wrap64 (rd W ((i - 1 : Nat) : Int) - rd W (i : Int)) > wrap64 (v * wrap64 ((rd_T41 x (i : Int)).f0 - (rd_T41 x ((i - 1 : Nat) : Int)).f0)) := by
          rw [n0]; clear n0 n1 s1 b1
          generalize v * ((rd_T41 x (i : Int)).f0 - (rd_T41 x ((i - 1 : Nat) : Int)).f0) = V at *
          rw [w64 (a := V) (by omega) (by omega), w64 (a := rd W ((i - 1 : Nat) : Int) - rd W (i : Int)) (by omega) (by omega)]; omega
        clear s1 s2 b1 b2 n0 gp r1 r2 w1 w2
        simp only [laws_FnProfiles.j6, Bool.false_eq_true, if_false, wsucc hlt hn3, wpred hlt hn3 h0]
        rw [if_neg n1, if_neg n2]
        clear n1 n2
        rw [if_pos h0, if_pos (by omega), if_pos (by omega), if_pos (by omega), if_pos (by omega), if_pos (by omega), if_pos (by omega)]
      · simp only [laws_FnProfiles.j6, Bool.false_eq_true, if_false, wsucc hlt hn3]
        rw [if_neg h0]
    refine ev_step hj fun k => ?_
    clear hj he ih wst wr win
    simp only [laws_FnProfiles.l1]
    rw [if_pos (by omega), if_pos (by omega), if_pos (by omega), if_neg (by omega), decide_eq_false (by omega)]
/-- The first loop: what can be had, beside the points and beside what more can be had. -/
theorem loop0 {c c' : List S41} {bad : Int} (P : Part u v x c) (P' : Part (u + 1) (v + 2) x c') (tail : Ev (fun k => (impl_Best.f k x u v).bind fun bt261 => (laws_FnProfiles.j2 k x u v c bad bt261.1 bt261.2)) true) : ∀ (d i : Nat), c.length - i = d → i ≤ c.length → Ev (fun k => laws_FnProfiles.l0 k x u v c bad c' (i : Int)) true := by
  have hn := hp.2.2
  have hc := P.1
  intro d
  induction d with
  | zero =>
    intro i hd hi
    refine ev_step tail fun k => ?_
    simp only [laws_FnProfiles.l0]
    rw [if_neg (by omega)]
  | succ d ih =>
    intro i hd hi
    have he := ih (i + 1) (by omega) (by omega)
    have hlt : i < c.length := by omega
    have hn3 : c.length ≤ 1000 := by have hc : c.length ≤ x.length := hc; omega
    obtain ⟨⟨a1, a2, a3⟩, _⟩ := part_in hp (u := u) (v := v) (by omega) (by omega) P i (by omega)
    have m : (i : Int) < (c'.length : Int) → (rd_T41 c' (i : Int)).f1 ≤ (rd_T41 c (i : Int)).f1 ∧ (rd_T41 c (i : Int)).f2 ≤ (rd_T41 c' (i : Int)).f2 := fun h => part_more hp (u := u) (v := v) (u' := u + 1) (v' := v + 2) (by omega) (by omega) (by omega) (by omega) P P' i (by omega) (by omega)
    refine ev_step he fun k => ?_
    clear he ih tail P P'
    simp only [laws_FnProfiles.l0, wsucc hlt hn3]
    rw [if_pos (by omega), if_pos (by omega), if_neg (by omega), if_pos (by omega), if_neg (by omega), if_neg (by omega)]
    by_cases h : (i : Int) < (c'.length : Int)
    · obtain ⟨m1, m2⟩ := m h
      rw [if_pos h, if_neg (by omega), if_neg (by omega)]
    · rw [if_neg h]
end
theorem FnProfiles : laws_FnProfiles.Pure := by
  intro l _ _ hw
  by_cases hl : l.length ≤ 1048576
  · obtain ⟨x, ⟨hp, h300⟩, ex⟩ := draw_points l (by omega)
    obtain ⟨t1, e1, t10, t11⟩ := at_in l hl hw 1 (by omega) (by omega)
    obtain ⟨t2, e2, t20, t21⟩ := at_in l hl hw 2 (by omega) (by omega)
    have hn1 := hp.2.1
    have hn2 := hp.2.2
    have hu : 0 ≤ Int.tmod t1 8 ∧ Int.tmod t1 8 ≤ 7 := by rw [Int.tmod_eq_emod_of_nonneg t10]; omega
    have hv : 0 ≤ Int.tmod t2 8 ∧ Int.tmod t2 8 ≤ 7 := by rw [Int.tmod_eq_emod_of_nonneg t20]; omega
    suffices H : Ev (fun k => laws_FnProfiles.f k l) true by obtain ⟨K, hK⟩ := H; exact ⟨K, hK K (Nat.le_refl _)⟩
    unfold laws_FnProfiles.f
    simp only [big_f l hl, Option.bind_some, Bool.false_eq_true, if_false, e1, e2]
    generalize Int.tmod t1 8 = u at *
    generalize Int.tmod t2 8 = v at *
    rw [w64 (a := u + 1) (by omega) (by omega), w64 (a := v + 2) (by omega) (by omega)]
    obtain ⟨⟨c, bad, ok⟩, T, er⟩ := reach_i x u v hp (by omega) (by omega)
    obtain ⟨⟨c', worse, fine⟩, T', er'⟩ := reach_i x (u + 1) (v + 2) hp (by omega) (by omega)
    have hle : c.length ≤ c'.length := told_more hp (u := u) (v := v) (u' := u + 1) (v' := v + 2) (by omega) (by omega) (by omega) (by omega) T T'
    obtain ⟨b, _, pi, pg⟩ := points x (by omega)
    obtain rfl : b = true := pg.2 hp
    have ep : Ev (fun k => impl_PointsOk.f k x) true := ⟨x.length + 1, fun k hk => pi k (by omega)⟩
    have T0 := T
    obtain ⟨k1, P, l0, o⟩ := T
    obtain ⟨k2, P', l0', o'⟩ := T'
    have k1 : ok = true := k1
    have k2 : fine = true := k2
    subst k1 k2
    have l0 : 0 < c.length := l0
    have P : Part u v x c := P
    have P' : Part (u + 1) (v + 2) x c' := P'
    have pl := P.1
    have pl' := P'.1
    have pl : c.length ≤ x.length := pl
    have pl' : c'.length ≤ x.length := pl'
    obtain ⟨⟨h, has⟩, eb, ob⟩ := best_i hp (u := u) (v := v) (by omega) (by omega) h300
    have tail : Ev (fun k => (impl_Best.f k x u v).bind fun bt261 => (laws_FnProfiles.j2 k x u v c bad bt261.1 bt261.2)) true := by
      refine ev_bind (F := fun k => impl_Best.f k x u v) (G := fun k bt261 => (laws_FnProfiles.j2 k x u v c bad bt261.1 bt261.2)) eb ?_
      rcases ob with ⟨hb, hbk⟩ | ⟨hb, B, hB, hB1, hB2⟩
      · have hb : has = false := hb
        subst hb
        have hbad : bad ≠ -1 := by
          intro e
          rcases o with ⟨_, o⟩ | ⟨o, _⟩
          · have o : c.length = x.length := o
            obtain ⟨i1, i2⟩ := part_in hp (u := u) (v := v) (by omega) (by omega) P (x.length - 1) (by omega)
            obtain ⟨B, hB⟩ := forth_back hp (u := u) (v := v) (by omega) (by omega) P o (x.length - 1) x (by omega) rfl (fun _ _ => rfl) rfl ⟨(rd_T41 c ((x.length - 1 : Nat) : Int)).f1, by omega, by omega, by omega, by omega⟩ (by
              have := (hp.1 (x.length - 1) (Nat.zero_le _) (by omega)).2.1; omega) (by
              have := (hp.1 (x.length - 1) (Nat.zero_le _) (by omega)).2.2.1; omega)
            rw [hB] at hbk; cases hbk
          · have o : bad = (c.length : Int) := o
            omega
        have hbe : (bad == (-1 : Int)) = false := by simpa using hbad
        refine ev_now fun k => ?_
        simp only [laws_FnProfiles.j2, hbe, bne_self_eq_false, Bool.false_eq_true, if_false]
      · have hb : has = true := hb
        subst hb
        obtain ⟨w1, w2, w3, w4, w5⟩ := wy_way hp (u := u) (v := v) (by omega) (by omega) hB h hB1 hB2
        have pf := profile_at hp (u := u) (v := v) (by omega) (by omega) hB h hB1 hB2
        have fB := (bk_range hp hB).1
        generalize wy u v B (B.length - 1) [h] = W at *
        obtain ⟨q1, q2⟩ := way_all hp (u := u) (v := v) (by omega) (by omega) T0 W w4 w5
        have q1 : bad = -1 := q1
        have q2 : c.length = x.length := q2
        subst q1
        have win := way_in hp (u := u) (v := v) (by omega) (by omega) P W w4 w5
        have ll := loop1 hp (u := u) (v := v) (by omega) (by omega) q2 w1 (fun j hj => w2 j (by omega)) win w5 x.length 0 (by omega) (by omega)
        have j4 : Ev (fun k => laws_FnProfiles.j4 k x u v c W false) true := by
          refine ev_step ll fun k => ?_
          simp only [laws_FnProfiles.j4, Bool.false_eq_true, if_false]
          rfl
        have j3 : Ev (fun k => laws_FnProfiles.j3 k x u v c h W true) true := by
          refine ev_step j4 fun k => ?_
          simp only [laws_FnProfiles.j3, if_true, w3, bne_self_eq_false]
          rw [if_pos (by omega), if_pos (by omega)]
        refine ev_step (ev_bind (F := fun k => impl_Profile.f k x u v h) (G := fun k bt264 => (laws_FnProfiles.j3 k x u v c h bt264.1 bt264.2)) pf j3) fun k => ?_
        simp only [laws_FnProfiles.j2, beq_self_eq_true, bne_self_eq_false, Bool.false_eq_true, if_false, if_true]
    have lp := loop0 hp (u := u) (v := v) (by omega) (by omega) P P' tail c.length 0 (by omega) (by omega)
    have key : Ev (fun k => laws_FnProfiles.j0 k x u v c bad c' false) true := by
      refine ev_step lp fun k => ?_
      simp only [laws_FnProfiles.j0, Bool.false_eq_true, if_false]
      rfl
    refine ev_bind (F := fun k => spec_DrawPoints.f k l) ex ?_
    refine ev_bind (F := fun k => impl_Reach.f k x u v) er ?_
    refine ev_bind (F := fun k => impl_Reach.f k x (u + 1) (v + 2)) er' ?_
    simp only [if_true]
    refine ev_bind (F := fun k => impl_PointsOk.f k x) ep ?_
    simp only [if_true]
    rcases o with ⟨o1, o2⟩ | ⟨o1, o2, _⟩
    · have o1 : bad = -1 := o1
      have o2 : c.length = x.length := o2
      have hw' : worse = -1 := by
        rcases o' with ⟨o', _⟩ | ⟨_, o', _⟩
        · exact o'
        · have o' : c'.length < x.length := o'
          omega
      subst o1 hw'
      simp only [if_true, bne_self_eq_false, if_pos (show (c.length : Int) = (x.length : Int) by omega), if_neg (show ¬ ((-1 : Int) ≥ 0) by omega)]
      exact key
    · have o1 : bad = (c.length : Int) := o1
      have o2 : c.length < x.length := o2
      subst o1
      simp only [if_true, if_neg (show ¬ (c.length : Int) = -1 by omega), if_pos (show (c.length : Int) ≥ 0 by omega)]
      by_cases g : worse ≥ 0
      · have hw' : worse = (c'.length : Int) := by
          rcases o' with ⟨o', _⟩ | ⟨o', _, _⟩
          · have o' : worse = -1 := o'
            omega
          · exact o'
        simp only [if_pos g, if_neg (show ¬ worse < (c.length : Int) by omega)]
        exact key
      · simp only [if_neg g]
        exact key
  · refine ⟨0, ?_⟩
    unfold laws_FnProfiles.f
    rw [big_t l hl]; rfl
end Go.Proofs.Ytoooikhkapaokaa.Pure.FnProfiles
namespace Go.Proofs.Ytoooikhkapaokaa.Pure
theorem FnProfiles : Go.Proofs.Ytoooikhkapaokaa.PFnProfiles.laws_FnProfiles.Pure := FnProfiles.FnProfiles
end Go.Proofs.Ytoooikhkapaokaa.Pure
