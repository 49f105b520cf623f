/- For every Drift and list of Pushes the program's Inertial answers what the reference's answers (FnExactInertial returns true); no condition. -/
import Derived.Test.YtfjpmakmgcngiaaAskFnExactInertial
import Derived.Test.YtfjpmakmgcngiaaNum
namespace Go.Proofs.Ytfjpmakmgcngiaa.Pure.FnExactInertial
open Go.RowKit Go.Proofs.Ytfjpmakmgcngiaa.PFnExactInertial Go.Proofs.YtfjpmakmgcngiaaW.PrintWords Go.Proofs.YtfjpmakmgcngiaaW.PrintLast Go.Proofs.YtfjpmakmgcngiaaW.PrintMore Go.Proofs.Ytfjpmakmgcngiaa.Num
set_option linter.unusedVariables false
set_option linter.unusedSimpArgs false
theorem in_s (a b c : Int) : spec_l1In.f a b c = some (decide (b ≤ a) && decide (a ≤ c)) := by
  unfold spec_l1In.f
  by_cases h : a ≥ b
  · rw [if_pos h, decide_eq_true (show b ≤ a from h)]; rfl
  · rw [if_neg h, decide_eq_false (show ¬ b ≤ a from h)]; rfl
theorem in_i (a b c : Int) : impl_in.f a b c = some (decide (b ≤ a) && decide (a ≤ c)) := by
  unfold impl_in.f
  by_cases h : a ≥ b
  · rw [if_pos h, decide_eq_true (show b ≤ a from h)]; rfl
  · rw [if_neg h, decide_eq_false (show ¬ b ≤ a from h)]; rfl
def conv (x : S75) : S48 := ⟨x.f0, x.f1⟩
theorem laws_toPushS_l0 (x0 : List S75) (hn : x0.length ≤ 4611686018427387904) : ∀ (d k i : Nat) (x3 : List S48), x0.length - i = d → i ≤ x0.length → d < k → x3.length = x0.length → (∀ j, j < i → x3[j]? = (x0.map conv)[j]?) → laws_toPushS.l0 k x0 x3 (i : Int) = some (x0.map conv) := by
  intro d
  induction d with
  | zero =>
    intro k i x3 hd hi hk hl hj
    obtain ⟨k, rfl⟩ : ∃ m, k = m + 1 := ⟨k - 1, by omega⟩
    simp only [laws_toPushS.l0]
    rw [if_neg (by omega)]
    congr 1
    apply List.ext_getElem?
    intro j
    by_cases h : j < i
    · exact hj j h
    · rw [List.getElem?_eq_none (by omega), List.getElem?_eq_none (by simp; omega)]
  | succ d ih =>
    intro k i x3 hd hi hk hl hj
    obtain ⟨k, rfl⟩ : ∃ m, k = m + 1 := ⟨k - 1, by omega⟩
    have hlt : i < x0.length := by omega
    simp only [laws_toPushS.l0, laws_toPush.f, Option.bind_some]
    rw [if_pos (by omega), if_pos (by omega), if_pos (by omega), w64 (a := (i : Int) + 1) (by omega) (by omega), show (i : Int) + 1 = ((i + 1 : Nat) : Int) by omega]
    refine ih k (i + 1) _ (by omega) (by omega) (by omega) (by simpa using hl) ?_
    intro j hj'
    have hr : rd_T75 x0 (i : Int) = x0[i] := by
      show x0.getD (i : Int).toNat z75 = _
      rw [Int.toNat_natCast, List.getD_eq_getElem?_getD, List.getElem?_eq_getElem hlt]; rfl
    simp only [Int.toNat_natCast, hr]
    by_cases e : j = i
    · subst e
      rw [List.getElem?_set_self (by omega), List.getElem?_map, List.getElem?_eq_getElem hlt]; rfl
    · rw [List.getElem?_set_ne (fun h => e h.symm)]
      exact hj j (by omega)
theorem laws_toPushS_eq (x0 : List S75) (k : Nat) (hn : x0.length ≤ 17592186044416) (hk : x0.length < k) : laws_toPushS.f k x0 = some (x0.map conv) := by
  unfold laws_toPushS.f
  rw [if_pos (by omega), if_pos (by rw [Int.toNat_natCast]; omega), Int.toNat_natCast]
  exact laws_toPushS_l0 x0 (by omega) x0.length k 0 _ (by omega) (by omega) hk (by simp) (fun j hj => by omega)

theorem laws_eqPushS_l0 (x0 : List S48) (hn : x0.length ≤ 4611686018427387904) : ∀ (d k i : Nat), x0.length - i = d → i ≤ x0.length → d < k → laws_eqPushS.l0 k x0 x0 (i : Int) = some true := by
  intro d
  induction d with
  | zero =>
    intro k i hd hi hk
    obtain ⟨k, rfl⟩ : ∃ m, k = m + 1 := ⟨k - 1, by omega⟩
    simp only [laws_eqPushS.l0]
    rw [if_neg (by omega)]
  | succ d ih =>
    intro k i hd hi hk
    obtain ⟨k, rfl⟩ : ∃ m, k = m + 1 := ⟨k - 1, by omega⟩
    simp only [laws_eqPushS.l0, laws_eqPush.f, if_true, bne_self_eq_false, Bool.false_eq_true, if_false, Option.bind_some]
    rw [if_pos (by omega), if_pos (by omega), if_pos (by omega), w64 (a := (i : Int) + 1) (by omega) (by omega), show (i : Int) + 1 = ((i + 1 : Nat) : Int) by omega]
    exact ih k (i + 1) (by omega) (by omega) (by omega)
theorem laws_eqPushS_eq (x0 : List S48) (k : Nat) (hn : x0.length ≤ 4611686018427387904) (hk : x0.length < k) : laws_eqPushS.f k x0 x0 = some true := by
  unfold laws_eqPushS.f
  rw [if_pos rfl]
  exact laws_eqPushS_l0 x0 hn x0.length k 0 (by omega) (by omega) hk

theorem anyO_some (p : S48 → Option Bool) (q : S48 → Bool) (hp : ∀ x, p x = some (q x)) : ∀ l : List S48, impl_Push_47.anyO p l = some (l.any q)
  | [] => rfl
  | x :: xs => by
    unfold impl_Push_47.anyO
    rw [hp x, Option.bind_some, anyO_some p q hp xs, List.any_cons]
    cases q x <;> rfl
def goodP (x : S48) : Bool := (decide (-1000 ≤ x.f0) && decide (x.f0 ≤ 1000)) && (decide (-1000 ≤ x.f1) && decide (x.f1 ≤ 1000))
def goodD (x y vx vy : Int) : Bool := (decide (-1000000 ≤ x) && decide (x ≤ 1000000)) && ((decide (-1000000 ≤ y) && decide (y ≤ 1000000)) && ((decide (-1000000 ≤ vx) && decide (vx ≤ 1000000)) && (decide (-1000000 ≤ vy) && decide (vy ≤ 1000000))))
/-- The pushes, one after the other. -/
def run : List S48 → Int → Int → Int → Int → Int × Int × Int × Int × Bool
  | [], x, y, vx, vy => (x, y, vx, vy, true)
  | p :: ps, x, y, vx, vy =>
    if goodP p = true then
      if goodD (wrap64 (x + wrap64 (vx + p.f0))) (wrap64 (y + wrap64 (vy + p.f1))) (wrap64 (vx + p.f0)) (wrap64 (vy + p.f1)) = true then run ps (wrap64 (x + wrap64 (vx + p.f0))) (wrap64 (y + wrap64 (vy + p.f1))) (wrap64 (vx + p.f0)) (wrap64 (vy + p.f1))
      else (0, 0, 0, 0, false)
    else (0, 0, 0, 0, false)
theorem run_bad : ∀ (l : List S48) (x y vx vy : Int), l.any (fun p => !goodP p) = true → run l x y vx vy = (0, 0, 0, 0, false)
  | [], _, _, _, _, h => by cases h
  | p :: ps, x, y, vx, vy, h => by
    unfold run
    by_cases g : goodP p = true
    · rw [if_pos g]
      split
      · refine run_bad ps _ _ _ _ ?_
        rw [List.any_cons, g] at h
        exact h
      · rfl
    · rw [if_neg g]
theorem rd48 (l : List S48) (i : Nat) (h : i < l.length) : rd_T48 l (i : Int) = l[i] := by
  show l.getD (i : Int).toNat z48 = _
  rw [Int.toNat_natCast, List.getD_eq_getElem?_getD, List.getElem?_eq_getElem h]; rfl
theorem driftOk_i (x y vx vy : Int) (k : Nat) (hk : 4 < k) : impl_driftOk.f k x y vx vy = some (goodD x y vx vy) := by
  obtain ⟨k, rfl⟩ : ∃ m, k = m + 5 := ⟨k - 5, by omega⟩
  unfold impl_driftOk.f impl_allIn.f
  have w1 : wrap64 (0 + 1) = 1 := by unfold wrap64; omega
  have w2 : wrap64 (1 + 1) = 2 := by unfold wrap64; omega
  have w3 : wrap64 (2 + 1) = 3 := by unfold wrap64; omega
  have w4 : wrap64 (3 + 1) = 4 := by unfold wrap64; omega
  have r0 : rd [x, y, vx, vy] 0 = x := rfl
  have r1 : rd [x, y, vx, vy] 1 = y := rfl
  have r2 : rd [x, y, vx, vy] 2 = vx := rfl
  have r3 : rd [x, y, vx, vy] 3 = vy := rfl
  have hl : (([x, y, vx, vy] : List Int).length : Int) = 4 := rfl
  simp only [impl_allIn.l0, hl, in_i, Option.bind_some, w1, w2, w3, w4, r0, r1, r2, r3]
  unfold goodD
  generalize (decide (-1000000 ≤ x) && decide (x ≤ 1000000)) = b1
  generalize (decide (-1000000 ≤ y) && decide (y ≤ 1000000)) = b2
  generalize (decide (-1000000 ≤ vx) && decide (vx ≤ 1000000)) = b3
  generalize (decide (-1000000 ≤ vy) && decide (vy ≤ 1000000)) = b4
  cases b1 <;> cases b2 <;> cases b3 <;> cases b4 <;> rfl
theorem iner_i (l : List S48) (hn : l.length ≤ 300) (hg : l.any (fun p => !goodP p) = false) : ∀ (d k i : Nat) (x y vx vy : Int), l.length - i = d → i ≤ l.length → d + 6 < k → impl_Inertial.l0 k l (l.length : Int) (i : Int) x y vx vy = some (run (l.drop i) x y vx vy) := by
  intro d
  induction d with
  | zero =>
    intro k i x y vx vy hd hi hk
    obtain ⟨k, rfl⟩ : ∃ m, k = m + 1 := ⟨k - 1, by omega⟩
    simp only [impl_Inertial.l0]
    rw [if_neg (by omega), List.drop_of_length_le (by omega)]; rfl
  | succ d ih =>
    intro k i x y vx vy hd hi hk
    obtain ⟨k, rfl⟩ : ∃ m, k = m + 1 := ⟨k - 1, by omega⟩
    have hlt : i < l.length := by omega
    have hp : goodP l[i] = true := by
      have := List.any_eq_false.1 hg l[i] (List.getElem_mem hlt)
      simpa using this
    simp only [impl_Inertial.l0]
    rw [if_pos (by omega), if_pos (by omega), if_pos (by omega), rd48 l i hlt, driftOk_i _ _ _ _ _ (by omega), Option.bind_some, List.drop_eq_getElem_cons hlt, w64 (a := (i : Int) + 1) (by omega) (by omega), show (i : Int) + 1 = ((i + 1 : Nat) : Int) by omega]
    unfold run
    rw [if_pos hp]
    split
    · exact ih k (i + 1) _ _ _ _ (by omega) (by omega) (by omega)
    · rfl
theorem inertial_i (l : List S48) (x y vx vy : Int) (k : Nat) (hk : l.length + 20 < k) : impl_Inertial.f k x y vx vy l = some (if goodD x y vx vy = true ∧ l.length ≤ 300 then run l x y vx vy else (0, 0, 0, 0, false)) := by
  obtain ⟨k, rfl⟩ : ∃ m, k = m + 1 := ⟨k - 1, by omega⟩
  have hc : impl_Push_47.f l (Value.func (.func 48) #[] #[]) = some (l.any (fun p => !goodP p)) := by
    unfold impl_Push_47.f
    rw [if_pos (by rfl)]
    refine anyO_some _ _ (fun p => ?_) l
    unfold impl_Inertial_1.f goodP
    simp only [in_i, Option.bind_some]
    cases (decide (-1000 ≤ p.f0) && decide (p.f0 ≤ 1000)) <;> cases (decide (-1000 ≤ p.f1) && decide (p.f1 ≤ 1000)) <;> rfl
  unfold impl_Inertial.f
  rw [hc, Option.bind_some, driftOk_i _ _ _ _ _ (by omega), Option.bind_some]
  by_cases hd : goodD x y vx vy = true
  · rw [if_pos hd]
    by_cases hl : l.length ≤ 300
    · rw [if_neg (show ¬ (l.length : Int) > 300 by omega), if_pos ⟨hd, hl⟩]
      cases hb : l.any (fun p => !goodP p)
      · simp only [impl_Inertial.j0, Bool.false_eq_true, if_false]
        exact iner_i l hl hb l.length k 0 _ _ _ _ (by omega) (by omega) (by omega)
      · rw [run_bad l _ _ _ _ hb]; rfl
    · rw [if_pos (show (l.length : Int) > 300 by omega), if_neg (fun h => hl h.2)]; rfl
  · rw [if_neg hd, if_neg (fun h => hd h.1)]; rfl
theorem drift_s (x y vx vy : Int) : spec_l11Drift.f x y vx vy = some (goodD x y vx vy) := by
  unfold spec_l11Drift.f goodD
  simp only [in_s, Option.bind_some, ites]
theorem iner_s (l : List S48) (hn : l.length ≤ 300) : ∀ (d k i : Nat) (x y vx vy : Int), l.length - i = d → i ≤ l.length → 2 * d + 2 < k → spec_Inertial.l0 k l (i : Int) x y vx vy = some (run (l.drop i) x y vx vy) := by
  intro d
  induction d with
  | zero =>
    intro k i x y vx vy hd hi hk
    obtain ⟨k, rfl⟩ : ∃ m, k = m + 1 := ⟨k - 1, by omega⟩
    simp only [spec_Inertial.l0]
    rw [if_neg (by omega), List.drop_of_length_le (by omega)]; rfl
  | succ d ih =>
    intro k i x y vx vy hd hi hk
    obtain ⟨k, rfl⟩ : ∃ m, k = m + 2 := ⟨k - 2, by omega⟩
    have hlt : i < l.length := by omega
    simp only [spec_Inertial.l0, in_s, Option.bind_some]
    rw [if_pos (by omega), if_pos (by omega), rd48 l i hlt, List.drop_eq_getElem_cons hlt]
    unfold run goodP
    generalize (decide (-1000 ≤ l[i].f0) && decide (l[i].f0 ≤ 1000)) = b0
    generalize (decide (-1000 ≤ l[i].f1) && decide (l[i].f1 ≤ 1000)) = b1
    cases b0
    · rfl
    · cases b1
      · rfl
      · simp only [if_true, Bool.not_true, spec_Inertial.j2, Bool.false_eq_true, if_false, Bool.and_self]
        rw [if_pos (by omega), if_pos (by omega), rd48 l i hlt, drift_s, Option.bind_some, w64 (a := (i : Int) + 1) (by omega) (by omega), show (i : Int) + 1 = ((i + 1 : Nat) : Int) by omega]
        split
        · exact ih k (i + 1) _ _ _ _ (by omega) (by omega) (by omega)
        · rfl
theorem inertial_s (l : List S48) (x y vx vy : Int) (k : Nat) (hk : 2 * l.length + 20 < k) : spec_Inertial.f k x y vx vy l = some (if goodD x y vx vy = true ∧ l.length ≤ 300 then run l x y vx vy else (0, 0, 0, 0, false)) := by
  obtain ⟨k, rfl⟩ : ∃ m, k = m + 1 := ⟨k - 1, by omega⟩
  unfold spec_Inertial.f
  rw [drift_s, Option.bind_some]
  by_cases hd : goodD x y vx vy = true
  · rw [if_pos hd]
    by_cases hl : l.length ≤ 300
    · rw [decide_eq_false (show ¬ (l.length : Int) > 300 by omega), if_pos ⟨hd, hl⟩]
      simp only [spec_Inertial.j0, Bool.false_eq_true, if_false]
      exact iner_s l hl l.length k 0 _ _ _ _ (by omega) (by omega) (by omega)
    · rw [decide_eq_true (show (l.length : Int) > 300 by omega), if_neg (fun h => hl h.2)]; rfl
  · rw [if_neg hd, if_neg (fun h => hd h.1)]; rfl
theorem FnExactInertial : laws_FnExactInertial.Pure := by
  intro x y vx vy l _ _ _ _ ⟨hl, _⟩
  have hl' : l.length ≤ 9223372036854775807 := hl
  refine ⟨2 * l.length + 30, ?_⟩
  unfold laws_FnExactInertial.f laws_szPushS.f
  rw [w64 (by omega) (by omega)]
  by_cases h : (1048576 : Int) - (l.length : Int) < 0
  · rw [if_pos h]; rfl
  · rw [if_neg h, Option.bind_some, if_neg h]
    have ht := laws_toPushS_eq l (2 * l.length + 30) (by omega) (by omega)
    have ht2 := laws_toPushS_eq l (2 * l.length + 29) (by omega) (by omega)
    have he := laws_eqPushS_eq (l.map conv) (2 * l.length + 29) (by simp; omega) (by simp; omega)
    have hs := inertial_s (l.map conv) x y vx vy (2 * l.length + 30) (by simp)
    have hi := inertial_i (l.map conv) x y vx vy (2 * l.length + 30) (by simp; omega)
    simp only [ht, laws_toDrift.f, Option.bind_some, hs, hi]
    generalize (if goodD x y vx vy = true ∧ (l.map conv).length ≤ 300 then run (l.map conv) x y vx vy else (0, 0, 0, 0, false)) = r
    have hq : laws_eqDrift.f r.1 r.2.1 r.2.2.1 r.2.2.2.1 r.1 r.2.1 r.2.2.1 r.2.2.2.1 = some true := by
      unfold laws_eqDrift.f; simp
    simp only [hq, Option.bind_some, if_true, bne_self_eq_false, laws_FnExactInertial.j0, Bool.false_eq_true, if_false, ht2, he]
end Go.Proofs.Ytfjpmakmgcngiaa.Pure.FnExactInertial
namespace Go.Proofs.Ytfjpmakmgcngiaa.Pure
theorem FnExactInertial : Go.Proofs.Ytfjpmakmgcngiaa.PFnExactInertial.laws_FnExactInertial.Pure := FnExactInertial.FnExactInertial
end Go.Proofs.Ytfjpmakmgcngiaa.Pure
