/- For every code the law FnInertial returns true: pushes forth and as many back leave no speed, and in two parts they lead to the same; Blend's ends and Beside answer as they should. No condition. -/
import Derived.Test.YtfjpmakmgcngiaaPFnInertialx5
import Derived.Test.YtfjpmakmgcngiaaNum
namespace Go.Proofs.Ytfjpmakmgcngiaa.Pure.FnInertial
open Go.RowKit Go.Proofs.Ytfjpmakmgcngiaa.PFnInertial Go.Proofs.YtfjpmakmgcngiaaW.PrintWords Go.Proofs.YtfjpmakmgcngiaaW.PrintLast Go.Proofs.YtfjpmakmgcngiaaW.PrintMore Go.Proofs.Ytfjpmakmgcngiaa.Num
set_option linter.unusedVariables false
set_option linter.unusedSimpArgs false
theorem in_i (a b c : Int) : impl_in.f a b c = some (decide (b ≤ a) && decide (a ≤ c)) := by
  unfold impl_in.f
  by_cases h : a ≥ b
  · rw [if_pos h, decide_eq_true (show b ≤ a from h)]; rfl
  · rw [if_neg h, decide_eq_false (show ¬ b ≤ a from h)]; rfl
/-- From some count of rounds on it answers r. -/
def Ev {α : Type} (F : Nat → Option α) (r : α) : Prop := ∃ K, ∀ k, K ≤ k → F k = some r
theorem ev_step {α : Type} {F G : Nat → Option α} {r : α} (h : Ev G r) (e : ∀ k, F (k + 1) = G k) : Ev F r := by
  obtain ⟨K, h⟩ := h
  refine ⟨K + 1, fun k hk => ?_⟩
  obtain ⟨m, rfl⟩ : ∃ m, k = m + 1 := ⟨k - 1, by omega⟩
  rw [e m]; exact h m (by omega)
theorem ev_now {α : Type} {F : Nat → Option α} {r : α} (e : ∀ k, F (k + 1) = some r) : Ev F r :=
  ⟨1, fun k hk => by obtain ⟨m, rfl⟩ : ∃ m, k = m + 1 := ⟨k - 1, by omega⟩; exact e m⟩
theorem ev_const {α : Type} {o : Option α} {r : α} (e : o = some r) : Ev (fun _ => o) r := ⟨0, fun _ _ => e⟩
theorem ev_bind {α β : Type} {F : Nat → Option α} {G : Nat → α → Option β} {a : α} {r : β} (h : Ev F a) (g : Ev (fun k => G k a) r) : Ev (fun k => (F k).bind (G k)) r := by
  obtain ⟨K, h⟩ := h
  obtain ⟨L, g⟩ := g
  exact ⟨max K L, fun k hk => by show (F k).bind (G k) = _; rw [h k (by omega), Option.bind_some]; exact g k (by omega)⟩
theorem ev_cong {α : Type} {F G : Nat → Option α} {r : α} (h : Ev G r) (e : ∀ k, F k = G k) : Ev F r := by
  obtain ⟨K, h⟩ := h
  exact ⟨K, fun k hk => (e k).trans (h k hk)⟩
theorem anyO_some (p : S48 → Option Bool) (q : S48 → Bool) (hp : ∀ x, p x = some (q x)) : ∀ l : List S48, impl_Push.anyO p l = some (l.any q)
  | [] => rfl
  | x :: xs => by
    unfold impl_Push.anyO
    rw [hp x, Option.bind_some, anyO_some p q hp xs, List.any_cons]
    cases q x <;> rfl
def goodP (x : S48) : Bool := (decide (-1000 ≤ x.f0) && decide (x.f0 ≤ 1000)) && (decide (-1000 ≤ x.f1) && decide (x.f1 ≤ 1000))
def goodD (x y vx vy : Int) : Bool := (decide (-1000000 ≤ x) && decide (x ≤ 1000000)) && ((decide (-1000000 ≤ y) && decide (y ≤ 1000000)) && ((decide (-1000000 ≤ vx) && decide (vx ≤ 1000000)) && (decide (-1000000 ≤ vy) && decide (vy ≤ 1000000))))
/-- The pushes, one after the other. -/
def run : List S48 → Int → Int → Int → Int → Int × Int × Int × Int × Bool
  | [], x, y, vx, vy => (x, y, vx, vy, true)
  | p :: ps, x, y, vx, vy =>
    if goodP p = true then
      if goodD (wrap64 (x + wrap64 (vx + p.f0))) (wrap64 (y + wrap64 (vy + p.f1))) (wrap64 (vx + p.f0)) (wrap64 (vy + p.f1)) = true then run ps (wrap64 (x + wrap64 (vx + p.f0))) (wrap64 (y + wrap64 (vy + p.f1))) (wrap64 (vx + p.f0)) (wrap64 (vy + p.f1))
      else (0, 0, 0, 0, false)
    else (0, 0, 0, 0, false)
theorem run_bad : ∀ (l : List S48) (x y vx vy : Int), l.any (fun p => !goodP p) = true → run l x y vx vy = (0, 0, 0, 0, false)
  | [], _, _, _, _, h => by cases h
  | p :: ps, x, y, vx, vy, h => by
    unfold run
    by_cases g : goodP p = true
    · rw [if_pos g]
      split
      · refine run_bad ps _ _ _ _ ?_
        rw [List.any_cons, g] at h
        exact h
      · rfl
    · rw [if_neg g]
theorem rd48 (l : List S48) (i : Nat) (h : i < l.length) : rd_T48 l (i : Int) = l[i] := by
  show l.getD (i : Int).toNat z48 = _
  rw [Int.toNat_natCast, List.getD_eq_getElem?_getD, List.getElem?_eq_getElem h]; rfl
theorem driftOk_i (x y vx vy : Int) (k : Nat) (hk : 4 < k) : impl_driftOk.f k x y vx vy = some (goodD x y vx vy) := by
  obtain ⟨k, rfl⟩ : ∃ m, k = m + 5 := ⟨k - 5, by omega⟩
  unfold impl_driftOk.f impl_allIn.f
  have w1 : wrap64 (0 + 1) = 1 := by unfold wrap64; omega
  have w2 : wrap64 (1 + 1) = 2 := by unfold wrap64; omega
  have w3 : wrap64 (2 + 1) = 3 := by unfold wrap64; omega
  have w4 : wrap64 (3 + 1) = 4 := by unfold wrap64; omega
  have r0 : rd [x, y, vx, vy] 0 = x := rfl
  have r1 : rd [x, y, vx, vy] 1 = y := rfl
  have r2 : rd [x, y, vx, vy] 2 = vx := rfl
  have r3 : rd [x, y, vx, vy] 3 = vy := rfl
  have hl : (([x, y, vx, vy] : List Int).length : Int) = 4 := rfl
  simp only [impl_allIn.l0, hl, in_i, Option.bind_some, w1, w2, w3, w4, r0, r1, r2, r3]
  unfold goodD
  generalize (decide (-1000000 ≤ x) && decide (x ≤ 1000000)) = b1
  generalize (decide (-1000000 ≤ y) && decide (y ≤ 1000000)) = b2
  generalize (decide (-1000000 ≤ vx) && decide (vx ≤ 1000000)) = b3
  generalize (decide (-1000000 ≤ vy) && decide (vy ≤ 1000000)) = b4
  cases b1 <;> cases b2 <;> cases b3 <;> cases b4 <;> rfl
theorem iner_i (l : List S48) (hn : l.length ≤ 300) (hg : l.any (fun p => !goodP p) = false) : ∀ (d k i : Nat) (x y vx vy : Int), l.length - i = d → i ≤ l.length → d + 6 < k → impl_Inertial.l0 k l (l.length : Int) (i : Int) x y vx vy = some (run (l.drop i) x y vx vy) := by
  intro d
  induction d with
  | zero =>
    intro k i x y vx vy hd hi hk
    obtain ⟨k, rfl⟩ : ∃ m, k = m + 1 := ⟨k - 1, by omega⟩
    simp only [impl_Inertial.l0]
    rw [if_neg (by omega), List.drop_of_length_le (by omega)]; rfl
  | succ d ih =>
    intro k i x y vx vy hd hi hk
    obtain ⟨k, rfl⟩ : ∃ m, k = m + 1 := ⟨k - 1, by omega⟩
    have hlt : i < l.length := by omega
    have hp : goodP l[i] = true := by
      have := List.any_eq_false.1 hg l[i] (List.getElem_mem hlt)
      simpa using this
    simp only [impl_Inertial.l0]
    rw [if_pos (by omega), if_pos (by omega), if_pos (by omega), rd48 l i hlt, driftOk_i _ _ _ _ _ (by omega), Option.bind_some, List.drop_eq_getElem_cons hlt, w64 (a := (i : Int) + 1) (by omega) (by omega), show (i : Int) + 1 = ((i + 1 : Nat) : Int) by omega]
    unfold run
    rw [if_pos hp]
    split
    · exact ih k (i + 1) _ _ _ _ (by omega) (by omega) (by omega)
    · rfl
theorem inertial_i (l : List S48) (x y vx vy : Int) (k : Nat) (hk : l.length + 20 < k) : impl_Inertial.f k x y vx vy l = some (if goodD x y vx vy = true ∧ l.length ≤ 300 then run l x y vx vy else (0, 0, 0, 0, false)) := by
  obtain ⟨k, rfl⟩ : ∃ m, k = m + 1 := ⟨k - 1, by omega⟩
  have hc : impl_Push.f l (Value.func (.func 48) #[] #[]) = some (l.any (fun p => !goodP p)) := by
    unfold impl_Push.f
    rw [if_pos (by rfl)]
    refine anyO_some _ _ (fun p => ?_) l
    unfold impl_Inertial_1.f goodP
    simp only [in_i, Option.bind_some]
    cases (decide (-1000 ≤ p.f0) && decide (p.f0 ≤ 1000)) <;> cases (decide (-1000 ≤ p.f1) && decide (p.f1 ≤ 1000)) <;> rfl
  unfold impl_Inertial.f
  rw [hc, Option.bind_some, driftOk_i _ _ _ _ _ (by omega), Option.bind_some]
  by_cases hd : goodD x y vx vy = true
  · rw [if_pos hd]
    by_cases hl : l.length ≤ 300
    · rw [if_neg (show ¬ (l.length : Int) > 300 by omega), if_pos ⟨hd, hl⟩]
      cases hb : l.any (fun p => !goodP p)
      · simp only [impl_Inertial.j0, Bool.false_eq_true, if_false]
        exact iner_i l hl hb l.length k 0 _ _ _ _ (by omega) (by omega) (by omega)
      · rw [run_bad l _ _ _ _ hb]; rfl
    · rw [if_pos (show (l.length : Int) > 300 by omega), if_neg (fun h => hl h.2)]; rfl
  · rw [if_neg hd, if_neg (fun h => hd h.1)]; rfl
theorem at_in (l : List Int) (hl : l.length ≤ 1048576) (hu : ∀ x ∈ l, (Lit.int .u8 x).wf = true) (i : Int) (h0 : 0 ≤ i) (h1 : i ≤ 1000000) : ∃ v, laws_at.f l i = some v ∧ 0 ≤ v ∧ v ≤ 255 := by
  unfold laws_at.f
  by_cases h : i < (l.length : Int)
  · rw [if_pos h, if_pos h0]
    have hi : i.toNat < l.length := by omega
    have hr : rd l i = l[i.toNat] := by
      show l.getD i.toNat 0 = _
      rw [List.getD_eq_getElem?_getD, List.getElem?_eq_getElem hi]; rfl
    have hb := wfu8 (hu _ (List.getElem_mem hi))
    rw [hr, w64 (by omega) (by omega)]
    exact ⟨_, rfl, hb.1, hb.2⟩
  · rw [if_neg h]
    refine ⟨_, rfl, ?_⟩
    rw [w64 (a := i * 7) (by omega) (by omega), w64 (by omega) (by omega), Int.tmod_eq_emod_of_nonneg (by omega)]
    omega
theorem big_f (l : List Int) (h : l.length ≤ 1048576) : laws_big.f l = some false := by
  unfold laws_big.f
  rw [decide_eq_false (by omega)]
theorem big_t (l : List Int) (h : ¬ l.length ≤ 1048576) : laws_big.f l = some true := by
  unfold laws_big.f
  rw [decide_eq_true (by omega)]
def sx : List S48 → Int
  | [] => 0
  | p :: ps => p.f0 + sx ps
def sy : List S48 → Int
  | [] => 0
  | p :: ps => p.f1 + sy ps
def neg (p : S48) : S48 := ⟨-p.f0, -p.f1⟩
def Small (l : List S48) : Prop := ∀ p ∈ l, (-10 ≤ p.f0 ∧ p.f0 ≤ 10) ∧ (-10 ≤ p.f1 ∧ p.f1 ≤ 10)
theorem s_app (l m : List S48) : sx (l ++ m) = sx l + sx m ∧ sy (l ++ m) = sy l + sy m := by
  induction l with
  | nil => exact ⟨by simp [sx], by simp [sy]⟩
  | cons p ps ih => exact ⟨by simp only [List.cons_append, sx, ih.1]; omega, by simp only [List.cons_append, sy, ih.2]; omega⟩
theorem s_rev (l : List S48) : sx (l.reverse.map neg) = - sx l ∧ sy (l.reverse.map neg) = - sy l := by
  induction l with
  | nil => exact ⟨rfl, rfl⟩
  | cons p ps ih =>
    rw [List.reverse_cons, List.map_append, (s_app _ _).1, (s_app _ _).2, ih.1, ih.2]
    exact ⟨by simp only [List.map_cons, List.map_nil, sx, neg]; omega, by simp only [List.map_cons, List.map_nil, sy, neg]; omega⟩
theorem small_rev (l : List S48) (h : Small l) : Small (l.reverse.map neg) := by
  intro p hp
  obtain ⟨q, hq, rfl⟩ := List.mem_map.1 hp
  have := h q (List.mem_reverse.1 hq)
  unfold neg
  exact ⟨by simp only; omega, by simp only; omega⟩
theorem run_ok : ∀ (l : List S48) (c : Nat) (x y vx vy : Int), Small l → c + l.length ≤ 40 → (-10 * (c : Int) ≤ vx ∧ vx ≤ 10 * c) → (-10 * (c : Int) ≤ vy ∧ vy ≤ 10 * c) → (-255 - 400 * (c : Int) ≤ x ∧ x ≤ 255 + 400 * c) → (-255 - 400 * (c : Int) ≤ y ∧ y ≤ 255 + 400 * c) →
    ∃ x' y', run l x y vx vy = (x', y', vx + sx l, vy + sy l, true) ∧ goodD x' y' (vx + sx l) (vy + sy l) = true ∧ (-10 * ((c + l.length : Nat) : Int) ≤ vx + sx l ∧ vx + sx l ≤ 10 * (c + l.length : Nat)) ∧ (-10 * ((c + l.length : Nat) : Int) ≤ vy + sy l ∧ vy + sy l ≤ 10 * (c + l.length : Nat)) ∧ (-255 - 400 * ((c + l.length : Nat) : Int) ≤ x' ∧ x' ≤ 255 + 400 * (c + l.length : Nat)) ∧ (-255 - 400 * ((c + l.length : Nat) : Int) ≤ y' ∧ y' ≤ 255 + 400 * (c + l.length : Nat)) := by
  intro l
  induction l with
  | nil =>
    intro c x y vx vy _ hc h1 h2 h3 h4
    have hc' : c ≤ 40 := by simpa using hc
    have gd : goodD x y vx vy = true := by simp only [goodD, Bool.and_eq_true, decide_eq_true_eq]; omega
    simp only [run, sx, sy, Int.add_zero, List.length_nil, Nat.add_zero]
    exact ⟨x, y, rfl, gd, h1, h2, ⟨by omega, by omega⟩, by omega, by omega⟩
  | cons p ps ih =>
    intro c x y vx vy hs hc h1 h2 h3 h4
    have hp := hs p (List.mem_cons_self ..)
    have hc' : c + ps.length + 1 ≤ 40 := by simpa [Nat.add_assoc] using hc
    have e1 : wrap64 (vx + p.f0) = vx + p.f0 := w64 (by omega) (by omega)
    have e2 : wrap64 (vy + p.f1) = vy + p.f1 := w64 (by omega) (by omega)
    have e3 : wrap64 (x + (vx + p.f0)) = x + (vx + p.f0) := w64 (by omega) (by omega)
    have e4 : wrap64 (y + (vy + p.f1)) = y + (vy + p.f1) := w64 (by omega) (by omega)
    have gp : goodP p = true := by simp only [goodP, Bool.and_eq_true, decide_eq_true_eq]; omega
    have gd : goodD (x + (vx + p.f0)) (y + (vy + p.f1)) (vx + p.f0) (vy + p.f1) = true := by simp only [goodD, Bool.and_eq_true, decide_eq_true_eq]; omega
    obtain ⟨x', y', hr, g, b1, b2, b3, b4⟩ := ih (c + 1) (x + (vx + p.f0)) (y + (vy + p.f1)) (vx + p.f0) (vy + p.f1) (fun q hq => hs q (List.mem_cons_of_mem _ hq)) (by omega) (by omega) (by omega) (by omega) (by omega)
    have a1 : vx + p.f0 + sx ps = vx + sx (p :: ps) := by simp only [sx]; omega
    have a2 : vy + p.f1 + sy ps = vy + sy (p :: ps) := by simp only [sy]; omega
    rw [a1, a2] at hr g
    rw [a1] at b1
    rw [a2] at b2
    have el : c + 1 + ps.length = c + (p :: ps).length := by simp only [List.length_cons]; omega
    rw [el] at b1 b2 b3 b4
    refine ⟨x', y', ?_, g, b1, b2, b3, b4⟩
    unfold run
    rw [e1, e2, e3, e4, if_pos gp, if_pos gd, hr]
theorem run_app : ∀ (l m : List S48) (x y vx vy x' y' vx' vy' : Int), run l x y vx vy = (x', y', vx', vy', true) → run (l ++ m) x y vx vy = run m x' y' vx' vy' := by
  intro l
  induction l with
  | nil =>
    intro m x y vx vy x' y' vx' vy' h
    simp only [run, Prod.mk.injEq, and_true] at h
    obtain ⟨rfl, rfl, rfl, rfl⟩ := h
    rfl
  | cons p ps ih =>
    intro m x y vx vy x' y' vx' vy' h
    rw [List.cons_append]
    unfold run at h
    conv => lhs; unfold run
    by_cases gp : goodP p = true
    · rw [if_pos gp] at h ⊢
      split at h
      · rename_i gd
        rw [if_pos gd]
        exact ih m _ _ _ _ _ _ _ _ h
      · simp at h
    · rw [if_neg gp] at h
      simp at h
theorem ev_iner (l : List S48) (x y vx vy : Int) (hl : l.length ≤ 300) (hg : goodD x y vx vy = true) : Ev (fun k => impl_Inertial.f k x y vx vy l) (run l x y vx vy) := by
  refine ⟨l.length + 21, fun k hk => ?_⟩
  simp only []
  rw [inertial_i l x y vx vy k (by omega), if_pos ⟨hg, hl⟩]
theorem blend_f (x y a b p : Int) (k : Nat) (hk : 4 < k) (hx : 0 ≤ x ∧ x ≤ 255) (hy : -255 ≤ y ∧ y ≤ 0) (ha : -128 ≤ a ∧ a ≤ 127) (hb : -128 ≤ b ∧ b ≤ 127) (hp : p = 0 ∨ p = 100) :
    impl_Blend.f k x y 0 0 a b p = some (if p = 0 then (x, y, 0, 0, true) else (a, b, 0, 0, true)) := by
  have gd : goodD x y 0 0 = true := by simp only [goodD, Bool.and_eq_true, decide_eq_true_eq]; omega
  have po : impl_placeOk.f a b = some true := by
    simp only [impl_placeOk.f, in_i, Option.bind_some]
    rw [decide_eq_true (show -2000 ≤ a by omega), decide_eq_true (show a ≤ 2000 by omega), decide_eq_true (show -2000 ≤ b by omega), decide_eq_true (show b ≤ 2000 by omega)]; rfl
  have pi : impl_in.f p 0 100 = some true := by
    rw [in_i, decide_eq_true (show 0 ≤ p by omega), decide_eq_true (show p ≤ 100 by omega)]; rfl
  unfold impl_Blend.f
  rw [driftOk_i _ _ _ _ _ hk, gd, Option.bind_some, if_pos rfl, po, Option.bind_some, if_pos rfl, pi, Option.bind_some, if_pos rfl]
  have e1 : wrap64 (a - x) = a - x := w64 (by omega) (by omega)
  have e2 : wrap64 (b - y) = b - y := w64 (by omega) (by omega)
  rw [e1, e2]
  rcases hp with rfl | rfl
  · have z1 : wrap64 ((a - x) * 0) = 0 := by rw [Int.mul_zero]; exact w64 (by omega) (by omega)
    have z2 : wrap64 ((b - y) * 0) = 0 := by rw [Int.mul_zero]; exact w64 (by omega) (by omega)
    have z3 : wrap64 (Int.tdiv 0 100) = 0 := by rw [Int.zero_tdiv]; exact w64 (by omega) (by omega)
    have z4 : wrap64 (x + 0) = x := (w64 (by omega) (by omega)).trans (by omega)
    have z5 : wrap64 (y + 0) = y := (w64 (by omega) (by omega)).trans (by omega)
    rw [z1, z2, z3, z4, z5, if_pos rfl]
  · have z1 : wrap64 ((a - x) * 100) = (a - x) * 100 := w64 (by omega) (by omega)
    have z2 : wrap64 ((b - y) * 100) = (b - y) * 100 := w64 (by omega) (by omega)
    have t1 : Int.tdiv ((a - x) * 100) 100 = a - x := Int.mul_tdiv_cancel _ (by decide)
    have t2 : Int.tdiv ((b - y) * 100) 100 = b - y := Int.mul_tdiv_cancel _ (by decide)
    have z4 : wrap64 (x + (a - x)) = a := (w64 (by omega) (by omega)).trans (by omega)
    have z5 : wrap64 (y + (b - y)) = b := (w64 (by omega) (by omega)).trans (by omega)
    rw [z1, z2, t1, t2, e1, e2, z4, z5, if_neg (by decide)]
theorem beside_f (a b : Int) (k : Nat) (ha : -128 ≤ a ∧ a ≤ 127) (hb : -128 ≤ b ∧ b ≤ 127) : impl_Beside.f (k + 1) 0 0 0 7 a b = some (if a < 0 then -(a * a) else a * a, true) := by
  have po : ∀ u v : Int, -2000 ≤ u → u ≤ 2000 → -2000 ≤ v → v ≤ 2000 → impl_placeOk.f u v = some true := by
    intro u v h1 h2 h3 h4
    simp only [impl_placeOk.f, in_i, Option.bind_some]
    rw [decide_eq_true h1, decide_eq_true h2, decide_eq_true h3, decide_eq_true h4]; rfl
  have sq : 0 ≤ a * a ∧ a * a ≤ 16384 := by
    refine ⟨by rcases Int.le_total 0 a with h | h; exact Int.mul_nonneg h h; exact Int.mul_nonneg_of_nonpos_of_nonpos h h, ?_⟩
    rcases Int.le_total 0 a with h | h
    · have := Int.mul_le_mul (show a ≤ 128 by omega) (show a ≤ 128 by omega) h (by decide); omega
    · have h1 : (-a) * (-a) ≤ 128 * 128 := Int.mul_le_mul (show -a ≤ 128 by omega) (show -a ≤ 128 by omega) (by omega) (by decide)
      rw [Int.neg_mul_neg] at h1; omega
  generalize hS : a * a = S at sq
  have e0 : wrap64 ((0 : Int) - 0) = 0 := (w64 (by omega) (by omega)).trans (by omega)
  have e7 : wrap64 ((7 : Int) - 0) = 7 := (w64 (by omega) (by omega)).trans (by omega)
  have ea : wrap64 (a - 0) = a := (w64 (by omega) (by omega)).trans (by omega)
  have eb : wrap64 (b - 0) = b := (w64 (by omega) (by omega)).trans (by omega)
  have m0 : wrap64 ((0 : Int) * 0) = 0 := (w64 (by omega) (by omega)).trans (by omega)
  have m7 : wrap64 ((7 : Int) * 7) = 49 := (w64 (by omega) (by omega)).trans (by omega)
  have mb : wrap64 ((0 : Int) * b) = 0 := by rw [Int.zero_mul]; exact w64 (by omega) (by omega)
  have ma : wrap64 ((7 : Int) * a) = 7 * a := w64 (by omega) (by omega)
  have s1 : wrap64 ((0 : Int) + 49) = 49 := (w64 (by omega) (by omega)).trans (by omega)
  have s2 : wrap64 ((0 : Int) - 7 * a) = -(7 * a) := (w64 (by omega) (by omega)).trans (by omega)
  have q : (-(7 * a)) * (-(7 * a)) = S * 49 := by
    rw [Int.neg_mul_neg, ← hS, Int.mul_assoc, Int.mul_comm a (7 * a), Int.mul_assoc, ← Int.mul_assoc, Int.mul_comm]; rfl
  have s3 : wrap64 ((-(7 * a)) * (-(7 * a))) = S * 49 := by rw [q]; exact w64 (by omega) (by omega)
  have s4 : Int.tdiv (S * 49) 49 = S := Int.mul_tdiv_cancel _ (by decide)
  have s5 : wrap64 S = S := w64 (by omega) (by omega)
  have s6 : wrap64 (-S) = -S := w64 (by omega) (by omega)
  unfold impl_Beside.f
  rw [po 0 0 (by omega) (by omega) (by omega) (by omega), Option.bind_some, if_pos rfl, po 0 7 (by omega) (by omega) (by omega) (by omega), Option.bind_some, if_pos rfl, po a b (by omega) (by omega) (by omega) (by omega), Option.bind_some, if_pos rfl]
  have bf : ((0 : Int) == 0 && ((0 : Int) == 7)) = false := by decide
  rw [bf]
  simp only [impl_Beside.j0, Bool.false_eq_true, if_false, e0, e7, ea, eb, m0, m7, mb, ma, s1, s2, s3, s4, s5, s6]
  rw [if_neg (by decide)]
  by_cases h : a < 0
  · rw [if_pos (by omega), if_pos h]
  · rw [if_neg (by omega), if_neg h]
theorem sm_w {z : Int} (h : -1000000 ≤ z ∧ z ≤ 1000000) : wrap64 z = z := w64 (by omega) (by omega)
section
variable (x0 : List Int) (hl : x0.length ≤ 1048576) (hu : ∀ x ∈ x0, (Lit.int .u8 x).wf = true) (X Y : Int) (hX : 0 ≤ X ∧ X ≤ 255) (hY : -255 ≤ Y ∧ Y ≤ 0)
include hl hu hX hY
theorem j2_ok : Ev (fun k => laws_FnInertial.j2 k x0 false X Y 0 0) true := by
  obtain ⟨u, hu1, u0, u1⟩ := at_in x0 hl hu 50 (by omega) (by omega)
  obtain ⟨v, hv1, v0, v1⟩ := at_in x0 hl hu 51 (by omega) (by omega)
  refine ⟨7, fun k hk => ?_⟩
  obtain ⟨m, rfl⟩ : ∃ m, k = m + 2 := ⟨k - 2, by omega⟩
  have e1 : wrap64 (u - 128) = u - 128 := w64 (by omega) (by omega)
  have e2 : wrap64 (v - 128) = v - 128 := w64 (by omega) (by omega)
  have b1 := blend_f X Y (u - 128) (v - 128) 100 (m + 1) (by omega) hX hY (by omega) (by omega) (.inr rfl)
  have b2 := blend_f X Y (u - 128) (v - 128) 0 (m + 1) (by omega) hX hY (by omega) (by omega) (.inl rfl)
  have b3 := beside_f (u - 128) (v - 128) m (by omega) (by omega)
  rw [if_neg (by decide)] at b1
  rw [if_pos rfl] at b2
  simp only [laws_FnInertial.j2, Bool.false_eq_true, if_false, hu1, hv1, Option.bind_some, e1, e2, b1, b2, b3, if_true, beq_self_eq_true, Bool.and_self]
  generalize hA : u - 128 = A
  have hA' : -128 ≤ A ∧ A ≤ 127 := by omega
  have sq : 0 ≤ A * A ∧ A * A ≤ 16384 := by
    refine ⟨by rcases Int.le_total 0 A with h | h; exact Int.mul_nonneg h h; exact Int.mul_nonneg_of_nonpos_of_nonpos h h, ?_⟩
    rcases Int.le_total 0 A with h | h
    · have := Int.mul_le_mul (show A ≤ 128 by omega) (show A ≤ 128 by omega) h (by decide); omega
    · have h1 : (-A) * (-A) ≤ 128 * 128 := Int.mul_le_mul (show -A ≤ 128 by omega) (show -A ≤ 128 by omega) (by omega) (by decide)
      rw [Int.neg_mul_neg] at h1; omega
  unfold laws_size.f
  by_cases h : A < 0
  · have e : wrap64 (A * -A) = -(A * A) := by rw [Int.mul_neg]; exact w64 (by omega) (by omega)
    rw [if_pos h, if_pos h, w64 (a := -A) (by omega) (by omega), Option.bind_some, e, beq_self_eq_true]
  · rw [if_neg h, if_neg h, Option.bind_some, w64 (a := A * A) (by omega) (by omega), beq_self_eq_true]
theorem l1_ok (L : List S48) (hn : L.length ≤ 19) (hs : Small L) : ∀ (d j : Nat), L.length - j = d → j ≤ L.length →
    Ev (fun k => laws_FnInertial.l1 k x0 (L ++ (L.drop (L.length - j)).reverse.map neg) (L.length : Int) (j : Int) X Y 0 0) true := by
  intro d
  induction d with
  | zero =>
    intro j hd hj
    obtain rfl : j = L.length := by omega
    rw [Nat.sub_self, List.drop_zero]
    generalize hM : L.reverse.map neg = M
    have hMl : M.length = L.length := by rw [← hM, List.length_map, List.length_reverse]
    have hMs : Small M := hM ▸ small_rev L hs
    have sM := s_rev L
    rw [hM] at sM
    have g0 : goodD X Y 0 0 = true := by simp only [goodD, Bool.and_eq_true, decide_eq_true_eq]; omega
    obtain ⟨x1, y1, r1, g1, b1, b2, b3, b4⟩ := run_ok L 0 X Y 0 0 hs (by omega) (by omega) (by omega) (by omega) (by omega)
    obtain ⟨x2, y2, r2, g2, -⟩ := run_ok M (0 + L.length) x1 y1 (0 + sx L) (0 + sy L) hMs (by omega) b1 b2 b3 b4
    have z1 : 0 + sx L + sx M = 0 := by omega
    have z2 : 0 + sy L + sy M = 0 := by omega
    rw [z1, z2] at r2
    have r3 := run_app L M X Y 0 0 _ _ _ _ r1
    rw [r2] at r3
    obtain ⟨K1, i1⟩ := ev_iner (L ++ M) X Y 0 0 (by rw [List.length_append]; omega) g0
    obtain ⟨K2, i2⟩ := ev_iner L X Y 0 0 (by omega) g0
    obtain ⟨K3, i3⟩ := ev_iner M x1 y1 (0 + sx L) (0 + sy L) (by omega) g1
    obtain ⟨K4, j2⟩ := j2_ok x0 hl hu X Y hX hY
    rw [r3] at i1
    rw [r1] at i2
    rw [r2] at i3
    have i1' : ∀ k, K1 ≤ k → impl_Inertial.f k X Y 0 0 (L ++ M) = some (x2, y2, 0, 0, true) := i1
    have i2' : ∀ k, K2 ≤ k → impl_Inertial.f k X Y 0 0 L = some (x1, y1, 0 + sx L, 0 + sy L, true) := i2
    have i3' : ∀ k, K3 ≤ k → impl_Inertial.f k x1 y1 (0 + sx L) (0 + sy L) M = some (x2, y2, 0, 0, true) := i3
    have j2' : ∀ k, K4 ≤ k → laws_FnInertial.j2 k x0 false X Y 0 0 = some true := j2
    refine ⟨K1 + K2 + K3 + K4 + 1, fun k hk => ?_⟩
    obtain ⟨m, rfl⟩ : ∃ m, k = m + 1 := ⟨k - 1, by omega⟩
    clear r1 r2 r3 g1 g2 b1 b2 b3 b4 z1 z2 sM i1 i2 i3 j2 hMs
    have d1 : ¬ (L.length : Int) < (L.length : Int) := by omega
    have d2 : K1 ≤ m := by omega
    have d3 : (0 : Int) ≤ (L.length : Int) := by omega
    have d4 : (L.length : Int) ≤ ((L ++ M).length : Int) := by rw [List.length_append]; omega
    have d5 : K2 ≤ m := by omega
    have d6 : K3 ≤ m := by omega
    have d7 : K4 ≤ m := by omega
    simp only [laws_FnInertial.l1]
    rw [if_neg d1, i1' m d2, Option.bind_some, if_pos d3, if_pos d4, Int.toNat_natCast, List.take_left, List.drop_left, i2' m d5, Option.bind_some, i3' m d6, Option.bind_some]
    simp only [if_true, beq_self_eq_true, Bool.not_true, Bool.or_self]
    exact j2' m d7
  | succ d ih =>
    intro j hd hj
    have hlt : L.length - 1 - j < L.length := by omega
    have hdr : L.drop (L.length - (j + 1)) = L[L.length - 1 - j] :: L.drop (L.length - j) := by
      rw [show L.length - (j + 1) = L.length - 1 - j by omega, List.drop_eq_getElem_cons hlt, show L.length - 1 - j + 1 = L.length - j by omega]
    have e := ih (j + 1) (by omega) (by omega)
    rw [hdr, List.reverse_cons, List.map_append, ← List.append_assoc] at e
    have hb := hs _ (List.getElem_mem hlt)
    generalize hM : (L.drop (L.length - j)).reverse.map neg = M at *
    have hMl : M.length = j := by rw [← hM]; simp; omega
    have hr : rd_T48 (L ++ M) ((L.length - 1 - j : Nat) : Int) = L[L.length - 1 - j] := by
      rw [rd48 _ _ (by rw [List.length_append]; omega), List.getElem_append_left hlt]
    simp only [List.map_cons, List.map_nil, neg] at e
    have c1 : (j : Int) < (L.length : Int) := by omega
    have c2 : (0 : Int) ≤ ((L.length - 1 - j : Nat) : Int) := by omega
    have c3 : ((L.length - 1 - j : Nat) : Int) < ((L ++ M).length : Int) := by rw [List.length_append]; omega
    have c4 : (L ++ M).length < 8796093022208 := by rw [List.length_append]; omega
    have c5 : (L.length : Int) - 1 - j = ((L.length - 1 - j : Nat) : Int) := by omega
    have c6 : -1000000 ≤ (L.length : Int) - 1 ∧ (L.length : Int) - 1 ≤ 1000000 := by omega
    have c7 : -1000000 ≤ (L.length : Int) - 1 - j ∧ (L.length : Int) - 1 - j ≤ 1000000 := by omega
    have c8 : -1000000 ≤ (j : Int) + 1 ∧ (j : Int) + 1 ≤ 1000000 := by omega
    have c9 : -1000000 ≤ -(L[L.length - 1 - j]).f0 ∧ -(L[L.length - 1 - j]).f0 ≤ 1000000 := by omega
    have c10 : -1000000 ≤ -(L[L.length - 1 - j]).f1 ∧ -(L[L.length - 1 - j]).f1 ≤ 1000000 := by omega
    have c11 : ((j + 1 : Nat) : Int) = (j : Int) + 1 := Int.natCast_add _ _
    rw [c11] at e
    have w1 : wrap64 (wrap64 ((L.length : Int) - 1) - j) = ((L.length - 1 - j : Nat) : Int) := by
      rw [sm_w c6, sm_w c7, c5]
    have w2 : wrap64 ((j : Int) + 1) = (j : Int) + 1 := sm_w c8
    have n1 : wrap64 (-(L[L.length - 1 - j]).f0) = -(L[L.length - 1 - j]).f0 := sm_w c9
    have n2 : wrap64 (-(L[L.length - 1 - j]).f1) = -(L[L.length - 1 - j]).f1 := sm_w c10
    refine ev_step e fun k => ?_
    simp only [laws_FnInertial.l1]
    rw [if_pos c1, w1, if_pos c2, if_pos c3, if_pos c4, hr, w2, n1, n2]
theorem l0_ok (t : Int) (ht : laws_at.f x0 2 = some t) (h0 : 0 ≤ t) : ∀ (d : Nat) (L : List S48), (t % 20).toNat - L.length = d → L.length ≤ (t % 20).toNat → Small L → Ev (fun k => laws_FnInertial.l0 k x0 L (L.length : Int) X Y 0 0) true := by
  have tm : Int.tmod t 20 = t % 20 := Int.tmod_eq_emod_of_nonneg h0
  intro d
  induction d with
  | zero =>
    intro L hd hL hs
    have e := l1_ok x0 hl hu X Y hX hY L (by omega) hs L.length 0 (by omega) (by omega)
    rw [Nat.sub_zero, List.drop_length] at e
    simp only [List.reverse_nil, List.map_nil, List.append_nil] at e
    have c1 : ¬ (L.length : Int) < t % 20 := by omega
    have e' : Ev (fun k => laws_FnInertial.l1 k x0 L (L.length : Int) 0 X Y 0 0) true := e
    refine ev_step e' fun k => ?_
    simp only [laws_FnInertial.l0, ht, Option.bind_some, tm, if_neg c1]
  | succ d ih =>
    intro L hd hL hs
    have c1 : (L.length : Int) < t % 20 := by omega
    have n20 : L.length ≤ 19 := by omega
    have c2 : L.length < 8796093022208 := by omega
    obtain ⟨u, hu1, u0, u1⟩ := at_in x0 hl hu ((L.length : Int) + 3) (by omega) (by omega)
    obtain ⟨v, hv1, v0, v1⟩ := at_in x0 hl hu ((L.length : Int) + 23) (by omega) (by omega)
    have e := ih (L ++ [(⟨u % 21 - 10, v % 21 - 10⟩ : S48)]) (by rw [List.length_append, List.length_singleton]; omega) (by rw [List.length_append, List.length_singleton]; omega) (by
      intro p hp
      rcases List.mem_append.1 hp with h | h
      · exact hs p h
      · rw [List.mem_singleton.1 h]
        exact ⟨by simp only; omega, by simp only; omega⟩)
    rw [List.length_append, List.length_singleton] at e
    have q1 := sm_w (z := (L.length : Int) + 3) (by omega)
    have q2 := sm_w (z := (L.length : Int) + 23) (by clear q1; omega)
    have q3 := sm_w (z := u % 21 - 10) (by clear q1 q2; omega)
    have q4 := sm_w (z := v % 21 - 10) (by clear q1 q2 q3; omega)
    have q5 := sm_w (z := (L.length : Int) + 1) (by clear q1 q2 q3 q4; omega)
    have tu : Int.tmod u 21 = u % 21 := Int.tmod_eq_emod_of_nonneg u0
    have tv : Int.tmod v 21 = v % 21 := Int.tmod_eq_emod_of_nonneg v0
    have q6 : ((L.length + 1 : Nat) : Int) = (L.length : Int) + 1 := Int.natCast_add _ _
    rw [q6] at e
    refine ev_step e fun k => ?_
    simp only [laws_FnInertial.l0, ht, Option.bind_some, tm, if_pos c1, q1, q2, hu1, hv1, if_pos c2, tu, tv, q3, q4, q5]
end
theorem FnInertial : laws_FnInertial.Pure := by
  intro l0 _ _ hu
  by_cases hl : l0.length ≤ 1048576
  · obtain ⟨a, ha, a0, a1⟩ := at_in l0 hl hu 0 (by omega) (by omega)
    obtain ⟨b, hb, b0, b1⟩ := at_in l0 hl hu 1 (by omega) (by omega)
    obtain ⟨t, ht, t0, t1⟩ := at_in l0 hl hu 2 (by omega) (by omega)
    obtain ⟨K, h⟩ := l0_ok l0 hl hu a (-b) ⟨a0, a1⟩ ⟨by omega, by omega⟩ t ht t0 (t % 20).toNat [] (by simp) (by simp) (fun p hp => absurd hp (List.not_mem_nil))
    have h' : laws_FnInertial.l0 K l0 [] 0 a (-b) 0 0 = some true := h K (by omega)
    refine ⟨K, ?_⟩
    unfold laws_FnInertial.f
    rw [big_f l0 hl, Option.bind_some, if_neg Bool.false_ne_true, ha, Option.bind_some, hb, Option.bind_some, w64 (a := -b) (by omega) (by omega), h']
  · refine ⟨0, ?_⟩
    unfold laws_FnInertial.f
    rw [big_t l0 hl]; rfl
end Go.Proofs.Ytfjpmakmgcngiaa.Pure.FnInertial
namespace Go.Proofs.Ytfjpmakmgcngiaa.Pure
theorem FnInertial : Go.Proofs.Ytfjpmakmgcngiaa.PFnInertial.laws_FnInertial.Pure := FnInertial.FnInertial
end Go.Proofs.Ytfjpmakmgcngiaa.Pure
