/- For every code the law FnCaptured returns true: a drawn climb that leads to its target ends held at it, never beyond it, and changes its mode at most twice. No condition. -/
import Derived.Test.YtdodiflcmjbfdaaPFnCapturedx10
import Derived.Test.YtdodiflcmjbfdaaNum
namespace Go.Proofs.Ytdodiflcmjbfdaa.Pure.FnCaptured
open Go.RowKit Go.Proofs.Ytdodiflcmjbfdaa.PFnCaptured Go.Proofs.YtdodiflcmjbfdaaW.PrintWords Go.Proofs.YtdodiflcmjbfdaaW.PrintLast Go.Proofs.YtdodiflcmjbfdaaW.PrintMore Go.Proofs.Ytdodiflcmjbfdaa.Num
set_option linter.unusedVariables false
set_option linter.unusedSimpArgs false
theorem in_i (a b c : Int) : impl_in.f a b c = some (decide (b ≤ a) && decide (a ≤ c)) := by
  unfold impl_in.f
  by_cases h : a ≥ b
  · rw [if_pos h, decide_eq_true (show b ≤ a from h)]; rfl
  · rw [if_neg h, decide_eq_false (show ¬ b ≤ a from h)]; rfl
theorem at_in (l : List Int) (hl : l.length ≤ 1048576) (hu : ∀ x ∈ l, (Lit.int .u8 x).wf = true) (i : Int) (h0 : 0 ≤ i) (h1 : i ≤ 1000000) : ∃ v, laws_at.f l i = some v ∧ 0 ≤ v ∧ v ≤ 255 := by
  unfold laws_at.f
  by_cases h : i < (l.length : Int)
  · rw [if_pos h, if_pos h0]
    have hi : i.toNat < l.length := by omega
    have hr : rd l i = l[i.toNat] := by
      show l.getD i.toNat 0 = _
      rw [List.getD_eq_getElem?_getD, List.getElem?_eq_getElem hi]; rfl
    have hb := wfu8 (hu _ (List.getElem_mem hi))
    rw [hr, w64 (by omega) (by omega)]
    exact ⟨_, rfl, hb.1, hb.2⟩
  · rw [if_neg h]
    refine ⟨_, rfl, ?_⟩
    rw [w64 (a := i * 7) (by omega) (by omega), w64 (by omega) (by omega), Int.tmod_eq_emod_of_nonneg (by omega)]
    omega
theorem big_f (l : List Int) (h : l.length ≤ 1048576) : laws_big.f l = some false := by
  unfold laws_big.f
  rw [decide_eq_false (by omega)]
theorem big_t (l : List Int) (h : ¬ l.length ≤ 1048576) : laws_big.f l = some true := by
  unfold laws_big.f
  rw [decide_eq_true (by omega)]
def POk (a b c d e f g h : Int) : Prop := (0 ≤ a ∧ a ≤ 4) ∧ (0 ≤ b ∧ b ≤ 3) ∧ (0 ≤ c ∧ c ≤ 60000) ∧ (0 ≤ d ∧ d ≤ 60000) ∧ (-100 ≤ e ∧ e ≤ 100) ∧ (0 ≤ f ∧ f ≤ 359) ∧ (0 ≤ g ∧ g ≤ 359) ∧ (-10000 ≤ h ∧ h ≤ 10000)
theorem pilotOk_i (a b c d e f g h : Int) (i : Bool) (hp : POk a b c d e f g h) (k : Nat) (hk : 0 < k) : impl_PilotOk.f k a b c d e f g h i = some true := by
  obtain ⟨k, rfl⟩ : ∃ m, k = m + 1 := ⟨k - 1, by omega⟩
  obtain ⟨⟨a1, a2⟩, ⟨b1, b2⟩, ⟨c1, c2⟩, ⟨d1, d2⟩, ⟨e1, e2⟩, ⟨f1, f2⟩, ⟨g1, g2⟩, h1, h2⟩ := hp
  simp only [impl_PilotOk.f, impl_PilotOk.j0, in_i, Option.bind_some, decide_eq_true a1, decide_eq_true a2, decide_eq_true b1, decide_eq_true b2, decide_eq_true c1, decide_eq_true c2, decide_eq_true d1, decide_eq_true d2, decide_eq_true e1, decide_eq_true e2, decide_eq_true f1, decide_eq_true f2, decide_eq_true g1, decide_eq_true g2, decide_eq_true h1, decide_eq_true h2, Bool.and_self, if_true]
theorem size_i (a : Int) (h1 : -1000000 ≤ a) (h2 : a ≤ 1000000) : ∃ z, impl_size.f a = some z ∧ (0 ≤ a → z = a) ∧ (a < 0 → z = -a) := by
  unfold impl_size.f
  rw [w64 (a := -a) (by omega) (by omega)]
  by_cases h : a < 0
  · refine ⟨-a, ?_, fun _ => by omega, fun _ => rfl⟩
    congr 1; unfold mx; rw [if_pos (by omega)]
  · refine ⟨a, ?_, fun _ => rfl, fun _ => by omega⟩
    congr 1; unfold mx; rw [if_neg (by omega)]
theorem ceil2_i (y : Int) (h1 : 0 ≤ y) (h2 : y ≤ 100) : impl_ceilOver.f y 2 = some ((y + 1) / 2) := by
  unfold impl_ceilOver.f impl_floorOver.f
  rw [w64 (a := -y) (by omega) (by omega), if_neg (by omega)]
  have t1 : Int.tdiv (-y) 2 = -(y / 2) := by rw [Int.neg_tdiv, Int.tdiv_eq_ediv_of_nonneg (by omega)]
  have t2 : Int.tmod (-y) 2 = -(y % 2) := by rw [Int.neg_tmod, Int.tmod_eq_emod_of_nonneg (by omega)]
  rw [t1, t2, w64 (a := -(y / 2)) (by omega) (by omega), w64 (a := -(y / 2) - 1) (by omega) (by omega)]
  by_cases p : y % 2 = 0
  · rw [if_pos (by omega), Option.bind_some, w64 (by omega) (by omega)]; congr 1; omega
  · rw [if_neg (by omega), decide_eq_true (show -y < 0 by omega), decide_eq_false (show ¬ (2 : Int) < 0 by omega), if_pos (show (true != false) = true from rfl), Option.bind_some, w64 (by omega) (by omega)]; congr 1; omega
/-- How many changes of mode a list shows. -/
def cg : List S25 → Int
  | a :: b :: t => (if b.f0 = a.f0 then 0 else 1) + cg (b :: t)
  | _ => 0
theorem rdl (x : List S25) (i : Nat) (h : i < x.length) : rd_T25 x (i : Int) = x[i] := by
  show x.getD (i : Int).toNat z25 = _
  rw [Int.toNat_natCast, List.getD_eq_getElem?_getD, List.getElem?_eq_getElem h]; rfl
theorem cg_nonneg : ∀ x : List S25, 0 ≤ cg x ∧ cg x ≤ x.length
  | [] => by simp [cg]
  | [_] => by simp [cg]
  | a :: b :: t => by
    have := cg_nonneg (b :: t)
    simp only [cg, List.length_cons] at *
    split <;> omega
theorem changes_l (x : List S25) (hx : x.length ≤ 1000) : ∀ (d k i : Nat) (c : Int), x.length - i = d → 1 ≤ i → d < k → 0 ≤ c → c ≤ i → impl_Changes.l0 k x c (i : Int) = some (c + cg (x.drop (i - 1))) := by
  intro d
  induction d with
  | zero =>
    intro k i c hd hi hk h0 h1
    obtain ⟨k, rfl⟩ : ∃ m, k = m + 1 := ⟨k - 1, by omega⟩
    simp only [impl_Changes.l0]
    rw [if_neg (by omega)]
    have hl : (x.drop (i - 1)).length ≤ 1 := by rw [List.length_drop]; omega
    have : cg (x.drop (i - 1)) = 0 := by
      match h : x.drop (i - 1) with
      | [] => rfl
      | [_] => rfl
      | _ :: _ :: _ => rw [h] at hl; simp at hl
    rw [this, Int.add_zero]
  | succ d ih =>
    intro k i c hd hi hk h0 h1
    obtain ⟨k, rfl⟩ : ∃ m, k = m + 1 := ⟨k - 1, by omega⟩
    have w1 : wrap64 ((i : Int) - 1) = ((i - 1 : Nat) : Int) := by rw [w64 (by omega) (by omega)]; omega
    have w2 : wrap64 ((i : Int) + 1) = ((i + 1 : Nat) : Int) := by rw [w64 (by omega) (by omega)]; omega
    have w3 : wrap64 (c + 1) = c + 1 := w64 (by omega) (by omega)
    have e1 : x.drop (i - 1) = x[i - 1] :: x[i] :: x.drop (i + 1) := by
      rw [List.drop_eq_getElem_cons (by omega : i - 1 < x.length)]
      congr 1
      have : i - 1 + 1 = i := by omega
      rw [this, List.drop_eq_getElem_cons (by omega : i < x.length)]
    have e2 : x.drop (i + 1 - 1) = x[i] :: x.drop (i + 1) := by rw [Nat.add_sub_cancel, List.drop_eq_getElem_cons (by omega : i < x.length)]
    simp only [impl_Changes.l0, w1, w2, w3]
    rw [if_pos (by omega), if_pos (by omega), if_pos (by omega), if_pos (by omega), rdl x i (by omega), rdl x (i - 1) (by omega), e1]
    simp only [cg]
    by_cases h : x[i].f0 = x[i - 1].f0
    · rw [if_pos h, if_pos h, ih k (i + 1) c (by omega) (by omega) (by omega) h0 (by omega), e2, Int.zero_add]
    · rw [if_neg h, if_neg h, ih k (i + 1) (c + 1) (by omega) (by omega) (by omega) (by omega) (by omega), e2, Int.add_assoc]
/-- One tick of a climb: the mode, and what is left to the target. -/
def stp (R : Int) (s : Int × Int) : Int × Int :=
  if s.1 = 2 then (if s.2 - R ≤ 0 then (1, 0) else if s.2 - R ≤ 10 * R then (3, s.2 - R) else (2, s.2 - R))
  else if s.1 = 3 then (if s.2 - (R + 1) / 2 ≤ 0 then (1, 0) else (3, s.2 - (R + 1) / 2)) else s
def Inv (s : Int × Int) : Prop := (s.1 = 1 ∧ s.2 = 0) ∨ (s.1 = 2 ∧ 1 ≤ s.2 ∧ s.2 ≤ 256) ∨ (s.1 = 3 ∧ 1 ≤ s.2 ∧ s.2 ≤ 256)
theorem stp1 (R : Int) : stp R (1, 0) = (1, 0) := rfl
theorem stp2 (R L : Int) : stp R (2, L) = if L - R ≤ 0 then (1, 0) else if L - R ≤ 10 * R then (3, L - R) else (2, L - R) := by simp [stp]
theorem stp3 (R L : Int) : stp R (3, L) = if L - (R + 1) / 2 ≤ 0 then (1, 0) else (3, L - (R + 1) / 2) := by simp [stp]
theorem inv_cases {s : Int × Int} (h : Inv s) : s = (1, 0) ∨ (∃ L, s = (2, L) ∧ 1 ≤ L ∧ L ≤ 256) ∨ (∃ L, s = (3, L) ∧ 1 ≤ L ∧ L ≤ 256) := by
  obtain ⟨m, L⟩ := s
  rcases h with ⟨a, b⟩ | ⟨a, b⟩ | ⟨a, b⟩
  · simp only at a b; subst a b; exact .inl rfl
  · simp only at a b; subst a; exact .inr (.inl ⟨L, rfl, b⟩)
  · simp only at a b; subst a; exact .inr (.inr ⟨L, rfl, b⟩)
theorem inv1 : Inv (1, 0) := .inl ⟨rfl, rfl⟩
theorem inv2 {L : Int} (h1 : 1 ≤ L) (h2 : L ≤ 256) : Inv (2, L) := .inr (.inl ⟨rfl, h1, h2⟩)
theorem inv3 {L : Int} (h1 : 1 ≤ L) (h2 : L ≤ 256) : Inv (3, L) := .inr (.inr ⟨rfl, h1, h2⟩)
theorem stp_inv {R : Int} (h1 : 1 ≤ R) (h2 : R ≤ 20) {s : Int × Int} (h : Inv s) : Inv (stp R s) ∧ (stp R s).2 ≤ s.2 := by
  rcases inv_cases h with rfl | ⟨L, rfl, a, b⟩ | ⟨L, rfl, a, b⟩
  · rw [stp1]; exact ⟨inv1, Int.le_refl _⟩
  · rw [stp2]
    split
    · exact ⟨inv1, by simp only; omega⟩
    · split
      · exact ⟨inv3 (by omega) (by omega), by simp only; omega⟩
      · exact ⟨inv2 (by omega) (by omega), by simp only; omega⟩
  · rw [stp3]
    split
    · exact ⟨inv1, by simp only; omega⟩
    · exact ⟨inv3 (by omega) (by omega), by simp only; omega⟩
def rt (σ R m : Int) : Int := if m = 1 then 0 else σ * R
def mk (σ R D : Int) (s : Int × Int) : S25 := ⟨s.1, 0, D - σ * s.2, D, rt σ R s.1, 0, 0, 0, false⟩
theorem lat0 (a c d e f g : Int) (i : Bool) : impl_Pilot_lateral.f a 0 c d e f g 0 i = some (a, 0, c, d, e, f, g, 0, i) := by
  unfold impl_Pilot_lateral.f
  rw [if_neg (by omega), if_neg (by omega), if_neg (by omega)]
theorem held0 : impl_held.f (wrap64 (0 + 0)) (-10000) 10000 = some 0 := by
  rw [w64 (by omega) (by omega)]; rfl
theorem tick_c (σ R D : Int) (hσ : σ = 1 ∨ σ = -1) (h1 : 1 ≤ R) (h2 : R ≤ 20) (h3 : 744 ≤ D) (h4 : D ≤ 1256) (s : Int × Int) (hs : Inv s) (k : Nat) (hk : 4 < k) :
    impl_PilotTick.f k (mk σ R D s).f0 (mk σ R D s).f1 (mk σ R D s).f2 (mk σ R D s).f3 (mk σ R D s).f4 (mk σ R D s).f5 (mk σ R D s).f6 (mk σ R D s).f7 (mk σ R D s).f8 0 = some ((mk σ R D (stp R s)).f0, (mk σ R D (stp R s)).f1, (mk σ R D (stp R s)).f2, (mk σ R D (stp R s)).f3, (mk σ R D (stp R s)).f4, (mk σ R D (stp R s)).f5, (mk σ R D (stp R s)).f6, (mk σ R D (stp R s)).f7, (mk σ R D (stp R s)).f8, true) := by
  obtain ⟨m, L⟩ := s
  have hp : POk m 0 (D - σ * L) D (rt σ R m) 0 0 0 := by
    unfold POk rt Inv at *
    simp only at hs
    rcases hσ with rfl | rfl
    · split <;> omega
    · split <;> omega
  unfold impl_PilotTick.f
  show (impl_PilotOk.f k m 0 (D - σ * L) D (rt σ R m) 0 0 0 false).bind _ = _
  rw [pilotOk_i _ _ _ _ _ _ _ _ _ hp k (by omega), Option.bind_some, if_pos rfl, in_i, decide_eq_true (show (-100 : Int) ≤ 0 by omega), decide_eq_true (show (0 : Int) ≤ 100 by omega), Option.bind_some]
  obtain ⟨k, rfl⟩ : ∃ m, k = m + 2 := ⟨k - 2, by omega⟩
  show impl_PilotTick.j0 (k + 2) 0 false m 0 (D - σ * L) D (rt σ R m) 0 0 0 false = _
  simp only [impl_PilotTick.j0, Bool.false_eq_true, if_false]
  rcases hs with ⟨e, hL⟩ | ⟨e, hL1, hL2⟩ | ⟨e, hL1, hL2⟩
  · simp only at e hL
    subst e hL
    rw [if_neg (by omega), if_neg (by omega), if_neg (by omega), held0, Option.bind_some, lat0, Option.bind_some]
    have : stp R (1, 0) = (1, 0) := rfl
    rw [this]
    rfl
  · simp only at e hL1 hL2
    subst e
    have hr : rt σ R 2 = σ * R := by unfold rt; rw [if_neg (by omega)]
    have key : impl_Pilot_climb.f (k + 1) 2 0 (D - σ * L) D (σ * R) 0 0 0 false = some ((stp R (2, L)).1, 0, D - σ * (stp R (2, L)).2, D, rt σ R (stp R (2, L)).1, 0, 0, 0, false) := by
      have fin : ∀ t : Bool, impl_Pilot_climb.j0 (k + 1) (σ * (L - R)) t 2 0 (D - σ * (L - R)) D (σ * R) 0 0 0 false = (if t = true then some (1, 0, D, D, 0, 0, 0, 0, false) else (if L - R ≤ 10 * R then some (3, 0, D - σ * (L - R), D, σ * R, 0, 0, 0, false) else some (2, 0, D - σ * (L - R), D, σ * R, 0, 0, 0, false))) ∨ L - R ≤ 0 := by
        intro t
        by_cases q : L - R ≤ 0
        · exact .inr q
        · refine .inl ?_
          obtain ⟨z, z1, z2, z3⟩ := size_i (σ * (L - R)) (by rcases hσ with rfl | rfl <;> omega) (by rcases hσ with rfl | rfl <;> omega)
          obtain ⟨y, y1, y2, y3⟩ := size_i (σ * R) (by rcases hσ with rfl | rfl <;> omega) (by rcases hσ with rfl | rfl <;> omega)
          have hz : z = L - R := by rcases hσ with rfl | rfl <;> omega
          have hy : y = R := by rcases hσ with rfl | rfl <;> omega
          rw [hz] at z1
          rw [hy] at y1
          simp only [impl_Pilot_climb.j0, z1, y1, Option.bind_some, w64 (a := 10 * R) (by omega) (by omega)]
      have e1 : wrap64 (D - σ * L + σ * R) = D - σ * (L - R) := by rcases hσ with rfl | rfl <;> (rw [w64 (by omega) (by omega)]; omega)
      have e2 : wrap64 (D - (D - σ * (L - R))) = σ * (L - R) := by rcases hσ with rfl | rfl <;> (rw [w64 (by omega) (by omega)]; omega)
      have j1 : ∀ x2 : Int, impl_Pilot_climb.j0 (k + 1) x2 true 2 0 (D - σ * (L - R)) D (σ * R) 0 0 0 false = some (1, 0, D, D, 0, 0, 0, 0, false) := fun x2 => by simp only [impl_Pilot_climb.j0, if_true]
      unfold impl_Pilot_climb.f
      rw [e1, e2, if_neg (by rcases hσ with rfl | rfl <;> omega)]
      by_cases q : L - R ≤ 0
      · have hst : stp R (2, L) = (1, 0) := by rw [stp2, if_pos q]
        rw [hst]
        have hD : D - σ * 0 = D := by rw [Int.mul_zero, Int.sub_zero]
        have hR : rt σ R 1 = 0 := by unfold rt; rw [if_pos rfl]
        simp only [hD, hR]
        rcases hσ with rfl | rfl
        · rw [if_pos (by omega), if_pos (by omega), j1]
        · rw [if_neg (by omega), if_pos (by omega), decide_eq_true (by omega), j1]
      · have f := (fin false).resolve_right q
        have g : stp R (2, L) = if L - R ≤ 10 * R then (3, L - R) else (2, L - R) := by rw [stp2, if_neg q]
        have res : impl_Pilot_climb.j0 (k + 1) (σ * (L - R)) false 2 0 (D - σ * (L - R)) D (σ * R) 0 0 0 false = some ((stp R (2, L)).1, 0, D - σ * (stp R (2, L)).2, D, rt σ R (stp R (2, L)).1, 0, 0, 0, false) := by
          rw [f, g, if_neg (by decide)]
          split
          · simp only [rt]; rw [if_neg (by omega)]
          · simp only [rt]; rw [if_neg (by omega)]
        rcases hσ with rfl | rfl
        · rw [if_pos (by omega), if_neg (by omega), if_neg (by omega), res]
        · rw [if_neg (by omega), if_pos (by omega), decide_eq_false (by omega), res]
    rw [if_pos rfl, hr, key, Option.bind_some]
    simp only [held0, Option.bind_some, lat0]
    rfl
  · simp only at e hL1 hL2
    subst e
    have hr : rt σ R 3 = σ * R := by unfold rt; rw [if_neg (by omega)]
    have key : impl_Pilot_capture.f 3 0 (D - σ * L) D (σ * R) 0 0 0 false = some ((stp R (3, L)).1, 0, D - σ * (stp R (3, L)).2, D, rt σ R (stp R (3, L)).1, 0, 0, 0, false) := by
      obtain ⟨y, y1, y2, y3⟩ := size_i (σ * R) (by rcases hσ with rfl | rfl <;> omega) (by rcases hσ with rfl | rfl <;> omega)
      have hy : y = R := by rcases hσ with rfl | rfl <;> omega
      rw [hy] at y1
      have hm : mx ((R + 1) / 2) 1 = (R + 1) / 2 := by unfold mx; rw [if_neg (by omega)]
      have hB : 1 ≤ (R + 1) / 2 ∧ (R + 1) / 2 ≤ 10 := by omega
      unfold impl_Pilot_capture.f
      rw [y1, Option.bind_some, ceil2_i R (by omega) (by omega), Option.bind_some, hm]
      have g := stp3 R L
      rw [g]
      generalize (R + 1) / 2 = B at *
      have hh : impl_held.f (wrap64 (D - (D - σ * L))) (wrap64 (-B)) B = some (mx (mn (σ * L) B) (-B)) := by
        have : wrap64 (D - (D - σ * L)) = σ * L := by rcases hσ with rfl | rfl <;> (rw [w64 (by omega) (by omega)]; omega)
        rw [this, w64 (a := -B) (by omega) (by omega)]; rfl
      rw [hh, Option.bind_some]
      have hv : D - σ * L + mx (mn (σ * L) B) (-B) = if L - B ≤ 0 then D else D - σ * (L - B) := by
        unfold mx mn
        rcases hσ with rfl | rfl
        · repeat' split
          all_goals omega
        · repeat' split
          all_goals omega
      rw [hv]
      by_cases q : L - B ≤ 0
      · rw [if_pos q, if_pos q, w64 (by omega) (by omega), if_pos rfl]
        have hD : D - σ * 0 = D := by rw [Int.mul_zero, Int.sub_zero]
        have hR : rt σ R 1 = 0 := by unfold rt; rw [if_pos rfl]
        simp only [hD, hR]
      · rw [if_neg q, if_neg q]
        have hw : wrap64 (D - σ * (L - B)) = D - σ * (L - B) := by rcases hσ with rfl | rfl <;> exact w64 (by omega) (by omega)
        rw [hw, if_neg (by rcases hσ with rfl | rfl <;> omega)]
        simp only [rt]
        rw [if_neg (by omega)]
    rw [if_neg (by omega), if_pos rfl, hr, key, Option.bind_some]
    simp only [held0, Option.bind_some, lat0]
    rfl
/-- The list of the states behind each tick. -/
def tl (σ R D : Int) : Nat → Int × Int → List S25
  | 0, _ => []
  | n + 1, s => mk σ R D (stp R s) :: tl σ R D n (stp R s)
def it (R : Int) : Nat → Int × Int → Int × Int
  | 0, s => s
  | n + 1, s => it R n (stp R s)
theorem tl_len (σ R D : Int) : ∀ (n : Nat) (s : Int × Int), (tl σ R D n s).length = n
  | 0, _ => rfl
  | n + 1, s => by simp only [tl, List.length_cons, tl_len σ R D n]
theorem tl_get (σ R D : Int) : ∀ (n i : Nat) (s : Int × Int), i < n → rd_T25 (tl σ R D n s) (i : Int) = mk σ R D (it R (i + 1) s)
  | 0, i, _, h => absurd h (Nat.not_lt_zero _)
  | n + 1, 0, s, _ => rfl
  | n + 1, i + 1, s, h => by
    have := tl_get σ R D n i (stp R s) (by omega)
    simp only [tl]
    show (mk σ R D (stp R s) :: tl σ R D n (stp R s)).getD (((i + 1 : Nat) : Int)).toNat z25 = _
    rw [Int.toNat_natCast, List.getD_cons_succ]
    have h2 : rd_T25 (tl σ R D n (stp R s)) (i : Int) = (tl σ R D n (stp R s)).getD i z25 := by
      show (tl σ R D n (stp R s)).getD (i : Int).toNat z25 = _
      rw [Int.toNat_natCast]
    rw [← h2, this]; rfl
theorem it_inv {R : Int} (h1 : 1 ≤ R) (h2 : R ≤ 20) : ∀ (n : Nat) (s : Int × Int), Inv s → Inv (it R n s) ∧ (it R n s).2 ≤ s.2
  | 0, s, h => ⟨h, Int.le_refl _⟩
  | n + 1, s, h => by
    obtain ⟨a, b⟩ := stp_inv h1 h2 h
    obtain ⟨c, d⟩ := it_inv h1 h2 n _ a
    exact ⟨c, Int.le_trans d b⟩
def rk (m : Int) : Int := if m = 2 then 2 else if m = 3 then 1 else 0
theorem cg_tl {σ R D : Int} (h1 : 1 ≤ R) (h2 : R ≤ 20) : ∀ (n : Nat) (s : Int × Int), Inv s → cg (mk σ R D s :: tl σ R D n s) ≤ rk s.1
  | 0, s, h => by
    simp only [tl, cg]
    unfold rk; repeat' split
    all_goals omega
  | n + 1, s, h => by
    have a := (stp_inv h1 h2 h).1
    have ih := cg_tl (σ := σ) (D := D) h1 h2 n _ a
    simp only [tl, cg]
    have hk : (if (mk σ R D (stp R s)).f0 = (mk σ R D s).f0 then (0 : Int) else 1) + rk (stp R s).1 ≤ rk s.1 := by
      show (if (stp R s).1 = s.1 then (0 : Int) else 1) + rk (stp R s).1 ≤ rk s.1
      clear ih a
      rcases inv_cases h with rfl | ⟨L, rfl, a, b⟩ | ⟨L, rfl, a, b⟩
      · rw [stp1]; exact Int.le_refl _
      · rw [stp2]
        split
        · simp [rk]
        · split
          · simp [rk]
          · simp [rk]
      · rw [stp3]
        split
        · simp [rk]
        · simp [rk]
    omega
def G (R c : Int) (s : Int × Int) : Prop := s.1 = 1 ∨ (s.1 = 3 ∧ 1 ≤ s.2 ∧ s.2 ≤ (R + 1) / 2 * c) ∨ (s.1 = 2 ∧ 1 ≤ s.2 ∧ s.2 + 21 ≤ c)
theorem G_step {R c : Int} (h1 : 1 ≤ R) (h2 : R ≤ 20) {s : Int × Int} (hs : Inv s) (h : G R c s) : G R (c - 1) (stp R s) := by
  have hm : (R + 1) / 2 * (c - 1) = (R + 1) / 2 * c - (R + 1) / 2 := by rw [Int.mul_sub, Int.mul_one]
  have hc : 21 ≤ c → 10 * R ≤ (R + 1) / 2 * (c - 1) := by
    intro hc
    have := Int.mul_le_mul_of_nonneg_left (show (20 : Int) ≤ c - 1 by omega) (show 0 ≤ (R + 1) / 2 by omega)
    omega
  rcases inv_cases hs with rfl | ⟨L, rfl, a, b⟩ | ⟨L, rfl, a, b⟩
  · rw [stp1]; exact .inl rfl
  · rcases h with h | h | ⟨_, h5, h6⟩
    · exact absurd h (show ¬ (2 : Int) = 1 by omega)
    · exact absurd h.1 (show ¬ (2 : Int) = 3 by omega)
    · have h6 : L + 21 ≤ c := h6
      have hc := hc (by omega)
      rw [stp2]
      split
      · exact .inl rfl
      · split
        · exact .inr (.inl ⟨rfl, by simp only; omega, by simp only; omega⟩)
        · exact .inr (.inr ⟨rfl, by simp only; omega, by simp only; omega⟩)
  · rcases h with h | ⟨_, h5, h6⟩ | h
    · exact absurd h (show ¬ (3 : Int) = 1 by omega)
    · have h6 : L ≤ (R + 1) / 2 * c := h6
      rw [stp3]
      split
      · exact .inl rfl
      · exact .inr (.inl ⟨rfl, by simp only; omega, by simp only; omega⟩)
    · exact absurd h.1 (show ¬ (3 : Int) = 2 by omega)
theorem G_it {R : Int} (h1 : 1 ≤ R) (h2 : R ≤ 20) : ∀ (n : Nat) (c : Int) (s : Int × Int), Inv s → G R c s → G R (c - n) (it R n s)
  | 0, c, s, _, h => by rwa [show c - ((0 : Nat) : Int) = c by omega]
  | n + 1, c, s, hs, h => by
    have := G_it h1 h2 n (c - 1) _ (stp_inv h1 h2 hs).1 (G_step h1 h2 hs h)
    rwa [show c - 1 - (n : Int) = c - ((n + 1 : Nat) : Int) by omega] at this
theorem rep0 (n : Nat) (i : Nat) : rd (List.replicate n 0) (i : Int) = 0 := by
  show (List.replicate n (0 : Int)).getD (i : Int).toNat 0 = 0
  rw [Int.toNat_natCast, List.getD_eq_getElem?_getD]
  by_cases h : i < n
  · rw [List.getElem?_replicate, if_pos h]; rfl
  · rw [List.getElem?_eq_none (by simp; omega)]; rfl
theorem ticks_c (σ R D : Int) (hσ : σ = 1 ∨ σ = -1) (h1 : 1 ≤ R) (h2 : R ≤ 20) (h3 : 744 ≤ D) (h4 : D ≤ 1256) : ∀ (d j : Nat) (x : List S25) (s : Int × Int), 300 - j = d → j ≤ 300 → x.length = j → Inv s → ∀ k, d + 5 < k → impl_Ticks.l0 k x (List.replicate 300 0) 300 (j : Int) (mk σ R D s).f0 (mk σ R D s).f1 (mk σ R D s).f2 (mk σ R D s).f3 (mk σ R D s).f4 (mk σ R D s).f5 (mk σ R D s).f6 (mk σ R D s).f7 (mk σ R D s).f8 = some (x ++ tl σ R D d s, true) := by
  intro d
  induction d with
  | zero =>
    intro j x s hd hj hx hs k hk
    obtain ⟨k, rfl⟩ : ∃ m, k = m + 1 := ⟨k - 1, by omega⟩
    simp only [impl_Ticks.l0]
    rw [if_neg (by omega)]
    simp only [tl, List.append_nil]
  | succ d ih =>
    intro j x s hd hj hx hs k hk
    obtain ⟨k, rfl⟩ : ∃ m, k = m + 1 := ⟨k - 1, by omega⟩
    have hl : ((List.replicate 300 (0 : Int)).length : Int) = 300 := by rw [List.length_replicate]; rfl
    have hi := ih (j + 1) (x ++ [mk σ R D (stp R s)]) (stp R s) (by omega) (by omega) (by simp; omega) (stp_inv h1 h2 hs).1 k (by omega)
    have w1 : wrap64 ((j : Int) + 1) = ((j + 1 : Nat) : Int) := by rw [w64 (by omega) (by omega)]; omega
    simp only [impl_Ticks.l0, rep0, tick_c σ R D hσ h1 h2 h3 h4 s hs k (by omega), Option.bind_some, if_true, w1, hl]
    rw [if_pos (by omega), if_pos (by omega), if_pos (by omega), if_pos (by omega)]
    refine hi.trans ?_
    rw [List.append_assoc]; rfl
section
variable (σ R F : Int) (hσ : σ = 1 ∨ σ = -1) (h1 : 1 ≤ R) (h2 : R ≤ 20) (h3 : 1 ≤ F) (h4 : F ≤ 256)
include hσ h1 h2 h3 h4
theorem loop (g0 g1 g2 g3 g4 g5 g6 g7 : Int) (g8 : Bool) (hg : (⟨g0, g1, g2, g3, g4, g5, g6, g7, g8⟩ : S25) = mk σ R (1000 + σ * F) (2, F)) : ∀ (d j : Nat), 300 - j = d → j ≤ 300 → ∀ k, d + 400 < k → laws_FnCaptured.l0 k (σ * F) (tl σ R (1000 + σ * F) 300 (2, F)) (j : Int) g0 g1 g2 g3 g4 g5 g6 g7 g8 = some true := by
  have hs : Inv (2, F) := .inr (.inl ⟨rfl, h3, h4⟩)
  have hD : 744 ≤ 1000 + σ * F ∧ 1000 + σ * F ≤ 1256 := by rcases hσ with rfl | rfl <;> omega
  have hlen := tl_len σ R (1000 + σ * F) 300 (2, F)
  intro d
  induction d with
  | zero =>
    intro j hd hj k hk
    obtain ⟨k, rfl⟩ : ∃ m, k = m + 1 := ⟨k - 1, by omega⟩
    have hend : it R 300 (2, F) = (1, 0) := by
      have a := G_it h1 h2 300 300 (2, F) hs (.inr (.inr ⟨rfl, h3, by simp only; omega⟩))
      have b := (it_inv h1 h2 300 (2, F) hs).1
      generalize it R 300 (2, F) = e at a b
      obtain ⟨m, L⟩ := e
      unfold G at a
      unfold Inv at b
      simp only [show (300 : Int) - ((300 : Nat) : Int) = 0 by omega, Int.mul_zero] at a b
      have : m = 1 ∧ L = 0 := by omega
      rw [this.1, this.2]
    have hr : rd_T25 (tl σ R (1000 + σ * F) 300 (2, F)) 299 = mk σ R (1000 + σ * F) (1, 0) := by
      have := tl_get σ R (1000 + σ * F) 300 299 (2, F) (by omega)
      rw [hend] at this
      exact this
    have hst : stp R (1, 0) = (1, 0) := rfl
    have ht := tick_c σ R (1000 + σ * F) hσ h1 h2 hD.1 hD.2 (1, 0) (.inl ⟨rfl, rfl⟩) k (by omega)
    rw [hst] at ht
    have hch : impl_Changes.f k ([(⟨g0, g1, g2, g3, g4, g5, g6, g7, g8⟩ : S25)] ++ tl σ R (1000 + σ * F) 300 (2, F)) = some (cg (mk σ R (1000 + σ * F) (2, F) :: tl σ R (1000 + σ * F) 300 (2, F))) := by
      unfold impl_Changes.f
      rw [hg]
      have := changes_l ([mk σ R (1000 + σ * F) (2, F)] ++ tl σ R (1000 + σ * F) 300 (2, F)) (by simp; omega) 300 k 1 0 (by simp; omega) (by omega) (by omega) (by omega) (by omega)
      rw [Int.zero_add] at this
      exact this
    have hcg := cg_tl (σ := σ) (D := 1000 + σ * F) h1 h2 300 (2, F) hs
    have hcg : cg (mk σ R (1000 + σ * F) (2, F) :: tl σ R (1000 + σ * F) 300 (2, F)) ≤ 2 := hcg
    simp only [laws_FnCaptured.l0, hr, ht, hch, Option.bind_some]
    have f0 : (mk σ R (1000 + σ * F) (1, 0)).f0 = 1 := rfl
    have f2 : (mk σ R (1000 + σ * F) (1, 0)).f2 = 1000 + σ * F := by
      show 1000 + σ * F - σ * 0 = _
      rw [Int.mul_zero, Int.sub_zero]
    have f4 : (mk σ R (1000 + σ * F) (1, 0)).f4 = 0 := by
      show rt σ R 1 = 0
      unfold rt; rw [if_pos rfl]
    rw [if_neg (by omega), if_pos (by omega), if_pos f0, if_pos (by rw [f2, w64 (by omega) (by omega)]), if_pos f4, if_pos (by simp; omega), if_pos hcg]
    simp
  | succ d ih =>
    intro j hd hj k hk
    obtain ⟨k, rfl⟩ : ∃ m, k = m + 1 := ⟨k - 1, by omega⟩
    obtain ⟨a, b⟩ := it_inv h1 h2 (j + 1) (2, F) hs
    have b : (it R (j + 1) (2, F)).2 ≤ F := b
    have hr := tl_get σ R (1000 + σ * F) 300 j (2, F) (by omega)
    have hL : 0 ≤ (it R (j + 1) (2, F)).2 := by
      unfold Inv at a
      omega
    generalize it R (j + 1) (2, F) = e at *
    have w1 : wrap64 ((j : Int) + 1) = ((j + 1 : Nat) : Int) := by rw [w64 (by omega) (by omega)]; omega
    have hf : (mk σ R (1000 + σ * F) e).f2 = 1000 + σ * F - σ * e.2 := rfl
    have hsg : laws_sign.f (σ * F) = some σ := by
      unfold laws_sign.f
      rcases hσ with rfl | rfl
      · rw [if_neg (by omega)]
      · rw [if_pos (by omega)]
    have hsz : laws_size.f (σ * F) = some F := by
      unfold laws_size.f
      rcases hσ with rfl | rfl
      · rw [if_neg (by omega)]; congr 1; omega
      · rw [if_pos (by omega), w64 (by omega) (by omega)]; congr 1; omega
    have hv : wrap64 (wrap64 (1000 + σ * F - σ * e.2 - 1000) * σ) = F - e.2 := by
      rcases hσ with rfl | rfl
      · rw [w64 (a := 1000 + 1 * F - 1 * e.2 - 1000) (by omega) (by omega), w64 (by omega) (by omega)]; omega
      · rw [w64 (a := 1000 + -1 * F - -1 * e.2 - 1000) (by omega) (by omega), w64 (by omega) (by omega)]; omega
    simp only [laws_FnCaptured.l0, hr, hf, hsg, hsz, hv, w1, Option.bind_some]
    rw [if_pos (by omega), if_pos (by omega), if_neg (by omega), if_neg (by omega)]
    exact ih (j + 1) (by omega) (by omega) k (by omega)
theorem go (k : Nat) (hk : 1000 < k) : laws_FnCaptured.j0 k (σ * F) (σ * R) 1 0 1000 1000 0 0 0 0 false = some true := by
  obtain ⟨k, rfl⟩ : ∃ m, k = m + 4 := ⟨k - 4, by omega⟩
  have hD : 744 ≤ 1000 + σ * F ∧ 1000 + σ * F ≤ 1256 := by rcases hσ with rfl | rfl <;> omega
  have hRb : -20 ≤ σ * R ∧ σ * R ≤ 20 ∧ σ * R ≠ 0 := by rcases hσ with rfl | rfl <;> omega
  have hs : Inv (2, F) := .inr (.inl ⟨rfl, h3, h4⟩)
  have p1 : impl_Press.f (k + 3) 1 0 1000 1000 0 0 0 0 false 3 (wrap64 (1000 + σ * F)) = some (1, 0, 1000, 1000 + σ * F, 0, 0, 0, 0, false, true) := by
    unfold impl_Press.f
    rw [pilotOk_i _ _ _ _ _ _ _ _ _ (by unfold POk; omega) _ (by omega), w64 (by omega) (by omega)]
    unfold impl_Pilot_press.f
    simp only [Option.bind_some, if_true, in_i, decide_eq_true (show 0 ≤ 1000 + σ * F by omega), decide_eq_true (show 1000 + σ * F ≤ 60000 by omega), Bool.and_self]
    rfl
  have p2 : impl_Press.f (k + 3) 0 0 1000 (1000 + σ * F) 0 0 0 0 false 7 (σ * R) = some (0, 0, 1000, 1000 + σ * F, σ * R, 0, 0, 0, false, true) := by
    unfold impl_Press.f
    rw [pilotOk_i _ _ _ _ _ _ _ _ _ (by unfold POk; omega) _ (by omega)]
    unfold impl_Pilot_press.f
    simp only [Option.bind_some, if_true, in_i, decide_eq_true (show -100 ≤ σ * R by omega), decide_eq_true (show σ * R ≤ 100 by omega), Bool.and_self]
    rfl
  have p3 : impl_Press.f (k + 3) 0 0 1000 (1000 + σ * F) (σ * R) 0 0 0 false 2 0 = some (2, 0, 1000, 1000 + σ * F, σ * R, 0, 0, 0, false, true) := by
    have ha : impl_Pilot_astray.f 0 0 1000 (1000 + σ * F) (σ * R) 0 0 0 false = some (false, 0, 0, 1000, 1000 + σ * F, σ * R, 0, 0, 0, false) := by
      unfold impl_Pilot_astray.f
      rcases hσ with rfl | rfl
      · rw [if_pos (by omega), if_neg (by omega), if_neg (by omega)]
      · rw [if_neg (by omega), if_pos (by omega), decide_eq_false (by omega)]
    unfold impl_Press.f
    rw [pilotOk_i _ _ _ _ _ _ _ _ _ (by unfold POk; omega) _ (by omega)]
    unfold impl_Pilot_press.f
    simp only [Option.bind_some, if_true, if_neg hRb.2.2, ha]
    rw [if_neg (by decide), if_neg (by decide), if_neg (by rcases hσ with rfl | rfl <;> omega)]
    rfl
  have ok : impl_PilotOk.f (k + 3) 2 0 1000 (1000 + σ * F) (σ * R) 0 0 0 false = some true := pilotOk_i _ _ _ _ _ _ _ _ _ (by unfold POk; omega) _ (by omega)
  have hmk : mk σ R (1000 + σ * F) (2, F) = ⟨2, 0, 1000, 1000 + σ * F, σ * R, 0, 0, 0, false⟩ := by
    unfold mk rt
    simp only
    rw [if_neg (by omega), show 1000 + σ * F - σ * F = 1000 by omega]
  have tk : impl_Ticks.f (k + 2) 2 0 1000 (1000 + σ * F) (σ * R) 0 0 0 false (List.replicate 300 0) = some (tl σ R (1000 + σ * F) 300 (2, F), true) := by
    unfold impl_Ticks.f
    rw [pilotOk_i _ _ _ _ _ _ _ _ _ (by unfold POk; omega) _ (by omega), Option.bind_some, if_pos rfl]
    have := ticks_c σ R (1000 + σ * F) hσ h1 h2 hD.1 hD.2 300 0 [] (2, F) (by omega) (by omega) rfl hs (k + 1) (by omega)
    rw [hmk] at this
    have hl : ((List.replicate 300 (0 : Int)).length : Int) = 300 := by rw [List.length_replicate]; rfl
    rw [hl, decide_eq_false (by omega)]
    simp only [impl_Ticks.j0, Bool.false_eq_true, if_false, hl]
    exact this
  have lp := loop σ R F hσ h1 h2 h3 h4 2 0 1000 (1000 + σ * F) (σ * R) 0 0 0 false hmk.symm 300 0 (by omega) (by omega) k (by omega)
  have j2 : laws_FnCaptured.j2 (k + 1) (σ * F) (tl σ R (1000 + σ * F) 300 (2, F)) false 2 0 1000 (1000 + σ * F) (σ * R) 0 0 0 false = some true := by
    simp only [laws_FnCaptured.j2, Bool.false_eq_true, if_false]
    exact lp
  have hlen : (((tl σ R (1000 + σ * F) 300 (2, F)).length : Int) != 300) = false := by rw [tl_len]; rfl
  have j1 : laws_FnCaptured.j1 (k + 3) (σ * F) false 2 0 1000 (1000 + σ * F) (σ * R) 0 0 0 false = some true := by
    simp only [laws_FnCaptured.j1, Bool.false_eq_true, if_false, tk, Option.bind_some, if_true, hlen]
    rw [if_pos (by omega)]
    have j2' : laws_FnCaptured.j2 (k + 2) (σ * F) (tl σ R (1000 + σ * F) 300 (2, F)) false 2 0 1000 (1000 + σ * F) (σ * R) 0 0 0 false = some true := by
      simp only [laws_FnCaptured.j2, Bool.false_eq_true, if_false]
      exact loop σ R F hσ h1 h2 h3 h4 2 0 1000 (1000 + σ * F) (σ * R) 0 0 0 false hmk.symm 300 0 (by omega) (by omega) (k + 1) (by omega)
    exact j2'
  simp only [laws_FnCaptured.j0, p1, p2, p3, ok, Option.bind_some, if_true, Bool.not_true, j1]
end
theorem FnCaptured : laws_FnCaptured.Pure := by
  intro l _ _ hu
  refine ⟨1001, ?_⟩
  unfold laws_FnCaptured.f
  by_cases hl : l.length ≤ 1048576
  · obtain ⟨a, ea, a0, a1⟩ := at_in l hl hu 0 (by omega) (by omega)
    obtain ⟨b, eb, b0, b1⟩ := at_in l hl hu 1 (by omega) (by omega)
    obtain ⟨c, ec, c0, c1⟩ := at_in l hl hu 2 (by omega) (by omega)
    rw [big_f l hl]
    simp only [Option.bind_some, Bool.false_eq_true, if_false, ea, eb, ec]
    have hm := Int.tmod_eq_emod_of_nonneg (b := 20) b0
    rw [hm, w64 (a := 1 + a) (by omega) (by omega), w64 (a := 1 + b % 20) (by omega) (by omega), w64 (a := -(1 + a)) (by omega) (by omega), w64 (a := -(1 + b % 20)) (by omega) (by omega)]
    split
    · have := go (-1) (1 + b % 20) (1 + a) (.inr rfl) (by omega) (by omega) (by omega) (by omega) 1001 (by omega)
      rwa [Int.neg_one_mul, Int.neg_one_mul] at this
    · have := go 1 (1 + b % 20) (1 + a) (.inl rfl) (by omega) (by omega) (by omega) (by omega) 1001 (by omega)
      rwa [Int.one_mul, Int.one_mul] at this
  · rw [big_t l hl, Option.bind_some, if_pos rfl]
end Go.Proofs.Ytdodiflcmjbfdaa.Pure.FnCaptured
namespace Go.Proofs.Ytdodiflcmjbfdaa.Pure
theorem FnCaptured : Go.Proofs.Ytdodiflcmjbfdaa.PFnCaptured.laws_FnCaptured.Pure := FnCaptured.FnCaptured
end Go.Proofs.Ytdodiflcmjbfdaa.Pure
