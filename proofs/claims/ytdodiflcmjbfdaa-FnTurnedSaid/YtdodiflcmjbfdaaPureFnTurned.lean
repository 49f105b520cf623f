/- For every code the law FnTurned returns true: a drawn heading is reached in at most sixty ticks, the shorter way; an armed course is captured once near, and held at 0. No condition. -/
import Derived.Test.YtdodiflcmjbfdaaPFnTurnedx9
import Derived.Test.YtdodiflcmjbfdaaNum
namespace Go.Proofs.Ytdodiflcmjbfdaa.Pure.FnTurned
open Go.RowKit Go.Proofs.Ytdodiflcmjbfdaa.PFnTurned Go.Proofs.YtdodiflcmjbfdaaW.PrintWords Go.Proofs.YtdodiflcmjbfdaaW.PrintLast Go.Proofs.YtdodiflcmjbfdaaW.PrintMore Go.Proofs.Ytdodiflcmjbfdaa.Num
set_option linter.unusedVariables false
set_option linter.unusedSimpArgs false
theorem in_i (a b c : Int) : impl_in.f a b c = some (decide (b ≤ a) && decide (a ≤ c)) := by
  unfold impl_in.f
  by_cases h : a ≥ b
  · rw [if_pos h, decide_eq_true (show b ≤ a from h)]; rfl
  · rw [if_neg h, decide_eq_false (show ¬ b ≤ a from h)]; rfl
theorem at_in (l : List Int) (hl : l.length ≤ 1048576) (hu : ∀ x ∈ l, (Lit.int .u8 x).wf = true) (i : Int) (h0 : 0 ≤ i) (h1 : i ≤ 1000000) : ∃ v, laws_at.f l i = some v ∧ 0 ≤ v ∧ v ≤ 255 := by
  unfold laws_at.f
  by_cases h : i < (l.length : Int)
  · rw [if_pos h, if_pos h0]
    have hi : i.toNat < l.length := by omega
    have hr : rd l i = l[i.toNat] := by
      show l.getD i.toNat 0 = _
      rw [List.getD_eq_getElem?_getD, List.getElem?_eq_getElem hi]; rfl
    have hb := wfu8 (hu _ (List.getElem_mem hi))
    rw [hr, w64 (by omega) (by omega)]
    exact ⟨_, rfl, hb.1, hb.2⟩
  · rw [if_neg h]
    refine ⟨_, rfl, ?_⟩
    rw [w64 (a := i * 7) (by omega) (by omega), w64 (by omega) (by omega), Int.tmod_eq_emod_of_nonneg (by omega)]
    omega
theorem big_f (l : List Int) (h : l.length ≤ 1048576) : laws_big.f l = some false := by
  unfold laws_big.f
  rw [decide_eq_false (by omega)]
theorem big_t (l : List Int) (h : ¬ l.length ≤ 1048576) : laws_big.f l = some true := by
  unfold laws_big.f
  rw [decide_eq_true (by omega)]
def POk (a b c d e f g h : Int) : Prop := (0 ≤ a ∧ a ≤ 4) ∧ (0 ≤ b ∧ b ≤ 3) ∧ (0 ≤ c ∧ c ≤ 60000) ∧ (0 ≤ d ∧ d ≤ 60000) ∧ (-100 ≤ e ∧ e ≤ 100) ∧ (0 ≤ f ∧ f ≤ 359) ∧ (0 ≤ g ∧ g ≤ 359) ∧ (-10000 ≤ h ∧ h ≤ 10000)
theorem pilotOk_i (a b c d e f g h : Int) (i : Bool) (hp : POk a b c d e f g h) (k : Nat) (hk : 0 < k) : impl_PilotOk.f k a b c d e f g h i = some true := by
  obtain ⟨k, rfl⟩ : ∃ m, k = m + 1 := ⟨k - 1, by omega⟩
  obtain ⟨⟨a1, a2⟩, ⟨b1, b2⟩, ⟨c1, c2⟩, ⟨d1, d2⟩, ⟨e1, e2⟩, ⟨f1, f2⟩, ⟨g1, g2⟩, h1, h2⟩ := hp
  simp only [impl_PilotOk.f, impl_PilotOk.j0, in_i, Option.bind_some, decide_eq_true a1, decide_eq_true a2, decide_eq_true b1, decide_eq_true b2, decide_eq_true c1, decide_eq_true c2, decide_eq_true d1, decide_eq_true d2, decide_eq_true e1, decide_eq_true e2, decide_eq_true f1, decide_eq_true f2, decide_eq_true g1, decide_eq_true g2, decide_eq_true h1, decide_eq_true h2, Bool.and_self, if_true]
theorem size_i (a : Int) (h1 : -1000000 ≤ a) (h2 : a ≤ 1000000) : ∃ z, impl_size.f a = some z ∧ (0 ≤ a → z = a) ∧ (a < 0 → z = -a) := by
  unfold impl_size.f
  rw [w64 (a := -a) (by omega) (by omega)]
  by_cases h : a < 0
  · refine ⟨-a, ?_, fun _ => by omega, fun _ => rfl⟩
    congr 1; unfold mx; rw [if_pos (by omega)]
  · refine ⟨a, ?_, fun _ => rfl, fun _ => by omega⟩
    congr 1; unfold mx; rw [if_neg (by omega)]
theorem ceil2_i (y : Int) (h1 : 0 ≤ y) (h2 : y ≤ 100) : impl_ceilOver.f y 2 = some ((y + 1) / 2) := by
  unfold impl_ceilOver.f impl_floorOver.f
  rw [w64 (a := -y) (by omega) (by omega), if_neg (by omega)]
  have t1 : Int.tdiv (-y) 2 = -(y / 2) := by rw [Int.neg_tdiv, Int.tdiv_eq_ediv_of_nonneg (by omega)]
  have t2 : Int.tmod (-y) 2 = -(y % 2) := by rw [Int.neg_tmod, Int.tmod_eq_emod_of_nonneg (by omega)]
  rw [t1, t2, w64 (a := -(y / 2)) (by omega) (by omega), w64 (a := -(y / 2) - 1) (by omega) (by omega)]
  by_cases p : y % 2 = 0
  · rw [if_pos (by omega), Option.bind_some, w64 (by omega) (by omega)]; congr 1; omega
  · rw [if_neg (by omega), decide_eq_true (show -y < 0 by omega), decide_eq_false (show ¬ (2 : Int) < 0 by omega), if_pos (show (true != false) = true from rfl), Option.bind_some, w64 (by omega) (by omega)]; congr 1; omega
theorem rd_s (s : S25) (x : List S25) (i : Nat) : rd_T25 (s :: x) ((i + 1 : Nat) : Int) = rd_T25 x (i : Int) := by
  show (s :: x).getD (((i + 1 : Nat) : Int)).toNat z25 = x.getD (i : Int).toNat z25
  rw [Int.toNat_natCast, Int.toNat_natCast, List.getD_cons_succ]
theorem rep0 (n : Nat) (i : Nat) : rd (List.replicate n 0) (i : Int) = 0 := by
  show (List.replicate n (0 : Int)).getD (i : Int).toNat 0 = 0
  rw [Int.toNat_natCast, List.getD_eq_getElem?_getD]
  by_cases h : i < n
  · rw [List.getElem?_replicate, if_pos h]; rfl
  · rw [List.getElem?_eq_none (by simp; omega)]; rfl
/-- How far a heading is from the one that is wanted, the shorter way. -/
def dist (g f : Int) : Int := if (g - f + 360) % 360 > 180 then 360 - (g - f + 360) % 360 else (g - f + 360) % 360
theorem turn_i (f g : Int) (hf : 0 ≤ f ∧ f ≤ 359) (hg : 0 ≤ g ∧ g ≤ 359) : ∃ f', (0 ≤ f' ∧ f' ≤ 359) ∧ dist g f' = mx (dist g f - 3) 0 ∧ ∀ (a b c d e h : Int) (i : Bool), impl_Pilot_turn.f a b c d e f g h i = some (a, b, c, d, e, f', g, h, i) := by
  unfold impl_Pilot_turn.f
  rw [w64 (a := g - f) (by omega) (by omega), w64 (a := g - f + 359) (by omega) (by omega), w64 (a := g - f + 359 + 1) (by omega) (by omega), show g - f + 359 + 1 = g - f + 360 by omega, Int.tmod_eq_emod_of_nonneg (show 0 ≤ g - f + 360 by omega)]
  obtain ⟨r, hr⟩ : ∃ r, (g - f + 360) % 360 = r := ⟨_, rfl⟩
  have hr2 : 0 ≤ r ∧ r ≤ 359 := by omega
  rw [hr, w64 (a := 360 - r) (by omega) (by omega)]
  have hd : dist g f = if r > 180 then 360 - r else r := by unfold dist; rw [hr]
  by_cases p : r > 180
  · obtain ⟨m, hm⟩ : ∃ m, mn (360 - r) 3 = m := ⟨_, rfl⟩
    have hm2 : 0 ≤ m ∧ m ≤ 3 ∧ m ≤ 360 - r ∧ (m = 3 ∨ m = 360 - r) := by rw [← hm]; unfold mn; split <;> omega
    refine ⟨(f - m + 360) % 360, by omega, ?_, fun a b c d e h i => ?_⟩
    · rw [hd, if_pos p]
      have e : (g - (f - m + 360) % 360 + 360) % 360 = (r + m) % 360 := by omega
      unfold dist mx
      rw [e]
      repeat' split
      all_goals omega
    · rw [if_pos (by omega), hm, w64 (a := -m) (by omega) (by omega), w64 (a := f + -m) (by omega) (by omega), w64 (a := f + -m + 359) (by omega) (by omega), w64 (a := f + -m + 359 + 1) (by omega) (by omega), show f + -m + 359 + 1 = f - m + 360 by omega, Int.tmod_eq_emod_of_nonneg (by omega)]
  · obtain ⟨m, hm⟩ : ∃ m, mn r 3 = m := ⟨_, rfl⟩
    have hm2 : 0 ≤ m ∧ m ≤ 3 ∧ m ≤ r ∧ (m = 3 ∨ m = r) := by rw [← hm]; unfold mn; split <;> omega
    refine ⟨(f + m + 360) % 360, by omega, ?_, fun a b c d e h i => ?_⟩
    · rw [hd, if_neg p]
      have e : (g - (f + m + 360) % 360 + 360) % 360 = (r - m) % 360 := by omega
      unfold dist mx
      rw [e]
      repeat' split
      all_goals omega
    · rw [if_neg (by omega), hm, w64 (a := f + m) (by omega) (by omega), w64 (a := f + m + 359) (by omega) (by omega), w64 (a := f + m + 359 + 1) (by omega) (by omega), show f + m + 359 + 1 = f + m + 360 by omega, Int.tmod_eq_emod_of_nonneg (by omega)]
theorem tick0 (b f g h : Int) (i : Bool) (hb : 0 ≤ b ∧ b ≤ 3) (hf : 0 ≤ f ∧ f ≤ 359) (hg : 0 ≤ g ∧ g ≤ 359) (hh : 0 ≤ h ∧ h ≤ 49) (k : Nat) (hk : 4 < k) : impl_PilotTick.f k 0 b 0 0 0 f g h i 0 = (impl_Pilot_lateral.f 0 b 0 0 0 f g h i).bind fun r => some (r.1, r.2.1, r.2.2.1, r.2.2.2.1, r.2.2.2.2.1, r.2.2.2.2.2.1, r.2.2.2.2.2.2.1, r.2.2.2.2.2.2.2.1, r.2.2.2.2.2.2.2.2, true) := by
  have e0 : impl_held.f (wrap64 (0 + 0)) 0 60000 = some 0 := by rw [w64 (by omega) (by omega)]; rfl
  have e1 : impl_held.f (wrap64 (h + 0)) (-10000) 10000 = some h := by
    rw [w64 (by omega) (by omega), Int.add_zero]
    unfold impl_held.f mx mn
    rw [if_neg (by omega), if_neg (by omega)]
  unfold impl_PilotTick.f
  rw [pilotOk_i _ _ _ _ _ _ _ _ _ (by unfold POk; omega) k (by omega), Option.bind_some, if_pos rfl, in_i, decide_eq_true (show (-100 : Int) ≤ 0 by omega), decide_eq_true (show (0 : Int) ≤ 100 by omega), Option.bind_some]
  obtain ⟨k, rfl⟩ : ∃ m, k = m + 2 := ⟨k - 2, by omega⟩
  show impl_PilotTick.j0 (k + 2) 0 false 0 b 0 0 0 f g h i = _
  simp only [impl_PilotTick.j0, Bool.false_eq_true, if_false]
  rw [if_neg (by omega), if_neg (by omega), if_pos trivial, e0, Option.bind_some, e1, Option.bind_some]
theorem ticksA (g h : Int) (hg : 0 ≤ g ∧ g ≤ 359) (hh : 0 ≤ h ∧ h ≤ 49) (n : Nat) (hn : n ≤ 300) : ∀ (d j : Nat) (y : List S25) (f : Int), n - j = d → j ≤ n → y.length = j → (0 ≤ f ∧ f ≤ 359) → ∃ x : List S25, x.length = d ∧ (∀ i : Nat, i < d → dist g (rd_T25 x i).f5 = mx (dist g f - 3 * (i + 1)) 0 ∧ 0 ≤ (rd_T25 x i).f5 ∧ (rd_T25 x i).f5 ≤ 359) ∧ ∀ k, d + 5 < k → impl_Ticks.l0 k y (List.replicate n 0) (n : Int) (j : Int) 0 1 0 0 0 f g h false = some (y ++ x, true) := by
  intro d
  induction d with
  | zero =>
    intro j y f hd hj hy hf
    refine ⟨[], rfl, fun i hi => absurd hi (Nat.not_lt_zero _), fun k hk => ?_⟩
    obtain ⟨k, rfl⟩ : ∃ m, k = m + 1 := ⟨k - 1, by omega⟩
    simp only [impl_Ticks.l0]
    rw [if_neg (by omega), List.append_nil]
  | succ d ih =>
    intro j y f hd hj hy hf
    obtain ⟨f', f1, f2, f3⟩ := turn_i f g hf hg
    obtain ⟨x, x1, x2, x3⟩ := ih (j + 1) (y ++ [⟨0, 1, 0, 0, 0, f', g, h, false⟩]) f' (by omega) (by omega) (by simp; omega) f1
    refine ⟨⟨0, 1, 0, 0, 0, f', g, h, false⟩ :: x, by simp; omega, fun i hi => ?_, fun k hk => ?_⟩
    · cases i with
      | zero =>
        show dist g f' = mx (dist g f - 3 * (((0 : Nat) : Int) + 1)) 0 ∧ 0 ≤ f' ∧ f' ≤ 359
        rw [f2]; exact ⟨by congr 1, f1⟩
      | succ i =>
        rw [rd_s]
        obtain ⟨a, b⟩ := x2 i (by omega)
        refine ⟨?_, b⟩
        rw [a, f2]
        unfold mx
        repeat' split
        all_goals omega
    · clear x2 f2
      obtain ⟨k, rfl⟩ : ∃ m, k = m + 1 := ⟨k - 1, by omega⟩
      have w1 : wrap64 ((j : Int) + 1) = ((j + 1 : Nat) : Int) := by rw [w64 (by omega) (by omega)]; omega
      have hl : (List.replicate n (0 : Int)).length = n := List.length_replicate
      have hlat : impl_Pilot_lateral.f 0 1 0 0 0 f g h false = some (0, 1, 0, 0, 0, f', g, h, false) := by
        unfold impl_Pilot_lateral.f
        rw [if_pos rfl, f3, Option.bind_some]
        rfl
      simp only [impl_Ticks.l0, rep0, tick0 1 f g h false (by omega) hf hg hh k (by omega), hlat, Option.bind_some, if_true, w1, hl]
      have q1 : (j : Int) < (n : Int) := by clear hlat w1 hl x1 f1 hf f3 x3 ih hg hh; omega
      have q2 : (0 : Int) ≤ (j : Int) := by clear hlat w1 hl x1 f1 hf f3 x3 ih hg hh; omega
      have q3 : y.length < 1954687338268 := by clear hlat w1 hl x1 f1 hf f3 x3 ih hg hh; omega
      have q4 : d + 5 < k := by clear hlat w1 hl x1 f1 hf f3 x3 ih hg hh; omega
      rw [if_pos q1, if_pos q2, if_pos q1, if_pos q3, x3 k q4, List.append_assoc]
      rfl
def Q (c b h : Int) : Prop := (b = 2 ∧ h = 0) ∨ (b = 3 ∧ 1 ≤ h ∧ h ≤ 10 * c ∧ h ≤ 49)
theorem lat_q (c b f g h : Int) (hq : Q c b h) : ∃ b' h', Q (c - 1) b' h' ∧ impl_Pilot_lateral.f 0 b 0 0 0 f g h false = some (0, b', 0, 0, 0, f, g, h', false) := by
  unfold impl_Pilot_lateral.f
  rcases hq with ⟨rfl, rfl⟩ | ⟨rfl, h1, h2, h3⟩
  · refine ⟨2, 0, .inl ⟨rfl, rfl⟩, ?_⟩
    obtain ⟨z, z1, z2, _⟩ := size_i 0 (by omega) (by omega)
    have := z2 (by omega)
    rw [if_neg (by omega), if_neg (by omega), if_pos rfl, z1, Option.bind_some, if_pos (by omega)]
  · have hh : impl_held.f h (-10) 10 = some (mx (mn h 10) (-10)) := rfl
    obtain ⟨m, hm⟩ : ∃ m, mx (mn h 10) (-10) = m := ⟨_, rfl⟩
    have hm2 : m ≤ 10 ∧ m ≤ h ∧ (m = 10 ∨ m = h) := by
      rw [← hm]; unfold mx mn
      repeat' split
      all_goals omega
    rw [if_neg (by omega), if_pos rfl, hh, Option.bind_some, hm, w64 (by omega) (by omega)]
    by_cases p : h - m = 0
    · rw [if_pos p]
      exact ⟨2, h - m, .inl ⟨rfl, p⟩, rfl⟩
    · rw [if_neg p]
      exact ⟨3, h - m, .inr ⟨rfl, by omega, by omega, by omega⟩, rfl⟩
theorem ticksC (f g : Int) (hf : 0 ≤ f ∧ f ≤ 359) (hg : 0 ≤ g ∧ g ≤ 359) (n : Nat) (hn : n ≤ 300) : ∀ (d j : Nat) (y : List S25) (c b h : Int), n - j = d → j ≤ n → y.length = j → Q c b h → ∃ x : List S25, x.length = d ∧ (∀ i : Nat, i < d → Q (c - (i + 1)) (rd_T25 x i).f1 (rd_T25 x i).f7) ∧ ∀ k, d + 5 < k → impl_Ticks.l0 k y (List.replicate n 0) (n : Int) (j : Int) 0 b 0 0 0 f g h false = some (y ++ x, true) := by
  intro d
  induction d with
  | zero =>
    intro j y c b h hd hj hy hq
    refine ⟨[], rfl, fun i hi => absurd hi (Nat.not_lt_zero _), fun k hk => ?_⟩
    obtain ⟨k, rfl⟩ : ∃ m, k = m + 1 := ⟨k - 1, by omega⟩
    simp only [impl_Ticks.l0]
    rw [if_neg (by omega), List.append_nil]
  | succ d ih =>
    intro j y c b h hd hj hy hq
    obtain ⟨b', h', q', hlat⟩ := lat_q c b f g h hq
    obtain ⟨x, x1, x2, x3⟩ := ih (j + 1) (y ++ [⟨0, b', 0, 0, 0, f, g, h', false⟩]) (c - 1) b' h' (by omega) (by omega) (by simp; omega) q'
    refine ⟨⟨0, b', 0, 0, 0, f, g, h', false⟩ :: x, by simp; omega, fun i hi => ?_, fun k hk => ?_⟩
    · cases i with
      | zero => exact q'
      | succ i =>
        rw [rd_s]
        have := x2 i (by omega)
        rwa [show c - 1 - ((i : Int) + 1) = c - (((i + 1 : Nat) : Int) + 1) by omega] at this
    · obtain ⟨k, rfl⟩ : ∃ m, k = m + 1 := ⟨k - 1, by omega⟩
      have w1 : wrap64 ((j : Int) + 1) = ((j + 1 : Nat) : Int) := by rw [w64 (by omega) (by omega)]; omega
      have hl : (List.replicate n (0 : Int)).length = n := List.length_replicate
      have hb : (0 ≤ b ∧ b ≤ 3) ∧ (0 ≤ h ∧ h ≤ 49) := by unfold Q at hq; omega
      simp only [impl_Ticks.l0, rep0, tick0 b f g h false hb.1 hf hg hb.2 k (by omega), hlat, Option.bind_some, if_true, w1, hl]
      rw [if_pos (by omega), if_pos (by omega), if_pos (by omega), if_pos (by omega), x3 k (by omega), List.append_assoc]
      rfl
/-- The second flight: armed, the course is captured at once, and held at 0 in the end. -/
theorem second (f g h : Int) (hf : 0 ≤ f ∧ f ≤ 359) (hg : 0 ≤ g ∧ g ≤ 359) (hh : 40 ≤ h ∧ h ≤ 49) (k : Nat) (hk : 100 < k) : ∃ x : List S25, x.length = 20 ∧ (rd_T25 x 0).f1 = 3 ∧ (rd_T25 x 0).f8 = false ∧ (rd_T25 x 19).f1 = 2 ∧ (rd_T25 x 19).f7 = 0 ∧ impl_Ticks.f k 0 1 0 0 0 f g h true (List.replicate 20 0) = some (x, true) := by
  obtain ⟨f', f1, f2, f3⟩ := turn_i f g hf hg
  obtain ⟨x, x1, x2, x3⟩ := ticksC f' g f1 hg 20 (by omega) 19 1 [⟨0, 3, 0, 0, 0, f', g, h, false⟩] 5 3 h (by omega) (by omega) rfl (.inr ⟨rfl, by omega, by omega, by omega⟩)
  refine ⟨[⟨0, 3, 0, 0, 0, f', g, h, false⟩] ++ x, by simp; omega, rfl, rfl, ?_, ?_, ?_⟩
  · have q := x2 18 (by omega)
    have e : rd_T25 ([⟨0, 3, 0, 0, 0, f', g, h, false⟩] ++ x) 19 = rd_T25 x ((18 : Nat) : Int) := rd_s _ x 18
    rw [e]
    unfold Q at q
    omega
  · have q := x2 18 (by omega)
    have e : rd_T25 ([⟨0, 3, 0, 0, 0, f', g, h, false⟩] ++ x) 19 = rd_T25 x ((18 : Nat) : Int) := rd_s _ x 18
    rw [e]
    unfold Q at q
    omega
  · obtain ⟨k, rfl⟩ : ∃ m, k = m + 2 := ⟨k - 2, by omega⟩
    have hl : ((List.replicate 20 (0 : Int)).length : Int) = 20 := by rw [List.length_replicate]; rfl
    have hr : rd (List.replicate 20 0) 0 = 0 := rep0 20 0
    have hlat : impl_Pilot_lateral.f 0 1 0 0 0 f g h true = some (0, 3, 0, 0, 0, f', g, h, false) := by
      unfold impl_Pilot_lateral.f
      obtain ⟨z, z1, z2, _⟩ := size_i h (by omega) (by omega)
      have := z2 (by omega)
      simp only [if_true, f3, Option.bind_some, z1]
      rw [if_pos (by omega)]
    unfold impl_Ticks.f
    rw [pilotOk_i _ _ _ _ _ _ _ _ _ (by unfold POk; omega) _ (by omega), Option.bind_some, if_pos rfl, hl, decide_eq_false (by omega)]
    simp only [impl_Ticks.j0, Bool.false_eq_true, if_false, hl]
    simp only [impl_Ticks.l0, hr, tick0 1 f g h true (by omega) hf hg (by omega) k (by omega), hlat, Option.bind_some, if_true, hl, w64 (a := (0 : Int) + 1) (by omega) (by omega)]
    rw [if_pos (by omega), if_pos (by omega), if_pos (by simp)]
    exact x3 k (by omega)
theorem first (f g h : Int) (hf : 0 ≤ f ∧ f ≤ 359) (hg : 0 ≤ g ∧ g ≤ 359) (hh : 40 ≤ h ∧ h ≤ 49) (k : Nat) (hk : 100 < k) : ∃ x : List S25, x.length = 60 ∧ (∀ i : Nat, i < 60 → dist g f ≤ 3 * (i + 1) → (rd_T25 x i).f5 = g) ∧ impl_Ticks.f k 0 1 0 0 0 f g h false (List.replicate 60 0) = some (x, true) := by
  obtain ⟨x, x1, x2, x3⟩ := ticksA g h hg (by omega) 60 (by omega) 60 0 [] f (by omega) (by omega) rfl hf
  refine ⟨x, x1, fun i hi hd => ?_, ?_⟩
  · obtain ⟨a, b1, b2⟩ := x2 i hi
    have : dist g (rd_T25 x i).f5 = 0 := by rw [a]; unfold mx; split <;> omega
    unfold dist at this
    split at this <;> omega
  · obtain ⟨k, rfl⟩ : ∃ m, k = m + 1 := ⟨k - 1, by omega⟩
    have hl : ((List.replicate 60 (0 : Int)).length : Int) = 60 := by rw [List.length_replicate]; rfl
    unfold impl_Ticks.f
    rw [pilotOk_i _ _ _ _ _ _ _ _ _ (by unfold POk; omega) _ (by omega), Option.bind_some, if_pos rfl, hl, decide_eq_false (by omega)]
    simp only [impl_Ticks.j0, Bool.false_eq_true, if_false, hl]
    exact x3 k (by omega)
theorem go (f g h : Int) (hf : 0 ≤ f ∧ f ≤ 359) (hg : 0 ≤ g ∧ g ≤ 359) (hh : 40 ≤ h ∧ h ≤ 49) (k : Nat) (hk : 200 < k) : laws_FnTurned.j0 k f g false 0 1 0 0 0 f g h true = some true := by
  obtain ⟨k, rfl⟩ : ∃ m, k = m + 3 := ⟨k - 3, by omega⟩
  obtain ⟨x, x1, x2, x3⟩ := first f g h hf hg hh (k + 2) (by omega)
  obtain ⟨y, y1, y2, y3, y4, y5, y6⟩ := second f g h hf hg hh k (by omega)
  have hd : 0 ≤ dist g f ∧ dist g f ≤ 180 := by unfold dist; split <;> omega
  have c1 : ((x.length : Int) = 60) := by omega
  have c59 : (rd_T25 x 59).f5 = g := x2 59 (by omega) (by omega)
  have j2 : laws_FnTurned.j2 (k + 1) false 0 1 0 0 0 f g h false = some true := by
    simp only [laws_FnTurned.j2, Bool.false_eq_true, if_false, y6, Option.bind_some, if_true]
    rw [if_pos (by omega), if_pos (by omega), if_pos y2, y3, if_neg (by decide), if_pos (by omega), if_pos y4, y5]
    rfl
  have j3 : laws_FnTurned.j3 (k + 1) false 0 1 0 0 0 f g h false = some true := by
    simp only [laws_FnTurned.j3, Bool.false_eq_true, if_false, y6, Option.bind_some, if_true]
    rw [if_pos (by omega), if_pos (by omega), if_pos y2, y3, if_neg (by decide), if_pos (by omega), if_pos y4, y5]
    rfl
  have j1 : laws_FnTurned.j1 (k + 2) f g x false 0 1 0 0 0 f g h false = some true := by
    simp only [laws_FnTurned.j1, Bool.false_eq_true, if_false]
    rw [w64 (a := g - f) (by omega) (by omega), w64 (a := g - f + 360) (by omega) (by omega), Int.tmod_eq_emod_of_nonneg (show 0 ≤ g - f + 360 by omega)]
    obtain ⟨r, hr⟩ : ∃ r, (g - f + 360) % 360 = r := ⟨_, rfl⟩
    have hr2 : 0 ≤ r ∧ r ≤ 359 := by omega
    have hdist : dist g f = if r > 180 then 360 - r else r := by unfold dist; rw [hr]
    rw [hr, w64 (a := 360 - r) (by omega) (by omega), w64 (a := 360 - r + 2) (by omega) (by omega), w64 (a := r + 2) (by omega) (by omega), Int.tdiv_eq_ediv_of_nonneg (show 0 ≤ 360 - r + 2 by omega), Int.tdiv_eq_ediv_of_nonneg (show 0 ≤ r + 2 by omega), w64 (a := (360 - r + 2) / 3) (by omega) (by omega), w64 (a := (r + 2) / 3) (by omega) (by omega), w64 (a := (360 - r + 2) / 3 - 1) (by omega) (by omega), w64 (a := (r + 2) / 3 - 1) (by omega) (by omega)]
    have at' : ∀ n : Int, 0 < n → n < 60 → dist g f ≤ 3 * n → ((rd_T25 x (n - 1)).f5 != g) = false := by
      intro n n0 n1 n2
      obtain ⟨m, hm⟩ : ∃ m : Nat, n - 1 = (m : Int) := ⟨(n - 1).toNat, by omega⟩
      rw [hm, x2 m (by omega) (by omega), bne_self_eq_false]
    by_cases p : r > 180
    · rw [if_pos p] at hdist
      rw [if_pos p]
      by_cases q : (360 - r + 2) / 3 > 0
      · rw [if_pos q]
        by_cases s : (360 - r + 2) / 3 < 60
        · rw [if_pos s, if_pos (by omega), if_pos (by omega), at' _ q s (by omega)]; exact j2
        · rw [if_neg s]; exact j2
      · rw [if_neg q]; exact j2
    · rw [if_neg p] at hdist
      rw [if_neg p]
      by_cases q : (r + 2) / 3 > 0
      · rw [if_pos q]
        by_cases s : (r + 2) / 3 < 60
        · rw [if_pos s, if_pos (by omega), if_pos (by omega), at' _ q s (by omega)]; exact j3
        · rw [if_neg s]; exact j3
      · rw [if_neg q]; exact j3
  simp only [laws_FnTurned.j0, Bool.false_eq_true, if_false, x3, Option.bind_some, if_true]
  rw [if_pos (by omega), if_pos c1, if_pos (by omega), c59, bne_self_eq_false]
  exact j1
theorem FnTurned : laws_FnTurned.Pure := by
  intro l _ _ hu
  refine ⟨300, ?_⟩
  unfold laws_FnTurned.f
  by_cases hl : l.length ≤ 1048576
  · obtain ⟨a, ea, a0, a1⟩ := at_in l hl hu 0 (by omega) (by omega)
    obtain ⟨b, eb, b0, b1⟩ := at_in l hl hu 1 (by omega) (by omega)
    obtain ⟨c, ec, c0, c1⟩ := at_in l hl hu 2 (by omega) (by omega)
    rw [big_f l hl]
    simp only [Option.bind_some, Bool.false_eq_true, if_false, ea, eb, ec]
    have hm := Int.tmod_eq_emod_of_nonneg (b := 10) c0
    rw [w64 (a := a * 3) (by omega) (by omega), w64 (a := b * 7) (by omega) (by omega), hm, w64 (a := 40 + c % 10) (by omega) (by omega), Int.tmod_eq_emod_of_nonneg (show 0 ≤ a * 3 by omega), Int.tmod_eq_emod_of_nonneg (show 0 ≤ b * 7 by omega)]
    obtain ⟨f, hf⟩ : ∃ f, a * 3 % 360 = f := ⟨_, rfl⟩
    obtain ⟨g, hg⟩ : ∃ g, b * 7 % 360 = g := ⟨_, rfl⟩
    obtain ⟨h, hh⟩ : ∃ h, 40 + c % 10 = h := ⟨_, rfl⟩
    have f2 : 0 ≤ f ∧ f ≤ 359 := by omega
    have g2 : 0 ≤ g ∧ g ≤ 359 := by omega
    have h2 : 40 ≤ h ∧ h ≤ 49 := by omega
    rw [hf, hg, hh]
    have p1 : impl_Press.f 300 0 0 0 0 0 f 0 h false 4 g = some (0, 1, 0, 0, 0, f, g, h, false, true) := by
      unfold impl_Press.f
      rw [pilotOk_i _ _ _ _ _ _ _ _ _ (by unfold POk; omega) _ (by omega)]
      unfold impl_Pilot_press.f
      simp only [Option.bind_some, if_true, in_i, decide_eq_true g2.1, decide_eq_true g2.2, Bool.and_self]
      rfl
    have p2 : impl_Press.f 300 0 1 0 0 0 f g h false 5 0 = some (0, 1, 0, 0, 0, f, g, h, true, true) := by
      unfold impl_Press.f
      rw [pilotOk_i _ _ _ _ _ _ _ _ _ (by unfold POk; omega) _ (by omega)]
      unfold impl_Pilot_press.f
      simp only [Option.bind_some, if_true]
      rfl
    simp only [p1, p2, Option.bind_some, if_true, Bool.not_true]
    exact go f g h f2 g2 h2 300 (by omega)
  · rw [big_t l hl, Option.bind_some, if_pos rfl]
end Go.Proofs.Ytdodiflcmjbfdaa.Pure.FnTurned
namespace Go.Proofs.Ytdodiflcmjbfdaa.Pure
theorem FnTurned : Go.Proofs.Ytdodiflcmjbfdaa.PFnTurned.laws_FnTurned.Pure := FnTurned.FnTurned
end Go.Proofs.Ytdodiflcmjbfdaa.Pure
