/- For every Pilot and drift the program's PilotTick answers what the reference's answers (FnExactPilotTick returns true); no condition. -/
import Derived.Test.YtdodiflcmjbfdaaAskFnExactPilotTick
import Derived.Test.YtdodiflcmjbfdaaNum
namespace Go.Proofs.Ytdodiflcmjbfdaa.Pure.FnExactPilotTick
open Go.RowKit Go.Proofs.Ytdodiflcmjbfdaa.PFnExactPilotTick Go.Proofs.YtdodiflcmjbfdaaW.PrintWords Go.Proofs.YtdodiflcmjbfdaaW.PrintLast Go.Proofs.YtdodiflcmjbfdaaW.PrintMore Go.Proofs.Ytdodiflcmjbfdaa.Num
set_option linter.unusedVariables false
set_option linter.unusedSimpArgs false
theorem in_s (a b c : Int) : spec_l1In.f a b c = some (decide (b ≤ a) && decide (a ≤ c)) := by
  unfold spec_l1In.f
  by_cases h : a ≥ b
  · rw [if_pos h, decide_eq_true (show b ≤ a from h)]; rfl
  · rw [if_neg h, decide_eq_false (show ¬ b ≤ a from h)]; rfl
theorem in_i (a b c : Int) : impl_in.f a b c = some (decide (b ≤ a) && decide (a ≤ c)) := by
  unfold impl_in.f
  by_cases h : a ≥ b
  · rw [if_pos h, decide_eq_true (show b ≤ a from h)]; rfl
  · rw [if_neg h, decide_eq_false (show ¬ b ≤ a from h)]; rfl
def POk (a b c d e f g h : Int) : Prop := (0 ≤ a ∧ a ≤ 4) ∧ (0 ≤ b ∧ b ≤ 3) ∧ (0 ≤ c ∧ c ≤ 60000) ∧ (0 ≤ d ∧ d ≤ 60000) ∧ (-100 ≤ e ∧ e ≤ 100) ∧ (0 ≤ f ∧ f ≤ 359) ∧ (0 ≤ g ∧ g ≤ 359) ∧ (-10000 ≤ h ∧ h ≤ 10000)
theorem pilotOk (a b c d e f g h : Int) (i : Bool) : ∃ r, spec_PilotOk.f a b c d e f g h i = some r ∧ (∀ k, 0 < k → impl_PilotOk.f k a b c d e f g h i = some r) ∧ (r = true ↔ POk a b c d e f g h) := by
  refine ⟨(decide (0 ≤ a) && decide (a ≤ 4)) && ((decide (0 ≤ b) && decide (b ≤ 3)) && ((decide (0 ≤ c) && decide (c ≤ 60000)) && ((decide (0 ≤ d) && decide (d ≤ 60000)) && ((decide (-100 ≤ e) && decide (e ≤ 100)) && ((decide (0 ≤ f) && decide (f ≤ 359)) && ((decide (0 ≤ g) && decide (g ≤ 359)) && (decide (-10000 ≤ h) && decide (h ≤ 10000)))))))), ?_, fun k hk => ?_, ?_⟩
  · simp only [spec_PilotOk.f, in_s, Option.bind_some, ites]
  · obtain ⟨k, rfl⟩ : ∃ m, k = m + 1 := ⟨k - 1, by omega⟩
    simp only [impl_PilotOk.f, impl_PilotOk.j0, in_i, Option.bind_some, ites]
    generalize (decide (0 ≤ a) && decide (a ≤ 4)) = x1
    generalize (decide (0 ≤ b) && decide (b ≤ 3)) = x2
    generalize (decide (0 ≤ c) && decide (c ≤ 60000)) = x3
    generalize (decide (0 ≤ d) && decide (d ≤ 60000)) = x4
    generalize (decide (-100 ≤ e) && decide (e ≤ 100)) = x5
    generalize (decide (0 ≤ f) && decide (f ≤ 359)) = x6
    generalize (decide (0 ≤ g) && decide (g ≤ 359)) = x7
    generalize (decide (-10000 ≤ h) && decide (h ≤ 10000)) = x8
    cases x1 <;> cases x2 <;> cases x3 <;> cases x4 <;> cases x5 <;> rfl
  · simp only [Bool.and_eq_true, decide_eq_true_eq]
    exact Iff.rfl
theorem min_s (a b : Int) : spec_l1Min.f b a = some (mn a b) := by
  unfold spec_l1Min.f mn
  by_cases h : b < a
  · rw [if_pos h, if_pos h]
  · rw [if_neg h, if_neg h]
theorem max_s (a b : Int) : spec_l1Max.f b a = some (mx a b) := by
  unfold spec_l1Max.f mx
  by_cases h : b > a
  · rw [if_pos h, if_pos h]
  · rw [if_neg h, if_neg h]
theorem abs_both (a : Int) (h1 : -1000000 ≤ a) (h2 : a ≤ 1000000) : ∃ z, spec_l1Abs.f a = some z ∧ impl_size.f a = some z ∧ (0 ≤ a → z = a) ∧ (a < 0 → z = -a) := by
  unfold spec_l1Abs.f impl_size.f
  rw [w64 (a := -a) (by omega) (by omega)]
  by_cases h : a < 0
  · refine ⟨-a, by rw [if_pos h], ?_, fun _ => by omega, fun _ => rfl⟩
    congr 1; unfold mx; rw [if_pos (by omega)]
  · refine ⟨a, by rw [if_neg h], ?_, fun _ => rfl, fun _ => by omega⟩
    congr 1; unfold mx; rw [if_neg (by omega)]
theorem climb (a b c d e f g h : Int) (i : Bool) (hp : POk a b c d e f g h) (ha : a = 2) : ∃ a' c' e', spec_l10Vert.f a b c d e f g h i = some (a', b, c', d, e', f, g, h, i) ∧ ∀ k, 0 < k → impl_Pilot_climb.f k a b c d e f g h i = some (a', b, c', d, e', f, g, h, i) := by
  obtain ⟨_, _, hc, hd, he, _, _, _⟩ := hp
  subst ha
  unfold spec_l10Vert.f
  rw [if_neg (by omega), if_pos rfl]
  by_cases e0 : e = 0
  · rw [if_pos e0]
    exact ⟨_, _, _, rfl, fun k hk => by unfold impl_Pilot_climb.f; rw [if_pos e0]⟩
  · rw [if_neg e0]
    have w1 : wrap64 (c + e) = c + e := w64 (by omega) (by omega)
    have w2 : wrap64 (d - (c + e)) = d - (c + e) := w64 (by omega) (by omega)
    obtain ⟨z, zs, zi, _, _⟩ := abs_both (d - (c + e)) (by omega) (by omega)
    obtain ⟨y, ys, yi, y1, y2⟩ := abs_both e (by omega) (by omega)
    have w3 : wrap64 (10 * y) = 10 * y := w64 (by omega) (by omega)
    rw [w1, w2, ys, zs]
    have key : ∃ l, spec_l10Leads.f 2 b (c + e) d e f g h i = some l ∧ ∀ k, 0 < k → impl_Pilot_climb.f k 2 b c d e f g h i = if l = true then (if z ≤ 10 * y then some (3, b, c + e, d, e, f, g, h, i) else some (2, b, c + e, d, e, f, g, h, i)) else some (1, b, d, d, 0, f, g, h, i) := by
      unfold spec_l10Leads.f
      have fin : ∀ (k : Nat) (t : Bool), 0 < k → impl_Pilot_climb.j0 k (d - (c + e)) t 2 b (c + e) d e f g h i = if t = true then some (1, b, d, d, 0, f, g, h, i) else (if z ≤ 10 * y then some (3, b, c + e, d, e, f, g, h, i) else some (2, b, c + e, d, e, f, g, h, i)) := by
        intro k t hk
        obtain ⟨k, rfl⟩ : ∃ m, k = m + 1 := ⟨k - 1, by omega⟩
        simp only [impl_Pilot_climb.j0, zi, yi, Option.bind_some, w3]
      by_cases p : e > 0
      · rw [if_pos p]
        by_cases q : d > c + e
        · rw [if_pos q]
          refine ⟨true, rfl, fun k hk => ?_⟩
          unfold impl_Pilot_climb.f
          rw [w1, w2, if_neg e0, if_pos p, if_neg (by omega), if_neg (by omega), fin k _ hk]; rfl
        · rw [if_neg q, if_neg (by omega)]
          refine ⟨false, rfl, fun k hk => ?_⟩
          unfold impl_Pilot_climb.f
          rw [w1, w2, if_neg e0, if_pos p, if_pos (by omega), fin k _ hk]; rfl
      · rw [if_neg p, if_pos (by omega)]
        refine ⟨_, rfl, fun k hk => ?_⟩
        unfold impl_Pilot_climb.f
        rw [w1, w2, if_neg e0, if_neg p, if_pos (by omega), fin k _ hk]
        by_cases q : d < c + e
        · rw [decide_eq_true q, decide_eq_false (by omega)]; rfl
        · rw [decide_eq_false q, decide_eq_true (by omega)]; rfl
    obtain ⟨l, ls, li⟩ := key
    rw [ls]
    simp only [Option.bind_some, w3]
    cases l
    · exact ⟨_, _, _, rfl, fun k hk => by rw [li k hk]; rfl⟩
    · simp only [if_true] at li ⊢
      by_cases q : z ≤ 10 * y
      · rw [if_pos q] at li ⊢; exact ⟨_, _, _, rfl, li⟩
      · rw [if_neg q] at li ⊢; exact ⟨_, _, _, rfl, li⟩
theorem toward (x y n : Int) (hn : 1 ≤ n) (h1 : -1000000 ≤ x) (h2 : x ≤ 1000000) (h3 : -1000000 ≤ y) (h4 : y ≤ 1000000) (h5 : n ≤ 1000) : spec_l10Toward.f x y n = some (x + mx (mn (y - x) n) (-n)) := by
  unfold spec_l10Toward.f
  rw [min_s, max_s, w64 (a := x + n) (by omega) (by omega), w64 (a := x - n) (by omega) (by omega)]
  by_cases h : x < y
  · rw [if_pos h, Option.bind_some]
    congr 1
    unfold mx mn
    by_cases p : y < x + n
    · rw [if_pos p, if_neg (by omega : ¬ n < y - x), if_neg (by omega)]; omega
    · rw [if_neg p]
      by_cases q : n < y - x
      · rw [if_pos q, if_neg (by omega)]
      · rw [if_neg q, if_neg (by omega)]; omega
  · rw [if_neg h, Option.bind_some]
    congr 1
    unfold mx mn
    rw [if_neg (by omega : ¬ n < y - x)]
    by_cases p : x - n < y
    · rw [if_pos p, if_neg (by omega)]; omega
    · rw [if_neg p]
      by_cases q : y - x < -n
      · rw [if_pos q]; omega
      · rw [if_neg q]; omega
theorem capture (a b c d e f g h : Int) (i : Bool) (hp : POk a b c d e f g h) (ha : a = 3) : ∃ a' c' e', spec_l10Vert.f a b c d e f g h i = some (a', b, c', d, e', f, g, h, i) ∧ impl_Pilot_capture.f a b c d e f g h i = some (a', b, c', d, e', f, g, h, i) := by
  obtain ⟨_, _, hc, hd, he, _, _, _⟩ := hp
  subst ha
  unfold spec_l10Vert.f impl_Pilot_capture.f
  rw [if_neg (by omega), if_neg (by omega), if_pos rfl]
  obtain ⟨y, ys, yi, y1, y2⟩ := abs_both e (by omega) (by omega)
  have hy : 0 ≤ y ∧ y ≤ 100 := by omega
  have hce : impl_ceilOver.f y 2 = some ((y + 1) / 2) := by
    unfold impl_ceilOver.f impl_floorOver.f
    rw [w64 (a := -y) (by omega) (by omega), if_neg (by omega)]
    have t1 : Int.tdiv (-y) 2 = -(y / 2) := by rw [Int.neg_tdiv, Int.tdiv_eq_ediv_of_nonneg (by omega)]
    have t2 : Int.tmod (-y) 2 = -(y % 2) := by rw [Int.neg_tmod, Int.tmod_eq_emod_of_nonneg (by omega)]
    rw [t1, t2, w64 (a := -(y / 2)) (by omega) (by omega), w64 (a := -(y / 2) - 1) (by omega) (by omega)]
    by_cases p : y % 2 = 0
    · rw [if_pos (by omega), Option.bind_some, w64 (by omega) (by omega)]; congr 1; omega
    · rw [if_neg (by omega), decide_eq_true (show -y < 0 by omega), decide_eq_false (show ¬ (2 : Int) < 0 by omega), if_pos (show (true != false) = true from rfl), Option.bind_some, w64 (by omega) (by omega)]; congr 1; omega
  have hdiv : wrap64 (Int.tdiv (wrap64 (y + 1)) 2) = (y + 1) / 2 := by
    rw [w64 (a := y + 1) (by omega) (by omega), Int.tdiv_eq_ediv_of_nonneg (by omega), w64 (by omega) (by omega)]
  rw [ys, yi, Option.bind_some, Option.bind_some, hdiv, max_s, hce, Option.bind_some, Option.bind_some]
  obtain ⟨n, hn⟩ : ∃ n, mx ((y + 1) / 2) 1 = n := ⟨_, rfl⟩
  have hn1 : 1 ≤ n ∧ n ≤ 100 := by rw [← hn]; unfold mx; split <;> omega
  rw [hn, toward c d n hn1.1 (by omega) (by omega) (by omega) (by omega) (by omega), w64 (a := d - c) (by omega) (by omega), w64 (a := -n) (by omega) (by omega)]
  have hh : impl_held.f (d - c) (-n) n = some (mx (mn (d - c) n) (-n)) := rfl
  rw [hh, Option.bind_some, Option.bind_some]
  have hb := held_in (x := d - c) (lo := -n) (hi := n) (by omega)
  rw [w64 (a := c + mx (mn (d - c) n) (-n)) (by omega) (by omega)]
  by_cases q : c + mx (mn (d - c) n) (-n) = d
  · rw [if_pos q]; exact ⟨_, _, _, rfl, rfl⟩
  · rw [if_neg q]; exact ⟨_, _, _, rfl, rfl⟩
theorem turn (f g : Int) (hf : 0 ≤ f ∧ f ≤ 359) (hg : 0 ≤ g ∧ g ≤ 359) (a b c d e h : Int) (i : Bool) : ∃ f', spec_l10Turn.f f g = some f' ∧ impl_Pilot_turn.f a b c d e f g h i = some (a, b, c, d, e, f', g, h, i) := by
  unfold spec_l10Turn.f impl_Pilot_turn.f
  rw [w64 (a := g - f) (by omega) (by omega), w64 (a := g - f + 360) (by omega) (by omega), w64 (a := g - f + 359) (by omega) (by omega), w64 (a := g - f + 359 + 1) (by omega) (by omega), show g - f + 359 + 1 = g - f + 360 by omega, Int.tmod_eq_emod_of_nonneg (show 0 ≤ g - f + 360 by omega)]
  obtain ⟨r, hr⟩ : ∃ r, (g - f + 360) % 360 = r := ⟨_, rfl⟩
  have hr2 : 0 ≤ r ∧ r ≤ 359 := by omega
  rw [hr, w64 (a := 360 - r) (by omega) (by omega), min_s, min_s]
  by_cases p : r > 180
  · rw [if_pos p, if_pos (by omega), Option.bind_some]
    obtain ⟨m, hm⟩ : ∃ m, mn (360 - r) 3 = m := ⟨_, rfl⟩
    have hm2 : 0 ≤ m ∧ m ≤ 3 := by rw [← hm]; unfold mn; split <;> omega
    rw [hm, w64 (a := -m) (by omega) (by omega), w64 (a := f + -m) (by omega) (by omega), w64 (a := f + -m + 359) (by omega) (by omega), w64 (a := f + -m + 359 + 1) (by omega) (by omega), w64 (a := f - m) (by omega) (by omega), w64 (a := f - m + 360) (by omega) (by omega), show f + -m + 359 + 1 = f - m + 360 by omega]
    exact ⟨_, rfl, rfl⟩
  · rw [if_neg p, if_neg (by omega), Option.bind_some]
    obtain ⟨m, hm⟩ : ∃ m, mn r 3 = m := ⟨_, rfl⟩
    have hm2 : 0 ≤ m ∧ m ≤ 3 := by rw [← hm]; unfold mn; split <;> omega
    rw [hm, w64 (a := f + m) (by omega) (by omega), w64 (a := f + m + 359) (by omega) (by omega), w64 (a := f + m + 359 + 1) (by omega) (by omega), Int.tmod_eq_emod_of_nonneg (show 0 ≤ f + m by omega), Int.tmod_eq_emod_of_nonneg (show 0 ≤ f + m + 359 + 1 by omega), show (f + m + 359 + 1) % 360 = (f + m) % 360 by omega]
    exact ⟨_, rfl, rfl⟩
/-- What the reference does beside the course. -/
def latS (a b c d e f g t : Int) (i : Bool) : Option (Int × Int × Int × Int × Int × Int × Int × Int × Bool × Bool) := (if b = 1 then ((spec_l10Turn.f f g).bind fun t233 => (if i = true then ((spec_l1Abs.f t).bind fun t234 => (if t234 ≤ 50 then (some (a, 3, c, d, e, t233, g, t, false, true)) else (some (a, b, c, d, e, t233, g, t, i, true)))) else (some (a, b, c, d, e, t233, g, t, i, true)))) else (if b = 3 then ((spec_l10Toward.f t 0 10).bind fun t235 => (if t235 = 0 then (some (a, 2, c, d, e, f, g, t235, i, true)) else (some (a, b, c, d, e, f, g, t235, i, true)))) else (if b = 2 then ((spec_l1Abs.f t).bind fun t236 => (if t236 ≤ 20 then (some (a, b, c, d, e, f, g, 0, i, true)) else (some (a, 3, c, d, e, f, g, t, i, true)))) else (some (a, b, c, d, e, f, g, t, i, true)))))
theorem lateral (a b c d e f g t : Int) (i : Bool) (hf : 0 ≤ f ∧ f ≤ 359) (hg : 0 ≤ g ∧ g ≤ 359) (ht : -10000 ≤ t ∧ t ≤ 10000) : ∃ b' f' t' i', latS a b c d e f g t i = some (a, b', c, d, e, f', g, t', i', true) ∧ impl_Pilot_lateral.f a b c d e f g t i = some (a, b', c, d, e, f', g, t', i') := by
  unfold latS impl_Pilot_lateral.f
  obtain ⟨z, zs, zi, _, _⟩ := abs_both t (by omega) (by omega)
  by_cases b1 : b = 1
  · obtain ⟨f', fs, fi⟩ := turn f g hf hg a b c d e t i
    rw [if_pos b1, if_pos b1, fs, fi, Option.bind_some, Option.bind_some]
    simp only [zs, zi, Option.bind_some]
    cases i
    · exact ⟨_, _, _, _, rfl, rfl⟩
    · simp only [if_true]
      by_cases q : z ≤ 50
      · rw [if_pos q, if_pos q]; exact ⟨_, _, _, _, rfl, rfl⟩
      · rw [if_neg q, if_neg q]; exact ⟨_, _, _, _, rfl, rfl⟩
  · rw [if_neg b1, if_neg b1]
    by_cases b3 : b = 3
    · rw [if_pos b3, if_pos b3, toward t 0 10 (by omega) (by omega) (by omega) (by omega) (by omega) (by omega)]
      have hh : impl_held.f t (-10) 10 = some (mx (mn t 10) (-10)) := rfl
      have hb := held_in (x := t) (lo := -10) (hi := 10) (by omega)
      have he : t + mx (mn (0 - t) 10) (-10) = t - mx (mn t 10) (-10) := by
        clear hh hb zs zi
        unfold mx mn
        repeat' split
        all_goals omega
      rw [hh, Option.bind_some, Option.bind_some, he, w64 (by omega) (by omega)]
      by_cases q : t - mx (mn t 10) (-10) = 0
      · rw [if_pos q, if_pos q]; exact ⟨_, _, _, _, rfl, rfl⟩
      · rw [if_neg q, if_neg q]; exact ⟨_, _, _, _, rfl, rfl⟩
    · rw [if_neg b3, if_neg b3]
      by_cases b2 : b = 2
      · rw [if_pos b2, if_pos b2, zs, zi, Option.bind_some, Option.bind_some]
        by_cases q : z ≤ 20
        · rw [if_pos q, if_pos q]; exact ⟨_, _, _, _, rfl, rfl⟩
        · rw [if_neg q, if_neg q]; exact ⟨_, _, _, _, rfl, rfl⟩
      · rw [if_neg b2, if_neg b2]; exact ⟨_, _, _, _, rfl, rfl⟩
theorem tick (a b c d e f g h : Int) (i : Bool) (n : Int) : ∃ r, ∀ k, 4 < k → spec_PilotTick.f k a b c d e f g h i n = some r ∧ impl_PilotTick.f k a b c d e f g h i n = some r := by
  obtain ⟨o, os, oi, og⟩ := pilotOk a b c d e f g h i
  have bad : ∀ k, 4 < k → spec_PilotTick.j0 k n true a b c d e f g h i = some (0, 0, 0, 0, 0, 0, 0, 0, false, false) ∧ impl_PilotTick.j0 k n true a b c d e f g h i = some (0, 0, 0, 0, 0, 0, 0, 0, false, false) := by
    intro k hk
    obtain ⟨k, rfl⟩ : ∃ m, k = m + 1 := ⟨k - 1, by omega⟩
    exact ⟨rfl, rfl⟩
  unfold spec_PilotTick.f impl_PilotTick.f
  cases o
  · refine ⟨(0, 0, 0, 0, 0, 0, 0, 0, false, false), fun k hk => ?_⟩
    rw [os, oi k (by omega)]
    exact bad k hk
  · have hp := og.1 rfl
    have hp' := hp
    obtain ⟨_, _, _, _, _, hf, hg, hh⟩ := hp'
    by_cases hn : -100 ≤ n ∧ n ≤ 100
    · obtain ⟨t, ht⟩ : ∃ t, mx (mn (h + n) 10000) (-10000) = t := ⟨_, rfl⟩
      have htb : -10000 ≤ t ∧ t ≤ 10000 := by rw [← ht]; exact held_in (by omega)
      have hheld : impl_held.f (wrap64 (h + n)) (-10000) 10000 = some t := by rw [w64 (by omega) (by omega), ← ht]; rfl
      -- the height
      have vert : ∃ a' c' e', spec_l10Vert.f a b c d e f g h i = some (a', b, c', d, e', f, g, h, i) ∧ ∀ k, 1 < k → impl_PilotTick.j0 k n false a b c d e f g h i = (impl_Pilot_lateral.f a' b c' d e' f g t i).bind fun r => some (r.1, r.2.1, r.2.2.1, r.2.2.2.1, r.2.2.2.2.1, r.2.2.2.2.2.1, r.2.2.2.2.2.2.1, r.2.2.2.2.2.2.2.1, r.2.2.2.2.2.2.2.2, true) := by
        by_cases a2 : a = 2
        · obtain ⟨a', c', e', vs, vi⟩ := climb a b c d e f g h i hp a2
          refine ⟨a', c', e', vs, fun k hk => ?_⟩
          obtain ⟨k, rfl⟩ : ∃ m, k = m + 1 := ⟨k - 1, by omega⟩
          simp only [impl_PilotTick.j0, if_pos a2, vi k (by omega), Option.bind_some, hheld, Bool.false_eq_true, if_false]
        · by_cases a3 : a = 3
          · obtain ⟨a', c', e', vs, vi⟩ := capture a b c d e f g h i hp a3
            refine ⟨a', c', e', vs, fun k hk => ?_⟩
            obtain ⟨k, rfl⟩ : ∃ m, k = m + 1 := ⟨k - 1, by omega⟩
            simp only [impl_PilotTick.j0, if_neg a2, if_pos a3, vi, Option.bind_some, hheld, Bool.false_eq_true, if_false]
          · by_cases a0 : a = 0
            · have h1 : impl_held.f (wrap64 (c + e)) 0 60000 = some (mx (mn (wrap64 (c + e)) 60000) 0) := rfl
              refine ⟨a, mx (mn (wrap64 (c + e)) 60000) 0, e, ?_, fun k hk => ?_⟩
              · unfold spec_l10Vert.f
                rw [if_pos a0, min_s, Option.bind_some, max_s, Option.bind_some]
              · obtain ⟨k, rfl⟩ : ∃ m, k = m + 1 := ⟨k - 1, by omega⟩
                simp only [impl_PilotTick.j0, if_neg a2, if_neg a3, if_pos a0, h1, Option.bind_some, hheld, Bool.false_eq_true, if_false]
            · refine ⟨a, c, e, ?_, fun k hk => ?_⟩
              · unfold spec_l10Vert.f
                rw [if_neg a0, if_neg a2, if_neg a3]
              · obtain ⟨k, rfl⟩ : ∃ m, k = m + 1 := ⟨k - 1, by omega⟩
                simp only [impl_PilotTick.j0, if_neg a2, if_neg a3, if_neg a0, Option.bind_some, hheld, Bool.false_eq_true, if_false]
      obtain ⟨a', c', e', vs, vi⟩ := vert
      obtain ⟨b', f', t', i', ls, li⟩ := lateral a' b c' d e' f g t i hf hg htb
      refine ⟨(a', b', c', d, e', f', g, t', i', true), fun k hk => ⟨?_, ?_⟩⟩
      · rw [os, Option.bind_some, if_pos rfl, in_s, ← Bool.decide_and, decide_eq_true hn, Option.bind_some]
        obtain ⟨k, rfl⟩ : ∃ m, k = m + 1 := ⟨k - 1, by omega⟩
        have hm : (spec_l1Min.f 10000 (wrap64 (h + n))).bind (fun t => spec_l1Max.f (-10000) t) = some t := by
          rw [w64 (by omega) (by omega), min_s, Option.bind_some, max_s, ht]
        obtain ⟨t1, hm1, hm2⟩ := Option.bind_eq_some_iff.1 hm
        show spec_PilotTick.j0 (k + 1) n false a b c d e f g h i = _
        obtain ⟨k, rfl⟩ : ∃ m, k = m + 2 := ⟨k - 2, by omega⟩
        simp only [spec_PilotTick.j0, vs, Option.bind_some, Bool.false_eq_true, if_false]
        simp only [spec_PilotTick.j1, hm1, hm2, Option.bind_some]
        simp only [spec_PilotTick.j2]
        exact ls
      · rw [oi k (by omega), Option.bind_some, if_pos rfl, in_i, ← Bool.decide_and, decide_eq_true hn, Option.bind_some]
        show impl_PilotTick.j0 k n false a b c d e f g h i = _
        rw [vi k (by omega), li]; rfl
    · refine ⟨(0, 0, 0, 0, 0, 0, 0, 0, false, false), fun k hk => ?_⟩
      rw [os, oi k (by omega), Option.bind_some, Option.bind_some, if_pos rfl, if_pos rfl, in_s, in_i, ← Bool.decide_and, decide_eq_false hn, Option.bind_some, Option.bind_some]
      exact bad k hk
theorem FnExactPilotTick : laws_FnExactPilotTick.Pure := by
  intro a b c d e f g h i n _ _ _ _ _ _ _ _ _
  obtain ⟨⟨r1, r2, r3, r4, r5, r6, r7, r8, r9, r10⟩, hr⟩ := tick a b c d e f g h i n
  obtain ⟨hs, hi⟩ := hr 5 (by omega)
  refine ⟨5, ?_⟩
  simp [laws_FnExactPilotTick.f, laws_toPilot.f, laws_eqPilot.f, hs, hi]
end Go.Proofs.Ytdodiflcmjbfdaa.Pure.FnExactPilotTick
namespace Go.Proofs.Ytdodiflcmjbfdaa.Pure
theorem FnExactPilotTick : Go.Proofs.Ytdodiflcmjbfdaa.PFnExactPilotTick.laws_FnExactPilotTick.Pure := FnExactPilotTick.FnExactPilotTick
end Go.Proofs.Ytdodiflcmjbfdaa.Pure
