/- Walks of the functions named below, by a program of the session over the kit's printer. -/
import Derived.Test.YtjndpoofjidamaaPFnExactTake14x0
import Derived.Test.YtjndpoofjidamaaPFnExactTake14x1
namespace Go.Proofs.Ytjndpoofjidamaa.PFnExactTake14
open Go.RowKit Go.Proofs.YtjndpoofjidamaaW.PrintWords Go.Proofs.YtjndpoofjidamaaW.PrintLast Go.Proofs.YtjndpoofjidamaaW.PrintMore
attribute [local go_sem] max2_int min2_int max_two min_two max_three min_three max_four min_four   -- for this text's walks alone
set_option linter.unusedVariables false
set_option linter.unusedSimpArgs false
abbrev A2_0 := #[O,O,O,O,O,O,O,O,O,O]
abbrev A2_1 := #[I,O,O,O,O,O,O,O,O,O]
abbrev A2_2 := #[I,I,O,O,O,O,O,O,O,O]
abbrev A2_3 := #[I,I,I,O,O,O,O,O,O,O]
abbrev A2_4 := #[I,I,I,O,I,O,O,O,O,O]
abbrev A2_5 := #[I,I,I,O,I,I,O,O,O,O]
abbrev A2_6 := #[I,I,I,O,I,I,I,O,O,O]
abbrev A2_7 := #[I,I,I,I,I,I,I,O,O,O]
abbrev A2_8 := #[I,I,I,I,I,I,I,I,O,O]
abbrev A2_9 := #[I,I,I,I,I,I,I,I,I,O]
abbrev A2_10 := #[I,I,I,I,I,I,I,I,I,I]

/-! ### laws_eqWarnRuleS: function 13 -/
def laws_eqWarnRuleS.l0 : Nat → List (S63) → List (S63) → Int → Option (Bool)
 | 0, _, _, _ => none
 | k + 1, x0, x1, x5 => if x5 < (x0.length : Int) then (if 0 ≤ x5 then (if x5 < (x1.length : Int) then ((laws_eqWarnRule.f k ((rd_T63 x0 x5).f0) ((rd_T63 x0 x5).f1) ((rd_T63 x0 x5).f2) ((rd_T63 x0 x5).f3) ((rd_T63 x0 x5).f4) ((rd_T63 x1 x5).f0) ((rd_T63 x1 x5).f1) ((rd_T63 x1 x5).f2) ((rd_T63 x1 x5).f3) ((rd_T63 x1 x5).f4)).bind fun t135 => (if t135 = true then (laws_eqWarnRuleS.l0 k x0 x1 (wrap64 (x5 + 1))) else (some false))) else (none)) else (none)) else (some true)
def laws_eqWarnRuleS.f (k : Nat) (l0 : List (S63)) (l1 : List (S63)) : Option (Bool) := if (l0.length : Int) = (l1.length : Int) then (laws_eqWarnRuleS.l0 k l0 l1 0) else (some false)
def laws_eqWarnRuleS.T6 : Bool × List (List Nat × List Nat) := (true, [([], []), ([], []), ([0, 1], [0, 1]), ([2], [2]), ([], []), ([], []), ([4, 5], [4, 5]), ([6], [6]), ([3, 7], [3, 7]), ([8], [8])])
def laws_eqWarnRuleS.B6 : List Nat := [0, 0, 3, 7, 0, 0, 48, 112, 255, 511]
theorem laws_eqWarnRuleS.tab6 : rtab .any (opsOf Try.f13 6) = laws_eqWarnRuleS.T6 := by kernel_rfl
theorem laws_eqWarnRuleS.bits6 : waitsOk laws_eqWarnRuleS.T6.2 laws_eqWarnRuleS.B6 = true := by kernel_rfl
set_option maxHeartbeats 8000000 in
set_option maxRecDepth 100000 in
theorem laws_eqWarnRuleS.calls (k : Nat) (A0 : Option Addr) (c0 : Nat) (l0 : List (S63)) (A1 : Option Addr) (c1 : Nat) (l1 : List (S63)) (r : Bool) (w : World) (hr0 : Kd.C k63 w A0 l0.length l0) (hc0 : l0.length ≤ c0) (hr1 : Kd.C k63 w A1 l1.length l1) (hc1 : l1.length ≤ c1) (h : laws_eqWarnRuleS.f k l0 l1 = some r) :
  Calls Try.prog 13 #[.slice A0 l0.length c0, .slice A1 l1.length c1] w fun e w' => e = .returned (.bool r) ∧ Below w.heap.size w w' := by
 have hu63 := Try.underlying63; have HR0 := Az hr0; have HC0 := Az hc0; clear hr0 hc0; have HR1 := Az hr1; have HC1 := Az hc1; clear hr1 hc1; have HB := Az (Below.refl w.heap.size w); have H : (if (l0.length : Int) = (l1.length : Int) then (laws_eqWarnRuleS.l0 k l0 l1 0) else (some false)) = some r := h; clear h
 by_cases c3 : (l0.length : Int) = (l1.length : Int)
 ·
  rw [if_pos c3] at H; have c3b0 : ((l0.length : Int) == (l1.length : Int)) = true := beq_iff_eq.mpr c3; have c3b1 : ((l0.length : Int) != (l1.length : Int)) = false := bne_eq_false_iff_eq.mpr c3
  have c3b2 : (l0.length == l1.length) = true := by first | simpa using c3 | (simp at c3 ⊢; omega)
  clear c3; have H' := Az H; clear H
  go_enter Try.func13, Try.ntmps13
  go_wp2
  go_loopg [5] k (fun kq v5 w' => ∃ (x5_1 : Int), v5 = .int .i64 x5_1 ∧ Aside0 (laws_eqWarnRuleS.l0 kq l0 l1 x5_1 = some r) ∧ Aside0 (kq ≤ k) ∧ Aside0 (Below w.heap.size w w'))
  case atStart => exact ⟨(0), (by first | rfl | (simp; done) | (simp [*]; done)), H', ⟨Nat.le_refl _⟩, ⟨bz⟩⟩
  case round =>
   clear H'; (try clear c1); (try clear p2); (try clear c3); (try clear c3b0); (try clear c3b1); (try clear c3b2); obtain ⟨x5_1, rfl, HA, HK1, HB⟩ := hrel
   cases gk with
   | zero => exact absurd HA.out (by simp [laws_eqWarnRuleS.l0])
   | succ k1 =>
    have H := HA.out; clear HA; simp only [laws_eqWarnRuleS.l0] at H
    by_cases c4 : x5_1 < (l0.length : Int)
    ·
     rw [if_pos c4] at H; have c4b0 : decide (x5_1 < (l0.length : Int)) = true := decide_eq_true c4; clear c4
     by_cases c5 : 0 ≤ x5_1
     ·
      rw [if_pos c5] at H; have c5b0 : decide (0 ≤ x5_1) = true := decide_eq_true c5; clear c5
      by_cases c6 : x5_1 < (l1.length : Int)
      ·
       rw [if_pos c6] at H; have c6b0 : decide (x5_1 < (l1.length : Int)) = true := decide_eq_true c6; clear c6; replace H := Option.bind_eq_some_iff.mp H; obtain ⟨t135, A70, H⟩ := H; replace H : (if t135 = true then (laws_eqWarnRuleS.l0 k1 l0 l1 (wrap64 (x5_1 + 1))) else (some false)) = some r := H; have A7 := Az A70; clear A70
       by_cases c8 : t135 = true
       ·
        subst c8
        have H1 : (laws_eqWarnRuleS.l0 k1 l0 l1 (wrap64 (x5_1 + 1))) = some r := by rw [if_pos rfl] at H; exact H
        clear H; have H := H1; clear H1; have H' := Az H; clear H
        try go_wp2
        replace HB := Az (below_drew1 HB.out); have p133 : 0 ≤ (x5_1 : Int) := oz; have q133 : x5_1 < (l0.length : Int) := oz; obtain ⟨ad133, A133_2, c133_2, e133, hx133_0, hx133_1, hx133_2, hx133_3, hx133_4, hl133_2, hi133_2⟩ := at_T63 HR0.out x5_1 p133 q133; have hw133_4 := hx133_4; have hw133_3 := hx133_3; have hw133_2 := hx133_2; have hw133_1 := hx133_1; have hw133_0 := hx133_0
        cases e133
        replace hx133_0 := pw_cell_below HB.out hx133_0; replace hx133_1 := pw_cell_below HB.out hx133_1; replace hx133_2 := pw_cell_below HB.out hx133_2; replace hx133_3 := pw_cell_below HB.out hx133_3; replace hx133_4 := pw_cell_below HB.out hx133_4; have HR133_2 := Az hi133_2; have HC133_2 := Az hl133_2; clear hi133_2 hl133_2; replace p133 := eq_true p133; replace q133 := eq_true q133; have p134 : 0 ≤ (x5_1 : Int) := oz; have q134 : x5_1 < (l1.length : Int) := oz; obtain ⟨ad134, A134_2, c134_2, e134, hx134_0, hx134_1, hx134_2, hx134_3, hx134_4, hl134_2, hi134_2⟩ := at_T63 HR1.out x5_1 p134 q134; have hw134_4 := hx134_4; have hw134_3 := hx134_3; have hw134_2 := hx134_2; have hw134_1 := hx134_1; have hw134_0 := hx134_0
        cases e134
        replace hx134_0 := pw_cell_below HB.out hx134_0; replace hx134_1 := pw_cell_below HB.out hx134_1; replace hx134_2 := pw_cell_below HB.out hx134_2; replace hx134_3 := pw_cell_below HB.out hx134_3; replace hx134_4 := pw_cell_below HB.out hx134_4; have HR134_2 := Az hi134_2; have HC134_2 := Az hl134_2; clear hi134_2 hl134_2; replace p134 := eq_true p134; replace q134 := eq_true q134; refine start_ (n := 10) (S := fun w' => w'.cell? (ad133.add ((x5_1).toNat * 5)) = some (.string ((rd_T63 l0 x5_1).f0)) ∧ w'.cell? ⟨(ad133.add ((x5_1).toNat * 5)).block, (ad133.add ((x5_1).toNat * 5)).off + 1, none⟩ = some (.int .i64 ((rd_T63 l0 x5_1).f1)) ∧ w'.cell? ⟨(ad133.add ((x5_1).toNat * 5)).block, (ad133.add ((x5_1).toNat * 5)).off + 2, none⟩ = some (.slice A133_2 ((rd_T63 l0 x5_1).f2).length c133_2) ∧ w'.cell? ⟨(ad133.add ((x5_1).toNat * 5)).block, (ad133.add ((x5_1).toNat * 5)).off + 3, none⟩ = some (.bool ((rd_T63 l0 x5_1).f3)) ∧ w'.cell? ⟨(ad133.add ((x5_1).toNat * 5)).block, (ad133.add ((x5_1).toNat * 5)).off + 4, none⟩ = some (.string ((rd_T63 l0 x5_1).f4)) ∧ w'.cell? (ad134.add ((x5_1).toNat * 5)) = some (.string ((rd_T63 l1 x5_1).f0)) ∧ w'.cell? ⟨(ad134.add ((x5_1).toNat * 5)).block, (ad134.add ((x5_1).toNat * 5)).off + 1, none⟩ = some (.int .i64 ((rd_T63 l1 x5_1).f1)) ∧ w'.cell? ⟨(ad134.add ((x5_1).toNat * 5)).block, (ad134.add ((x5_1).toNat * 5)).off + 2, none⟩ = some (.slice A134_2 ((rd_T63 l1 x5_1).f2).length c134_2) ∧ w'.cell? ⟨(ad134.add ((x5_1).toNat * 5)).block, (ad134.add ((x5_1).toNat * 5)).off + 3, none⟩ = some (.bool ((rd_T63 l1 x5_1).f3)) ∧ w'.cell? ⟨(ad134.add ((x5_1).toNat * 5)).block, (ad134.add ((x5_1).toNat * 5)).off + 4, none⟩ = some (.string ((rd_T63 l1 x5_1).f4))) (ds := []) A2_0 (by kernel_rfl) rfl rfl ⟨(pw_cell_below HB.out hw133_0), (pw_cell_below HB.out hw133_1), (pw_cell_below HB.out hw133_2), (pw_cell_below HB.out hw133_3), (pw_cell_below HB.out hw133_4), (pw_cell_below HB.out hw134_0), (pw_cell_below HB.out hw134_1), (pw_cell_below HB.out hw134_2), (pw_cell_below HB.out hw134_3), (pw_cell_below HB.out hw134_4)⟩ (fun hHeld => ?_); refine with_tabW laws_eqWarnRuleS.tab6 laws_eqWarnRuleS.bits6 (fun HT_ HW_ => ?_); generalize wr.drew = w9 at HB HR133_2 HR134_2 hx133_0 hx133_1 hx133_2 hx133_3 hx133_4 hx134_0 hx134_1 hx134_2 hx134_3 hx134_4 hHeld ⊢; refine pz 0 17 A2_1 HT_.out ?_; refine pz 1 18 A2_2 HT_.out ?_; refine pz 2 19 A2_3 HT_.out ?_
        refine pz 4 21 A2_4 HT_.out ?_; refine pz 5 22 A2_5 HT_.out ?_; refine pz 6 23 A2_6 HT_.out ?_; refine tz 3 20 A2_7 HT_.out HW_.out hHeld ?_
        refine tz 7 24 A2_8 HT_.out HW_.out hHeld ?_
        refine one_ (i := 8) (N := some 25) A2_9 rfl rfl (one_of HT_.out (by kernel_rfl)) (by decide) (fun K hK => ?_); refine goes_ Try.func47 (by kernel_rfl) rfl #[.agg #[.string ((rd_T63 l0 x5_1).f0), .int .i64 ((rd_T63 l0 x5_1).f1), .slice A133_2 ((rd_T63 l0 x5_1).f2).length c133_2, .bool ((rd_T63 l0 x5_1).f3), .string ((rd_T63 l0 x5_1).f4)], .agg #[.string ((rd_T63 l1 x5_1).f0), .int .i64 ((rd_T63 l1 x5_1).f1), .slice A134_2 ((rd_T63 l1 x5_1).f2).length c134_2, .bool ((rd_T63 l1 x5_1).f3), .string ((rd_T63 l1 x5_1).f4)]] (by rfl) rfl rfl (by (try simp only [List.map_toArray, List.map_cons, List.map_nil]); first | done | rfl) ?_
        with_reducible refine (laws_eqWarnRule.calls k1 ((rd_T63 l0 x5_1).f0) ((rd_T63 l0 x5_1).f1) _ _ ((rd_T63 l0 x5_1).f2) ((rd_T63 l0 x5_1).f3) ((rd_T63 l0 x5_1).f4) ((rd_T63 l1 x5_1).f0) ((rd_T63 l1 x5_1).f1) _ _ ((rd_T63 l1 x5_1).f2) ((rd_T63 l1 x5_1).f3) ((rd_T63 l1 x5_1).f4) true _ ?side1 ?side2 ?side3 ?side4 A7.out).mono ?_
        (case side1 => exact cu HR133_2.out HB.out)
        (case side2 => exact HC133_2.out)
        (case side3 => exact cu HR134_2.out HB.out)
        (case side4 => exact HC134_2.out)
        rintro e w10 ⟨rfl, hb⟩; refine ⟨_, rfl, ?_⟩; replace HB := Az (below_step bz hb); (try clear hb); (try clear hb2); (try clear hk); (try clear hi); refine hK.out _ _ ⟨(pw_cell_below HB.out hw133_0), (pw_cell_below HB.out hw133_1), (pw_cell_below HB.out hw133_2), (pw_cell_below HB.out hw133_3), (pw_cell_below HB.out hw133_4), (pw_cell_below HB.out hw134_0), (pw_cell_below HB.out hw134_1), (pw_cell_below HB.out hw134_2), (pw_cell_below HB.out hw134_3), (pw_cell_below HB.out hw134_4)⟩ (fun hHeld => ?_); clear hK K; refine norm_ (a' := ?_) ?_ ?_; rotate_left
        ·
         show Act.put _ (some 25) _ = _
         simp only [Act.put, sA, sB, sC, i64_w, i32_w]
         rfl
        refine pz 9 26 A2_10 HT_.out ?_; refine done_ (done_of HT_.out (by kernel_rfl)) ?_
        try go_wp2
        go_roundg k1
        case measure => have := HK1.out; omega
        case rel => exact ⟨(wrap64 (x5_1 + 1)), (by first | rfl | (simp; done) | (simp [*]; done)), H', ⟨by have := HK1.out; omega⟩, ⟨bz⟩⟩
       ·
        replace c8 := Bool.eq_false_iff.mpr c8; subst c8
        have H1 : (some false) = some r := by rw [if_neg (show ¬ (false = true) by decide)] at H; exact H
        clear H; have H := H1; clear H1; obtain rfl := Option.some.inj H
        try go_wp2
        replace HB := Az (below_drew1 HB.out); have p133 : 0 ≤ (x5_1 : Int) := oz; have q133 : x5_1 < (l0.length : Int) := oz; obtain ⟨ad133, A133_2, c133_2, e133, hx133_0, hx133_1, hx133_2, hx133_3, hx133_4, hl133_2, hi133_2⟩ := at_T63 HR0.out x5_1 p133 q133; have hw133_4 := hx133_4; have hw133_3 := hx133_3; have hw133_2 := hx133_2; have hw133_1 := hx133_1; have hw133_0 := hx133_0
        cases e133
        replace hx133_0 := pw_cell_below HB.out hx133_0; replace hx133_1 := pw_cell_below HB.out hx133_1; replace hx133_2 := pw_cell_below HB.out hx133_2; replace hx133_3 := pw_cell_below HB.out hx133_3; replace hx133_4 := pw_cell_below HB.out hx133_4; have HR133_2 := Az hi133_2; have HC133_2 := Az hl133_2; clear hi133_2 hl133_2; replace p133 := eq_true p133; replace q133 := eq_true q133; have p134 : 0 ≤ (x5_1 : Int) := oz; have q134 : x5_1 < (l1.length : Int) := oz; obtain ⟨ad134, A134_2, c134_2, e134, hx134_0, hx134_1, hx134_2, hx134_3, hx134_4, hl134_2, hi134_2⟩ := at_T63 HR1.out x5_1 p134 q134; have hw134_4 := hx134_4; have hw134_3 := hx134_3; have hw134_2 := hx134_2; have hw134_1 := hx134_1; have hw134_0 := hx134_0
        cases e134
        replace hx134_0 := pw_cell_below HB.out hx134_0; replace hx134_1 := pw_cell_below HB.out hx134_1; replace hx134_2 := pw_cell_below HB.out hx134_2; replace hx134_3 := pw_cell_below HB.out hx134_3; replace hx134_4 := pw_cell_below HB.out hx134_4; have HR134_2 := Az hi134_2; have HC134_2 := Az hl134_2; clear hi134_2 hl134_2; replace p134 := eq_true p134; replace q134 := eq_true q134; refine start_ (n := 10) (S := fun w' => w'.cell? (ad133.add ((x5_1).toNat * 5)) = some (.string ((rd_T63 l0 x5_1).f0)) ∧ w'.cell? ⟨(ad133.add ((x5_1).toNat * 5)).block, (ad133.add ((x5_1).toNat * 5)).off + 1, none⟩ = some (.int .i64 ((rd_T63 l0 x5_1).f1)) ∧ w'.cell? ⟨(ad133.add ((x5_1).toNat * 5)).block, (ad133.add ((x5_1).toNat * 5)).off + 2, none⟩ = some (.slice A133_2 ((rd_T63 l0 x5_1).f2).length c133_2) ∧ w'.cell? ⟨(ad133.add ((x5_1).toNat * 5)).block, (ad133.add ((x5_1).toNat * 5)).off + 3, none⟩ = some (.bool ((rd_T63 l0 x5_1).f3)) ∧ w'.cell? ⟨(ad133.add ((x5_1).toNat * 5)).block, (ad133.add ((x5_1).toNat * 5)).off + 4, none⟩ = some (.string ((rd_T63 l0 x5_1).f4)) ∧ w'.cell? (ad134.add ((x5_1).toNat * 5)) = some (.string ((rd_T63 l1 x5_1).f0)) ∧ w'.cell? ⟨(ad134.add ((x5_1).toNat * 5)).block, (ad134.add ((x5_1).toNat * 5)).off + 1, none⟩ = some (.int .i64 ((rd_T63 l1 x5_1).f1)) ∧ w'.cell? ⟨(ad134.add ((x5_1).toNat * 5)).block, (ad134.add ((x5_1).toNat * 5)).off + 2, none⟩ = some (.slice A134_2 ((rd_T63 l1 x5_1).f2).length c134_2) ∧ w'.cell? ⟨(ad134.add ((x5_1).toNat * 5)).block, (ad134.add ((x5_1).toNat * 5)).off + 3, none⟩ = some (.bool ((rd_T63 l1 x5_1).f3)) ∧ w'.cell? ⟨(ad134.add ((x5_1).toNat * 5)).block, (ad134.add ((x5_1).toNat * 5)).off + 4, none⟩ = some (.string ((rd_T63 l1 x5_1).f4))) (ds := []) A2_0 (by kernel_rfl) rfl rfl ⟨(pw_cell_below HB.out hw133_0), (pw_cell_below HB.out hw133_1), (pw_cell_below HB.out hw133_2), (pw_cell_below HB.out hw133_3), (pw_cell_below HB.out hw133_4), (pw_cell_below HB.out hw134_0), (pw_cell_below HB.out hw134_1), (pw_cell_below HB.out hw134_2), (pw_cell_below HB.out hw134_3), (pw_cell_below HB.out hw134_4)⟩ (fun hHeld => ?_); refine with_tabW laws_eqWarnRuleS.tab6 laws_eqWarnRuleS.bits6 (fun HT_ HW_ => ?_); generalize wr.drew = w11 at HB HR133_2 HR134_2 hx133_0 hx133_1 hx133_2 hx133_3 hx133_4 hx134_0 hx134_1 hx134_2 hx134_3 hx134_4 hHeld ⊢; refine pz 0 17 A2_1 HT_.out ?_; refine pz 1 18 A2_2 HT_.out ?_; refine pz 2 19 A2_3 HT_.out ?_
        refine pz 4 21 A2_4 HT_.out ?_; refine pz 5 22 A2_5 HT_.out ?_; refine pz 6 23 A2_6 HT_.out ?_; refine tz 3 20 A2_7 HT_.out HW_.out hHeld ?_
        refine tz 7 24 A2_8 HT_.out HW_.out hHeld ?_
        refine one_ (i := 8) (N := some 25) A2_9 rfl rfl (one_of HT_.out (by kernel_rfl)) (by decide) (fun K hK => ?_); refine goes_ Try.func47 (by kernel_rfl) rfl #[.agg #[.string ((rd_T63 l0 x5_1).f0), .int .i64 ((rd_T63 l0 x5_1).f1), .slice A133_2 ((rd_T63 l0 x5_1).f2).length c133_2, .bool ((rd_T63 l0 x5_1).f3), .string ((rd_T63 l0 x5_1).f4)], .agg #[.string ((rd_T63 l1 x5_1).f0), .int .i64 ((rd_T63 l1 x5_1).f1), .slice A134_2 ((rd_T63 l1 x5_1).f2).length c134_2, .bool ((rd_T63 l1 x5_1).f3), .string ((rd_T63 l1 x5_1).f4)]] (by rfl) rfl rfl (by (try simp only [List.map_toArray, List.map_cons, List.map_nil]); first | done | rfl) ?_
        with_reducible refine (laws_eqWarnRule.calls k1 ((rd_T63 l0 x5_1).f0) ((rd_T63 l0 x5_1).f1) _ _ ((rd_T63 l0 x5_1).f2) ((rd_T63 l0 x5_1).f3) ((rd_T63 l0 x5_1).f4) ((rd_T63 l1 x5_1).f0) ((rd_T63 l1 x5_1).f1) _ _ ((rd_T63 l1 x5_1).f2) ((rd_T63 l1 x5_1).f3) ((rd_T63 l1 x5_1).f4) false _ ?side1 ?side2 ?side3 ?side4 A7.out).mono ?_
        (case side1 => exact cu HR133_2.out HB.out)
        (case side2 => exact HC133_2.out)
        (case side3 => exact cu HR134_2.out HB.out)
        (case side4 => exact HC134_2.out)
        rintro e w12 ⟨rfl, hb⟩; refine ⟨_, rfl, ?_⟩; replace HB := Az (below_step bz hb); (try clear hb); (try clear hb2); (try clear hk); (try clear hi); refine hK.out _ _ ⟨(pw_cell_below HB.out hw133_0), (pw_cell_below HB.out hw133_1), (pw_cell_below HB.out hw133_2), (pw_cell_below HB.out hw133_3), (pw_cell_below HB.out hw133_4), (pw_cell_below HB.out hw134_0), (pw_cell_below HB.out hw134_1), (pw_cell_below HB.out hw134_2), (pw_cell_below HB.out hw134_3), (pw_cell_below HB.out hw134_4)⟩ (fun hHeld => ?_); clear hK K; refine norm_ (a' := ?_) ?_ ?_; rotate_left
        ·
         show Act.put _ (some 25) _ = _
         simp only [Act.put, sA, sB, sC, i64_w, i32_w]
         rfl
        refine pz 9 26 A2_10 HT_.out ?_; refine done_ (done_of HT_.out (by kernel_rfl)) ?_
        try go_wp2
        go_ret
        exact ⟨rz, bz⟩
      ·
       rw [if_neg c6] at H; exact absurd H (by simp)
     ·
      rw [if_neg c5] at H; exact absurd H (by simp)
    ·
     rw [if_neg c4] at H; have c4b0 : decide (x5_1 < (l0.length : Int)) = false := decide_eq_false c4; clear c4; obtain rfl := Option.some.inj H
     go_wp2
     go_ret
     exact ⟨rz, bz⟩
 ·
  rw [if_neg c3] at H; have c3b0 : ((l0.length : Int) == (l1.length : Int)) = false := beq_eq_false_iff_ne.mpr c3; have c3b1 : ((l0.length : Int) != (l1.length : Int)) = true := bne_iff_ne.mpr c3
  have c3b2 : (l0.length == l1.length) = false := by first | simpa using c3 | (simp at c3 ⊢; omega)
  obtain rfl := Option.some.inj H
  go_enter Try.func13, Try.ntmps13
  go_wp2
  go_ret
  exact ⟨rz, bz⟩

/-! ### laws_markText: function 52 -/
def laws_markText.l0 : Nat → Int → ByteArray → Option (ByteArray)
 | 0, _, _ => none
 | k + 1, x0, x3 => if x0 > 0 then ((some (([(wrap64 (48 + (Int.tmod x0 10))) % 256] : List Int) : List Int)).bind fun y136 => (if (strOfNums y136).size + x3.size ≤ 9223372036854775807 then (laws_markText.l0 k (wrap64 (Int.tdiv x0 10)) ((strOfNums y136) ++ x3)) else (none))) else (if 1 + x3.size ≤ 9223372036854775807 then (some ((⟨#[109]⟩ : ByteArray) ++ x3)) else (none))
def laws_markText.f (k : Nat) (a0 : Int) : Option (ByteArray) := if a0 ≤ 0 then (some (⟨#[109, 48]⟩ : ByteArray)) else (laws_markText.l0 k a0 (⟨#[]⟩ : ByteArray))
theorem laws_markText.mono_l : ∀ k, (∀ y0 y1, LeO (laws_markText.l0 k y0 y1) (laws_markText.l0 (k + 1) y0 y1))
 | 0 => fun _ _ r h => by simp [laws_markText.l0] at h
 | k + 1 => by
  have ih0 := laws_markText.mono_l k
  ·
   intro y0 y1
   unfold laws_markText.l0
   repeat' first
   | (with_reducible exact ih0 _ _)
   | (with_reducible exact LeO.refl _)
   | (with_reducible exact LeO.none _)
   | (with_reducible refine LeO.ite ?_ ?_)
   | (with_reducible refine LeO.bind ?_ (fun _ => ?_))
   | exact ih0 _ _
   | exact LeO.none _
   | refine LeO.ite ?_ ?_
   | refine LeO.bind ?_ (fun _ => ?_)
theorem laws_markText.mono : ∀ a0 k, LeO (laws_markText.f k a0) (laws_markText.f (k + 1) a0) := by
 intro a0 k; have ih0 := laws_markText.mono_l k
 unfold laws_markText.f
 repeat' first
   | (with_reducible exact ih0 _ _)
   | (with_reducible exact LeO.refl _)
   | (with_reducible exact LeO.none _)
   | (with_reducible refine LeO.ite ?_ ?_)
   | (with_reducible refine LeO.bind ?_ (fun _ => ?_))
   | exact ih0 _ _
   | exact LeO.none _
   | refine LeO.ite ?_ ?_
   | refine LeO.bind ?_ (fun _ => ?_)
set_option maxHeartbeats 8000000 in
set_option maxRecDepth 100000 in
theorem laws_markText.calls (k : Nat) (a0 : Int) (r : ByteArray) (w : World) (h : laws_markText.f k a0 = some r) :
  Calls Try.prog 52 #[.int .i64 a0] w fun e w' => e = .returned (.string r) ∧ Below w.heap.size w w' := by
 have HB := Az (Below.refl w.heap.size w); have H : (if a0 ≤ 0 then (some (⟨#[109, 48]⟩ : ByteArray)) else (laws_markText.l0 k a0 (⟨#[]⟩ : ByteArray))) = some r := h; clear h
 by_cases c2 : a0 ≤ 0
 ·
  rw [if_pos c2] at H; have c2b0 : decide (a0 ≤ 0) = true := decide_eq_true c2; clear c2; obtain rfl := Option.some.inj H
  go_enter Try.func52, Try.ntmps52
  go_wp2
  go_ret
  exact ⟨rz, bz⟩
 ·
  rw [if_neg c2] at H; have c2b0 : decide (a0 ≤ 0) = false := decide_eq_false c2; clear c2; have H' := Az H; clear H
  go_enter Try.func52, Try.ntmps52
  go_wp2
  go_loopg [0, 3] k (fun kq v0 v3 w' => ∃ (x0_1 : Int) (x3_1 : ByteArray), v0 = .int .i64 x0_1 ∧ v3 = .string x3_1 ∧ Aside0 (laws_markText.l0 kq x0_1 x3_1 = some r) ∧ Aside0 (kq ≤ k) ∧ Aside0 (Below w.heap.size w w'))
  case atStart => exact ⟨(a0), ((⟨#[]⟩ : ByteArray)), (by first | rfl | (simp; done) | (simp [*]; done)), (by first | rfl | (simp; done) | (simp [*]; done)), H', ⟨Nat.le_refl _⟩, ⟨bz⟩⟩
  case round =>
   clear H'; (try clear c2); (try clear c2b0); (try clear p2); obtain ⟨x0_1, x3_1, rfl, rfl, HA, HK1, HB⟩ := hrel
   cases gk with
   | zero => exact absurd HA.out (by simp [laws_markText.l0])
   | succ k1 =>
    have H := HA.out; clear HA; simp only [laws_markText.l0] at H
    by_cases c3 : x0_1 > 0
    ·
     rw [if_pos c3] at H; have c3b0 : decide (0 < x0_1) = true := decide_eq_true c3; clear c3; obtain ⟨y136, hy136⟩ : ∃ y_ : List Int, y_ = (([(wrap64 (48 + (Int.tmod x0_1 10))) % 256] : List Int)) := ⟨_, rfl⟩
     replace H : (if (strOfNums y136).size + x3_1.size ≤ 9223372036854775807 then (laws_markText.l0 k1 (wrap64 (Int.tdiv x0_1 10)) ((strOfNums y136) ++ x3_1)) else (none)) = some r := by have hy_ := hy136; exact yz
     have Ny136 := Az hy136; clear hy136
     by_cases c4 : (strOfNums y136).size + x3_1.size ≤ 9223372036854775807
     ·
      rw [if_pos c4] at H; have c4b0 := eq_true c4; have c4b1 : decide ((strOfNums y136).size + x3_1.size ≤ 9223372036854775807) = true := decide_eq_true c4
      try have c4b2 : (9223372036854775807 < (strOfNums y136).size + x3_1.size) = False := eq_false (Nat.not_lt.2 c4)
      have H' := Az H; clear H
      go_wp2_with (first | ((with_reducible refine gate_dst (N := 12) rfl ?_); refine Kd.R_lit (Kd.int .u8) _ 5 ?hg (N := 12) ?hd (xs := ([(wrap64 (48 + (Int.tmod x0_1 10))) % 256] : List Int)) (inner := [.int .u8 ((wrap64 (48 + (Int.tmod x0_1 10))) % 256)]) (ok := fun _ => True) (okp := fun _ => True) ?hr ?hp (fun _ hk => hk) trivial (Below.refl _ _) (Nat.le_refl _) (by simp) ?_; (case hd => rfl); (case hg => rfl); (case hr => first | (go_simp; done) | (go_simp; rfl)); (case hp => exact (Reps.one (show Kd.M (Kd.int .u8) _ _ _ ((wrap64 (48 + (Int.tmod x0_1 10))) % 256) [.int .u8 ((wrap64 (48 + (Int.tmod x0_1 10))) % 256)] from rfl) (Reps.none _ _))); intro v137 w5 ho6 hb hg_ hnew_; clear hg_ hnew_; (first | rw [← Ny136.out] at ho6 | (simp only [Int.reduceToNat] at ho6; rw [← Ny136.out] at ho6)); have HO138 := Az (Kd.R_lower ho6 (below_size bz)); replace HB := Az (below_step bz hb); clear hb ho6; have hcv7 := own_string (P := Try.prog) Try.underlying40 Try.underlying5 Try.underlying9 (Kd.own_of_R HO138.out)))
      go_roundg k1
      case measure => have := HK1.out; omega
      case rel => exact ⟨(wrap64 (Int.tdiv x0_1 10)), ((strOfNums y136) ++ x3_1), (by first | rfl | (simp; done) | (simp [*]; done)), (by first | rfl | (simp; done) | (simp [*]; done)), H', ⟨by have := HK1.out; omega⟩, ⟨bz⟩⟩
     ·
      rw [if_neg c4] at H; exact absurd H (by simp)
    ·
     rw [if_neg c3] at H; have c3b0 : decide (0 < x0_1) = false := decide_eq_false c3; clear c3
     by_cases c8 : 1 + x3_1.size ≤ 9223372036854775807
     ·
      rw [if_pos c8] at H; have c8b0 := eq_true c8; have c8b1 : decide (1 + x3_1.size ≤ 9223372036854775807) = true := decide_eq_true c8
      try have c8b2 : (9223372036854775807 < 1 + x3_1.size) = False := eq_false (Nat.not_lt.2 c8)
      obtain rfl := Option.some.inj H
      go_wp2
      go_ret
      exact ⟨rz, bz⟩
     ·
      rw [if_neg c8] at H; exact absurd H (by simp)

/-! ### laws_markIntS: function 53 -/
def laws_markIntS.l0 : Nat → List Int → Int → Int → Option (Int × List Int)
 | 0, _, _, _ => none
 | k + 1, x0, x1, x5 => if x5 < (x0.length : Int) then (if 0 ≤ x5 then (laws_markIntS.l0 k (x0.set (x5 : Int).toNat x1) (wrap64 (x1 + 1)) (wrap64 (x5 + 1))) else (none)) else (some (x1, x0))
def laws_markIntS.f (k : Nat) (l0 : List Int) (a1 : Int) : Option (Int × List Int) := laws_markIntS.l0 k l0 a1 0
theorem laws_markIntS.mono_l : ∀ k, (∀ y0 y1 y2, LeO (laws_markIntS.l0 k y0 y1 y2) (laws_markIntS.l0 (k + 1) y0 y1 y2))
 | 0 => fun _ _ _ r h => by simp [laws_markIntS.l0] at h
 | k + 1 => by
  have ih0 := laws_markIntS.mono_l k
  ·
   intro y0 y1 y2
   unfold laws_markIntS.l0
   repeat' first
   | (with_reducible exact ih0 _ _ _)
   | (with_reducible exact LeO.refl _)
   | (with_reducible exact LeO.none _)
   | (with_reducible refine LeO.ite ?_ ?_)
   | (with_reducible refine LeO.bind ?_ (fun _ => ?_))
   | exact ih0 _ _ _
   | exact LeO.none _
   | refine LeO.ite ?_ ?_
   | refine LeO.bind ?_ (fun _ => ?_)
theorem laws_markIntS.mono : ∀ a0 a1 k, LeO (laws_markIntS.f k a0 a1) (laws_markIntS.f (k + 1) a0 a1) := by
 intro a0 a1 k; have ih0 := laws_markIntS.mono_l k
 unfold laws_markIntS.f
 repeat' first
   | (with_reducible exact ih0 _ _ _)
   | (with_reducible exact LeO.refl _)
   | (with_reducible exact LeO.none _)
   | (with_reducible refine LeO.ite ?_ ?_)
   | (with_reducible refine LeO.bind ?_ (fun _ => ?_))
   | exact ih0 _ _ _
   | exact LeO.none _
   | refine LeO.ite ?_ ?_
   | refine LeO.bind ?_ (fun _ => ?_)
set_option maxHeartbeats 8000000 in
set_option maxRecDepth 100000 in
theorem laws_markIntS.calls (k : Nat) (P0_ : Nat → Prop) (u9000_ : Value) (l0 : List Int) (a1 : Int) (r1 : Int) (r2 : List Int) (w0 w : World) (hB : Below w0.heap.size w0 w) (ho0 : Kd.R (Kd.int .i64) 3 w w0.heap.size P0_ u9000_ l0) (h : laws_markIntS.f k l0 a1 = some (r1, r2)) :
  Calls Try.prog 53 #[u9000_, .int .i64 a1] w fun e w' => e = .returned (.int .i64 r1) ∧ Kd.R (Kd.int .i64) 3 w' w0.heap.size (fun k_ => (P0_ k_ ∨ w.heap.size ≤ k_)) u9000_ r2 ∧ Below w0.heap.size w0 w' ∧ Kept w w' (fun k_ => P0_ k_) := by
 have HO0 := Az (show Kd.R (Kd.int .i64) 3 w w0.heap.size (fun k_ => (P0_ k_ ∨ w.heap.size ≤ k_)) u9000_ l0 from Kd.R_mono ho0 (fun k_ hk => (.inl hk))); have HK := Az (Kept.refl w (fun k_ => P0_ k_)); have HW0 := Az hB.size; have HB := Az hB; clear hB; have H : (laws_markIntS.l0 k l0 a1 0) = some (r1, r2) := h; clear h; have H' := Az H; clear H
 go_enter Try.func53, Try.ntmps53
 go_wp2
 go_loopg [1, 5] k (fun kq v1 v5 w' => ∃ (x0_1 : List Int) (x1_1 : Int) (x5_1 : Int), v1 = .int .i64 x1_1 ∧ v5 = .int .i64 x5_1 ∧ Aside0 (laws_markIntS.l0 kq x0_1 x1_1 x5_1 = some (r1, r2)) ∧ Aside0 (kq ≤ k) ∧ Aside0 (Kd.R (Kd.int .i64) 3 w' w0.heap.size (fun k_ => (P0_ k_ ∨ w.heap.size ≤ k_)) u9000_ x0_1) ∧ Aside0 (Kept w w' (fun k_ => P0_ k_)) ∧ Aside0 (Below w0.heap.size w0 w'))
 case atStart => exact ⟨(l0), (a1), (0), (by first | rfl | (simp; done) | (simp [*]; done)), (by first | rfl | (simp; done) | (simp [*]; done)), H', ⟨Nat.le_refl _⟩, ⟨ru HO0.out⟩, ⟨by repeat (first | (with_reducible first | exact HK.out | apply Kept.alloc | apply Kept.drewN | apply Kept.drew) | exact HK.out)⟩, ⟨bz⟩⟩
 case round =>
  clear H'; (try clear p2); obtain ⟨x0_1, x1_1, x5_1, rfl, rfl, HA, HK1, HO_0, HK, HB⟩ := hrel
  cases gk with
  | zero => exact absurd HA.out (by simp [laws_markIntS.l0])
  | succ k1 =>
   have H := HA.out; clear HA; simp only [laws_markIntS.l0] at H
   by_cases c3 : x5_1 < (x0_1.length : Int)
   ·
    rw [if_pos c3] at H; have c3b0 : decide (x5_1 < (x0_1.length : Int)) = true := decide_eq_true c3; clear c3
    by_cases c4 : 0 ≤ x5_1
    ·
     rw [if_pos c4] at H; have c4b0 : decide (0 ≤ x5_1) = true := decide_eq_true c4; clear c4; obtain ⟨y139, hy139⟩ : ∃ y_ : List Int, y_ = (x0_1.set (x5_1 : Int).toNat x1_1) := ⟨_, rfl⟩
     replace H : (laws_markIntS.l0 k1 y139 (wrap64 (x1_1 + 1)) (wrap64 (x5_1 + 1))) = some (r1, r2) := by have hy_ := hy139; exact yz
     have Ny139 := Az hy139; clear hy139; have H' := Az H; clear H; obtain ⟨Ao6, co6, eo6⟩ := Kd.R_slice HO_0.out; subst eo6; have p5 : 0 ≤ (x5_1 : Int) := oz; have q5 : (x5_1 : Int) < ((x0_1.length : Int) : Int) := oz; obtain ⟨go5, co5, eo5, gb5, gl5, cl5, HG5⟩ := Kd.R_form HO_0.out (by omega)
     (first | cases eo5 | (injection eo5 with ea_ en_ ec_; (first | subst ea_ | (injection ea_ with ea_; subst ea_)); subst ec_; clear en_))
     have GB5 := Az gb5; have GG5 := Az HG5; clear gb5 gl5 HG5; have HMgo5 := Az (show (P0_ go5 ∨ w.heap.size ≤ go5) from (HO_0.out.1 _ rfl)); obtain ⟨hx5_0, hf5_0⟩ := Kd.R_celln 0 HO_0.out (x5_1 : Int) p5 q5; replace p5 := eq_true p5; replace q5 := eq_true q5; have HP7 := Kd.R_putg HO_0.out (x5_1 : Int) x1_1
     go_wp2_with (first | ((with_reducible refine gate_store (t := 3) (p := 15) rfl ?_); refine store_event (t := 3) (p := 15) (v := ?vo_w8) (w1 := (wr.setCell ⟨go5, (x5_1 : Int).toNat, none⟩ (.int .i64 x1_1))) ?hg ?ho ?hn ?hr ?_; (case ho => rfl); (case hg => rfl); (case hn => rfl); (case hr => first | (go_simp; done) | (go_simp; rfl)); intro w8 hw; have hg : wr.grownBy w8 (some go5) := (by rw [hw]; exact HP7.2); have hp_ : Kd.R (Kd.int .i64) 3 w8 w0.heap.size (fun k_ => (P0_ k_ ∨ w.heap.size ≤ k_)) (.slice (some ⟨go5, 0, none⟩) x0_1.length co6) y139 := (by rw [hw, Ny139.out]; exact HP7.1); clear HP7; replace HB := Az ((by rw [hw]; exact below_set (HB.out) GB5.out : Below w0.heap.size w0 w8)); replace HK := Az (Kept.of_grown (S := (fun k_ => P0_ k_)) hg (by repeat (first | (with_reducible first | exact HK.out | apply Kept.alloc | apply Kept.drewN | apply Kept.drew) | exact HK.out)) (fun k_ e_ => (HO_0.out.1 k_ e_))); replace HO_0 := Az (hp_); clear hg hw hp_))
     go_roundg k1
     case measure => have := HK1.out; omega
     case rel => exact ⟨(y139), (wrap64 (x1_1 + 1)), (wrap64 (x5_1 + 1)), (by first | rfl | (simp; done) | (simp [*]; done)), (by first | rfl | (simp; done) | (simp [*]; done)), H', ⟨by have := HK1.out; omega⟩, ⟨ru HO_0.out⟩, ⟨by repeat (first | (with_reducible first | exact HK.out | apply Kept.alloc | apply Kept.drewN | apply Kept.drew) | exact HK.out)⟩, ⟨bz⟩⟩
    ·
     rw [if_neg c4] at H; exact absurd H (by simp)
   ·
    rw [if_neg c3] at H; have c3b0 : decide (x5_1 < (x0_1.length : Int)) = false := decide_eq_false c3; clear c3; simp only [Option.some.injEq, Prod.mk.injEq] at H; obtain ⟨rfl, rfl⟩ := H; obtain ⟨Ao9, co9, eo9⟩ := Kd.R_slice HO_0.out; subst eo9
    go_wp2
    go_ret
    exact ⟨rz, ru HO_0.out, bz, by repeat (first | (with_reducible first | exact HK.out | apply Kept.alloc | apply Kept.drewN | apply Kept.drew) | exact HK.out)⟩

/-! ### laws_markWarnRuleS: function 21, by hand -/
/-- The rules are written over, one by one; what is told is how far the numbers have come. -/
def laws_markWarnRuleS.go (k : Nat) : List S63 → Int → Option Int
 | [], a => some a
 | x :: xs, a => (laws_markText.f k a).bind fun _ => (laws_markIntS.f k x.f2 (wrap64 (wrap64 (a + 1) + 1))).bind fun p => (laws_markText.f k (wrap64 (p.1 + 1))).bind fun _ => laws_markWarnRuleS.go k xs (wrap64 (wrap64 (p.1 + 1) + 1))
def laws_markWarnRuleS.f (k : Nat) (l0 : List S63) (a1 : Int) : Option Int := laws_markWarnRuleS.go k l0 a1
theorem laws_markWarnRuleS.mono_go : ∀ (l : List S63) (a : Int) (k : Nat), LeO (laws_markWarnRuleS.go k l a) (laws_markWarnRuleS.go (k + 1) l a)
 | [], a, k => LeO.refl _
 | x :: xs, a, k => by
  unfold laws_markWarnRuleS.go
  exact LeO.bind (laws_markText.mono _ _) (fun _ => LeO.bind (laws_markIntS.mono _ _ _) (fun p => LeO.bind (laws_markText.mono _ _) (fun _ => laws_markWarnRuleS.mono_go xs _ k)))
def laws_markWarnRuleS.St (P0_ : Nat → Prop) (u : Value) (l : List S63) (i : Int) (oki : Nat → Prop) (vq : Value) (w0 w W : World) (q : List Int) (c : List Value) : Prop :=
 Kd.H k63 63 W w0.heap.size P0_ u l i oki c ∧ (Kd.int .i64).R 3 W w0.heap.size oki vq q ∧ Below w0.heap.size w0 W ∧ Kept w W P0_
section
variable {P0_ oki : Nat → Prop} {g n cap kk : Nat} {l : List S63} {i : Int} {vq : Value} {w0 w W W1 : World} {q q1 : List Int} {c : List Value}
theorem laws_markWarnRuleS.St.below {u : Value} (h : laws_markWarnRuleS.St P0_ u l i oki vq w0 w W q c) (hb : Below W.heap.size W W1) : laws_markWarnRuleS.St P0_ u l i oki vq w0 w W1 q c :=
 ⟨Kd.H_below h.1 hb, Kd.R_below h.2.1 hb, below_step h.2.2.1 hb, Kept.below h.2.2.2 hb⟩
theorem laws_markWarnRuleS.St.inn {u : Value} (h : laws_markWarnRuleS.St P0_ u l i oki vq w0 w W q c) : (∀ k, oki k → P0_ k) := h.1.1
theorem laws_markWarnRuleS.St.head (h : laws_markWarnRuleS.St P0_ (.slice (some ⟨g, 0, none⟩) n cap) l i oki vq w0 w W q c) : P0_ g ∧ ¬ oki g := by
 obtain ⟨_, f, hR⟩ := h.1; exact hR.1 g (by simp [Value.ownBlock])
theorem laws_markWarnRuleS.St.base (h : laws_markWarnRuleS.St P0_ (.slice (some ⟨g, 0, none⟩) n cap) l i oki vq w0 w W q c) : w0.heap.size ≤ g := by
 obtain ⟨_, f, hR⟩ := h.1; exact Kd.R_base hR g (by simp [Value.ownBlock])
theorem laws_markWarnRuleS.St.store (h : laws_markWarnRuleS.St P0_ (.slice (some ⟨g, 0, none⟩) n cap) l (kk : Int) oki vq w0 w W q c) (h0 : (0 : Int) ≤ (kk : Int)) (h1 : (kk : Int) < n) (j : Nat) (hj : j + 1 ≤ 5) (v : Value) (hv : v.oneCell' = true) :
  laws_markWarnRuleS.St P0_ (.slice (some ⟨g, 0, none⟩) n cap) l (kk : Int) oki vq w0 w (W.setCell ⟨g, kk * 5 + j, none⟩ v) q (c.take j ++ [v] ++ c.drop (j + 1)) := by
 have hs := Kd.H_seg h.1 h0 h1 (seg := [v]) (j := j) hj (fun q hq => by rw [List.mem_singleton.1 hq]; exact hv); exact ⟨hs.1, Kd.R_grown h.2.1 hs.2 (fun k hk he => h.head.2 (by injection he with he; rw [← he]; exact hk)), below_set h.2.2.1 h.base, Kept.of_grown hs.2 h.2.2.2 (fun k he => .inl (by injection he with he; rw [← he]; exact h.head.1))⟩
theorem laws_markWarnRuleS.St.call {u : Value} (h : laws_markWarnRuleS.St P0_ u l i oki vq w0 w W q c) (hb : Below w0.heap.size w0 W1) (hk : Kept W W1 (fun k => some k = vq.ownBlock)) (hr : (Kd.int .i64).R 3 W1 w0.heap.size (fun k => (some k = vq.ownBlock) ∨ W.heap.size ≤ k) vq q1) : laws_markWarnRuleS.St P0_ u l i oki vq w0 w W1 q1 c :=
 ⟨Kd.H_step h.1 (fun k _ hn hlt => hk.2 k hlt (fun he => hn (h.2.1.1 k he.symm))), Kd.R_mono (Kd.R_tight rfl hr) (fun k he => h.2.1.1 k he.symm), hb, Kept.then_ h.2.2.2 hk (fun k he => .inl (h.inn k (h.2.1.1 k he.symm)))⟩
theorem laws_markWarnRuleS.St.cells (h : laws_markWarnRuleS.St P0_ (.slice (some ⟨g, 0, none⟩) n cap) l (kk : Int) oki vq w0 w W q c) (h0 : (0 : Int) ≤ (kk : Int)) (h1 : (kk : Int) < n) : (∀ j u, c[j]? = some u → W.cell? ⟨g, kk * 5 + j, none⟩ = some u) ∧ (∀ j, W.frozen? ⟨g, kk * 5 + j, none⟩ = false) := by
 obtain ⟨rows, hl, hraw, hcl, hco, hcc, _⟩ := Kd.H_raw h.1 h0 h1; obtain ⟨_, _, _, _, hfr⟩ := Kd.R_elem hraw [] (kk : Int) h0 h1; exact ⟨hcc, hfr⟩
end
set_option maxHeartbeats 8000000 in
set_option maxRecDepth 100000 in
theorem laws_markWarnRuleS.calls (k : Nat) (P0_ : Nat → Prop) (u9000_ : Value) (l0 : List S63) (a1 : Int) (r : Int) (w0 w : World) (hB : Below w0.heap.size w0 w) (ho0 : Kd.S k63 63 w w0.heap.size P0_ u9000_ l0) (h : laws_markWarnRuleS.f k l0 a1 = some r) :
  Calls Try.prog 21 #[u9000_, .int .i64 a1] w fun e w' => e = .returned (.int .i64 r) ∧ Below w0.heap.size w0 w' ∧ Kept w w' (fun k_ => P0_ k_) := by
 have HO := Az ho0; have HB := Az hB; have H0 : laws_markWarnRuleS.go k (l0.drop 0) a1 = some r := h; have HA0 := Az H0
 have hmax : l0.length ≤ 9223372036854775807 := by
  obtain ⟨A_, c_, _, _, hC⟩ := Kd.S_reads ho0; exact hC.2.1
 have HM := Az hmax; clear hB ho0 h H0 hmax
 go_enter Try.func21, Try.ntmps21
 obtain ⟨Ao, co, eo⟩ := Kd.S_slice HO.out; subst eo
 go_wp2
 go_loopg [1, 5] l0.length (fun gg s1 s5 wr => ∃ (kk : Nat) (a : Int) (l : List S63), kk ≤ l0.length ∧ l0.length - kk ≤ gg ∧ s1 = .int .i64 a ∧ s5 = .int .i64 (kk : Int) ∧ Aside0 (l.length = l0.length ∧ l.drop kk = l0.drop kk) ∧ Aside0 (laws_markWarnRuleS.go k (l0.drop kk) a = some r) ∧ Aside0 (Kd.S k63 63 wr w0.heap.size P0_ (.slice Ao l0.length co) l) ∧ Aside0 (Kept w wr P0_) ∧ Aside0 (Below w0.heap.size w0 wr))
 case atStart => exact ⟨0, a1, l0, Nat.zero_le _, by omega, rfl, rfl, ⟨rfl, rfl⟩, HA0, HO, ⟨Kept.refl w P0_⟩, HB⟩
 case round =>
  clear HO HB HA0; obtain ⟨kk, a, l, hkk, hg, rfl, rfl, HL, HA, HO, HK, HB⟩ := hrel
  by_cases hlt : kk < l0.length
  ·
   have hltz : (kk : Int) < (l0.length : Int) := by omega
   have hll := HL.out.1; have HN := Az hll; obtain ⟨g, cap, hu, hgb, hgl, _⟩ := Kd.S_form HO.out (by omega); rw [hll] at hu
   injection hu with hu1 hu2 hu3
   subst hu1; clear hu2 hu3 hll hgb hgl; obtain ⟨oki, c, hcl, hM, hcc, hfr, hoki, hH⟩ := Kd.S_elem HO.out z63 (kk : Int) (by omega) hltz; obtain ⟨vq, rfl, hq⟩ := k63_openM hM
   have hx : l.getD (kk : Int).toNat z63 = l0[kk] := by
    have e := congrArg (fun z => z[0]?) HL.out.2; simp only [List.getElem?_drop, Nat.add_zero] at e; rw [Int.toNat_natCast, List.getD_eq_getElem?_getD, e, List.getElem?_eq_getElem hlt]; rfl
   rw [hx] at hq hH; rw [hx] at hcc; have hA := HA.out; rw [List.drop_eq_getElem_cons hlt] at hA
   unfold laws_markWarnRuleS.go at hA
   obtain ⟨t1, ht1, hA⟩ := Option.bind_eq_some_iff.1 hA; obtain ⟨⟨p, q1⟩, hp, hA⟩ := Option.bind_eq_some_iff.1 hA; obtain ⟨I, ht2, hA⟩ := Option.bind_eq_some_iff.1 hA; have HT1 := Az ht1; have HP := Az hp; have HT2 := Az ht2; have HA' := Az hA; have ST := Az (show laws_markWarnRuleS.St P0_ (.slice (some ⟨g, 0, none⟩) l0.length co) l (kk : Int) oki vq w0 w wr (l0[kk]).f2 _ from ⟨hH, hq, HB.out, HK.out⟩); clear hcl hM hcc hfr hoki hq hH ht1 hp ht2 hA hx HA HB HK HO
   have h00 : (0 : Int) ≤ (kk : Int) := by omega
   go_wp2_with (first
    | (go_at_call 52; (with_reducible refine (laws_markText.calls k a t1 wr HT1.out).mono ?_); rintro e w1 ⟨rfl, hb1⟩; have S1 := Az (ST.out.below hb1); clear hb1 ST; have hc1 := (S1.out.cells h00 hltz).1 0 _ rfl; have hf1 := (S1.out.cells h00 hltz).2 0; (try simp only [Nat.add_zero] at hc1 hf1))
    | ((with_reducible refine gate_store (t := 9) (p := 17) rfl ?_); refine store_event (t := 9) (p := 17) (v := ?vo_1) (w1 := (w1.setCell ⟨g, kk * 5, none⟩ (.string t1))) ?hg ?ho ?hn ?hr ?_; (case ho => rfl); (case hg => rfl); (case hn => rfl); (case hr => first | (go_simp; done) | (go_simp; rfl)); intro w2 hw; have S2 := Az (show laws_markWarnRuleS.St P0_ (.slice (some ⟨g, 0, none⟩) l0.length co) l (kk : Int) oki vq w0 w w2 (l0[kk]).f2 _ from (by rw [hw]; exact S1.out.store h00 hltz 0 (by omega) (.string t1) rfl)); clear hw S1 hc1 hf1; have hc2 := (S2.out.cells h00 hltz).1 1 _ rfl; have hf2 := (S2.out.cells h00 hltz).2 1)
    | ((with_reducible refine gate_store (t := 3) (p := 24) rfl ?_); refine store_event (t := 3) (p := 24) (v := ?vo_2) (w1 := (w2.setCell ⟨g, kk * 5 + 1, none⟩ (.int .i64 (wrap64 (a + 1))))) ?hg ?ho ?hn ?hr ?_; (case ho => rfl); (case hg => rfl); (case hn => rfl); (case hr => first | (go_simp; done) | (go_simp; rfl)); intro w3 hw; have S3 := Az (show laws_markWarnRuleS.St P0_ (.slice (some ⟨g, 0, none⟩) l0.length co) l (kk : Int) oki vq w0 w w3 (l0[kk]).f2 _ from (by rw [hw]; exact S2.out.store h00 hltz 1 (by omega) (.int .i64 (wrap64 (a + 1))) rfl)); clear hw S2 hc2 hf2; have hc3 := (S3.out.cells h00 hltz).1 2 _ rfl; have hf3 := (S3.out.cells h00 hltz).2 2)
    | (go_at_call 53; have hb3 := S3.out.2.2.1; have hr3 : (Kd.int .i64).R 3 w3 w0.heap.size (fun k_ => some k_ = (vq : Value).ownBlock) vq (l0[kk]).f2 := Kd.R_tight rfl S3.out.2.1; (with_reducible refine (laws_markIntS.calls k (fun k_ => some k_ = (vq : Value).ownBlock) vq (l0[kk]).f2 (wrap64 (wrap64 (a + 1) + 1)) p q1 w0 w3 hb3 hr3 HP.out).mono ?_); rintro e w4 ⟨rfl, hr4, hb4, hk4⟩; have S4 := Az (S3.out.call hb4 hk4 hr4); clear hb3 hr3 hr4 hb4 hk4 S3 hc3 hf3; have hc4 := (S4.out.cells h00 hltz).1 3 _ rfl; have hf4 := (S4.out.cells h00 hltz).2 3)
    | ((with_reducible refine gate_store (t := 4) (p := 40) rfl ?_); refine store_event (t := 4) (p := 40) (v := ?vo_3) (w1 := (w4.setCell ⟨g, kk * 5 + 3, none⟩ (.bool ((Int.tmod p 3) == 0)))) ?hg ?ho ?hn ?hr ?_; (case ho => rfl); (case hg => rfl); (case hn => rfl); (case hr => first | (go_simp; done) | (go_simp; rfl)); intro w5 hw; have S5 := Az (show laws_markWarnRuleS.St P0_ (.slice (some ⟨g, 0, none⟩) l0.length co) l (kk : Int) oki vq w0 w w5 q1 _ from (by rw [hw]; exact S4.out.store h00 hltz 3 (by omega) (.bool ((Int.tmod p 3) == 0)) rfl)); clear hw S4 hc4 hf4)
    | (go_at_call 52; (with_reducible refine (laws_markText.calls k (wrap64 (p + 1)) I w5 HT2.out).mono ?_); rintro e w6 ⟨rfl, hb6⟩; have S6 := Az (S5.out.below hb6); clear hb6 S5; have hc6 := (S6.out.cells h00 hltz).1 4 _ rfl; have hf6 := (S6.out.cells h00 hltz).2 4)
    | ((with_reducible refine gate_store (t := 9) (p := 48) rfl ?_); refine store_event (t := 9) (p := 48) (v := ?vo_4) (w1 := (w6.setCell ⟨g, kk * 5 + 4, none⟩ (.string I))) ?hg ?ho ?hn ?hr ?_; (case ho => rfl); (case hg => rfl); (case hn => rfl); (case hr => first | (go_simp; done) | (go_simp; rfl)); intro w7 hw; have S7 := Az (show laws_markWarnRuleS.St P0_ (.slice (some ⟨g, 0, none⟩) l0.length co) l (kk : Int) oki vq w0 w w7 q1 _ from (by rw [hw]; exact S6.out.store h00 hltz 4 (by omega) (.string I) rfl)); clear hw S6 hc6 hf6))
   go_roundg (l0.length - (kk + 1))
   case measure => omega
   case rel =>
    have hb := Kd.H_back S7.out.1 (x' := ⟨t1, wrap64 (a + 1), q1, (Int.tmod p 3) == 0, I⟩) (okp := oki) (k63_mkM _ _ _ ⟨t1, wrap64 (a + 1), q1, (Int.tmod p 3) == 0, I⟩ S7.out.2.1) (fun _ hk => hk); refine ⟨kk + 1, _, l.set kk _, by omega, by omega, rfl, by have hm_ := HM.out; rw [show wrap64 ((kk : Int) + 1) = ((kk + 1 : Nat) : Int) by unfold wrap64; omega], ⟨by rw [List.length_set]; exact HN.out, by rw [List.drop_set_of_lt (by omega)]; have e := congrArg List.tail HL.out.2; rwa [List.tail_drop, List.tail_drop] at e⟩, HA', ⟨hb⟩, ⟨S7.out.2.2.2⟩, ⟨S7.out.2.2.1⟩⟩
  ·
   have hltz : ¬ (kk : Int) < (l0.length : Int) := by omega
   have : kk = l0.length := by omega
   subst this; have hr := HA.out; rw [List.drop_length] at hr
   unfold laws_markWarnRuleS.go at hr
   obtain rfl := Option.some.inj hr
   go_wp2
   go_ret
   exact ⟨rfl, HB.out, HK.out⟩

/-! ### slices_Index_string_string: function 83 -/
def slices_Index_string_string.l0 : Nat → List ByteArray → ByteArray → Int → Int → Option (Int)
 | 0, _, _, _, _ => none
 | k + 1, x0, x1, x7, x8 => if x8 < x7 then (if 0 ≤ x8 then (if x8 < (x0.length : Int) then (if x1.toList = (rdOf ByteArray.empty x0 x8).toList then (some x8) else (slices_Index_string_string.l0 k x0 x1 x7 (wrap64 (x8 + 1)))) else (none)) else (none)) else (some (-1))
def slices_Index_string_string.f (k : Nat) (l0 : List ByteArray) (a1 : ByteArray) : Option (Int) := slices_Index_string_string.l0 k l0 a1 (l0.length : Int) 0
set_option maxHeartbeats 8000000 in
set_option maxRecDepth 100000 in
theorem slices_Index_string_string.calls (k : Nat) (A0 : Option Addr) (c0 : Nat) (l0 : List ByteArray) (a1 : ByteArray) (r : Int) (w : World) (hr0 : Kd.C Kd.string w A0 l0.length l0) (hc0 : l0.length ≤ c0) (h : slices_Index_string_string.f k l0 a1 = some r) :
  Calls Try.prog 83 #[.slice A0 l0.length c0, .string a1] w fun e w' => e = .returned (.int .i64 r) ∧ Drawn0 w w' := by
 have HR0 := Az hr0; have HC0 := Az hc0; clear hr0 hc0; have H : (slices_Index_string_string.l0 k l0 a1 (l0.length : Int) 0) = some r := h; clear h; have H' := Az H; clear H
 go_enter Try.func83, Try.ntmps83
 go_wp2
 go_loopg [8] k (fun kq v8 w' => ∃ (x8_1 : Int), v8 = .int .i64 x8_1 ∧ Aside0 (slices_Index_string_string.l0 kq l0 a1 (l0.length : Int) x8_1 = some r) ∧ Aside0 (kq ≤ k) ∧ Drawn0 w w')
 case atStart => exact ⟨(0), (by first | rfl | (simp; done) | (simp [*]; done)), H', ⟨Nat.le_refl _⟩, by repeat (first | exact Drawn0.refl _ | apply Drawn0.step)⟩
 case round =>
  clear H'; (try clear p2); obtain ⟨x8_1, rfl, HA, HK1, ⟨m1, rfl⟩⟩ := hrel
  cases gk with
  | zero => exact absurd HA.out (by simp [slices_Index_string_string.l0])
  | succ k1 =>
   have H := HA.out; clear HA; simp only [slices_Index_string_string.l0] at H
   by_cases c3 : x8_1 < (l0.length : Int)
   ·
    rw [if_pos c3] at H; have c3b0 : decide (x8_1 < (l0.length : Int)) = true := decide_eq_true c3; clear c3
    by_cases c4 : 0 ≤ x8_1
    ·
     rw [if_pos c4] at H; have c4b0 : decide (0 ≤ x8_1) = true := decide_eq_true c4; clear c4
     by_cases c5 : x8_1 < (l0.length : Int)
     ·
      rw [if_pos c5] at H; have c5b0 : decide (x8_1 < (l0.length : Int)) = true := decide_eq_true c5; clear c5
      by_cases c6 : a1.toList = (rdOf ByteArray.empty l0 x8_1).toList
      ·
       rw [if_pos c6] at H; have c6b0 : (a1.toList == (rdOf ByteArray.empty l0 x8_1).toList) = true := beq_iff_eq.mpr c6; have c6b1 : (a1.toList != (rdOf ByteArray.empty l0 x8_1).toList) = false := bne_eq_false_iff_eq.mpr c6; clear c6; obtain rfl := Option.some.inj H; have p140 : 0 ≤ (x8_1 : Int) := oz; have q140 : x8_1 < (l0.length : Int) := oz; obtain ⟨ad140, e140, hx140_0⟩ := Kd.at_string HR0.out x8_1 p140 q140
       cases e140
       replace p140 := eq_true p140; replace q140 := eq_true q140
       go_wp2
       go_ret
       exact ⟨by first | rfl | (simp; done) | (simp [*]; done), by repeat (first | exact Drawn0.refl _ | apply Drawn0.step)⟩
      ·
       rw [if_neg c6] at H; have c6b0 : (a1.toList == (rdOf ByteArray.empty l0 x8_1).toList) = false := beq_eq_false_iff_ne.mpr c6; have c6b1 : (a1.toList != (rdOf ByteArray.empty l0 x8_1).toList) = true := bne_iff_ne.mpr c6; have H' := Az H; clear H; have p140 : 0 ≤ (x8_1 : Int) := oz; have q140 : x8_1 < (l0.length : Int) := oz; obtain ⟨ad140, e140, hx140_0⟩ := Kd.at_string HR0.out x8_1 p140 q140
       cases e140
       replace p140 := eq_true p140; replace q140 := eq_true q140
       go_wp2
       go_roundg k1
       case measure => have := HK1.out; omega
       case rel => exact ⟨(wrap64 (x8_1 + 1)), (by first | rfl | (simp; done) | (simp [*]; done)), H', ⟨by have := HK1.out; omega⟩, by repeat (first | exact Drawn0.refl _ | apply Drawn0.step)⟩
     ·
      rw [if_neg c5] at H; exact absurd H (by simp)
    ·
     rw [if_neg c4] at H; exact absurd H (by simp)
   ·
    rw [if_neg c3] at H; have c3b0 : decide (x8_1 < (l0.length : Int)) = false := decide_eq_false c3; clear c3; obtain rfl := Option.some.inj H
    go_wp2
    go_ret
    exact ⟨by first | rfl | (simp; done) | (simp [*]; done), by repeat (first | exact Drawn0.refl _ | apply Drawn0.step)⟩

/-! ### slices_Contains_string_string: function 49 -/
def slices_Contains_string_string.f (k : Nat) (l0 : List ByteArray) (a1 : ByteArray) : Option (Bool) := (slices_Index_string_string.f k l0 a1).bind fun t141 => (some (decide (t141 ≥ 0)))
set_option maxHeartbeats 8000000 in
set_option maxRecDepth 100000 in
theorem slices_Contains_string_string.calls (k : Nat) (A0 : Option Addr) (c0 : Nat) (l0 : List ByteArray) (a1 : ByteArray) (r : Bool) (w : World) (hr0 : Kd.C Kd.string w A0 l0.length l0) (hc0 : l0.length ≤ c0) (h : slices_Contains_string_string.f k l0 a1 = some r) :
  Calls Try.prog 49 #[.slice A0 l0.length c0, .string a1] w fun e w' => e = .returned (.bool r) ∧ Drawn0 w w' := by
 have HR0 := Az hr0; have HC0 := Az hc0; clear hr0 hc0; have H : ((slices_Index_string_string.f k l0 a1).bind fun t141 => (some (decide (t141 ≥ 0)))) = some r := h; clear h; replace H := Option.bind_eq_some_iff.mp H; obtain ⟨t141, A30, H⟩ := H; replace H : (some (decide (t141 ≥ 0))) = some r := H; have A3 := Az A30; clear A30; obtain rfl := Option.some.inj H
 go_enter Try.func49, Try.ntmps49
 go_wp2_with (first | ((with_reducible refine gate_callee (f := 83) rfl ?_); refine goesL_ (some 7) rfl rfl Try.func83 (by kernel_rfl) rfl #[.slice A0 l0.length c0, .string a1] rfl (by (try simp only [List.map_toArray, List.map_cons, List.map_nil]); first | done | rfl) ?_; (with_reducible refine (slices_Index_string_string.calls k _ _ l0 a1 t141 _ ?side1 ?side2 A3.out).mono ?_); (case side1 => repeat (first | exact HR0.out | (with_reducible refine Kd.C_alloc ?_ _) | (with_reducible refine Kd.C_drewN ?_ _) | (with_reducible refine Kd.C_drew ?_))); (case side2 => exact HC0.out); rintro e w' ⟨rfl, ⟨nd, rfl⟩⟩; refine ⟨_, rfl, ?_⟩))
 go_ret
 exact ⟨by first | rfl | (simp; done) | (simp [*]; done), by repeat (first | exact Drawn0.refl _ | apply Drawn0.step)⟩

end Go.Proofs.Ytjndpoofjidamaa.PFnExactTake14
