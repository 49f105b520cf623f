/- Walks of the functions named below, by a program of the session over the kit's printer. -/
import Derived.Test.YtoooikhkapaokaaPFnExactReachx0
import Derived.Test.YtoooikhkapaokaaPFnExactReachx2
import Derived.Test.YtoooikhkapaokaaPFnExactReachx3
namespace Go.Proofs.Ytoooikhkapaokaa.PFnExactReach
open Go.RowKit Go.Proofs.YtoooikhkapaokaaW.PrintWords Go.Proofs.YtoooikhkapaokaaW.PrintLast Go.Proofs.YtoooikhkapaokaaW.PrintMore
attribute [local go_sem] max2_int min2_int max_two min_two max_three min_three max_four min_four   -- for this text's walks alone
set_option linter.unusedVariables false
set_option linter.unusedSimpArgs false
abbrev t4_ : Bool := true
abbrev f4_ : Bool := false

/-! ### spec_Reach: function 16 -/
mutual
def spec_Reach.j0 : Nat → List (S41) → Int → Int → List (S41) → Bool → Option ((List (S41)) × Int × Bool)
 | 0, _, _, _, _, _ => none
 | k + 1, x0, x1, x2, x9, x22 => if x22 = true then (some (x9, (-1), false)) else (spec_Reach.l0 k x0 x1 x2 x9 0)
def spec_Reach.l0 : Nat → List (S41) → Int → Int → List (S41) → Int → Option ((List (S41)) × Int × Bool)
 | 0, _, _, _, _, _ => none
 | k + 1, x0, x1, x2, x9, x10 => if x10 < (x0.length : Int) then (if 0 ≤ x10 then (if x10 > 0 then (if 0 ≤ (wrap64 (x10 - 1)) then (if (wrap64 (x10 - 1)) < (x0.length : Int) then (if (wrap64 (x10 - 1)) < (x9.length : Int) then ((spec_l1Max.f ((rd_T41 x0 x10).f1) (wrap64 (((rd_T41 x9 (wrap64 (x10 - 1))).f1) - (wrap64 (x2 * (wrap64 (((rd_T41 x0 x10).f0) - ((rd_T41 x0 (wrap64 (x10 - 1))).f0)))))))).bind fun t134 => ((spec_l1Min.f ((rd_T41 x0 x10).f2) (wrap64 (((rd_T41 x9 (wrap64 (x10 - 1))).f2) + (wrap64 (x1 * (wrap64 (((rd_T41 x0 x10).f0) - ((rd_T41 x0 (wrap64 (x10 - 1))).f0)))))))).bind fun t136 => (if t134 > t136 then (some (x9, x10, true)) else (if x9.length < 5864062014805 then (spec_Reach.l0 k x0 x1 x2 (x9 ++ [(⟨(rd_T41 x0 x10).f0, t134, t136⟩ : S41)]) (wrap64 (x10 + 1))) else (none))))) else (none)) else (none)) else (none)) else (if ((rd_T41 x0 x10).f1) > ((rd_T41 x0 x10).f2) then (some (x9, x10, true)) else (if x9.length < 5864062014805 then (spec_Reach.l0 k x0 x1 x2 (x9 ++ [(⟨(rd_T41 x0 x10).f0, (rd_T41 x0 x10).f1, (rd_T41 x0 x10).f2⟩ : S41)]) (wrap64 (x10 + 1))) else (none)))) else (none)) else (some (x9, (-1), true))
end
def spec_Reach.f (k : Nat) (l0 : List (S41)) (a1 : Int) (a2 : Int) : Option ((List (S41)) × Int × Bool) := (some (([] : List (S41)) : List (S41))).bind fun y125 => ((spec_PointsOk.f k l0).bind fun t128 => (if t128 = true then ((spec_l13Slopes.f a1 a2).bind fun t129 => (spec_Reach.j0 k l0 a1 a2 y125 (!t129))) else (spec_Reach.j0 k l0 a1 a2 y125 true)))
theorem spec_Reach.mono_l : ∀ k, (∀ y0 y1 y2 y3 y4, LeO (spec_Reach.j0 k y0 y1 y2 y3 y4) (spec_Reach.j0 (k + 1) y0 y1 y2 y3 y4)) ∧ (∀ y0 y1 y2 y3 y4, LeO (spec_Reach.l0 k y0 y1 y2 y3 y4) (spec_Reach.l0 (k + 1) y0 y1 y2 y3 y4))
 | 0 => ⟨fun _ _ _ _ _ r h => by simp [spec_Reach.j0] at h, fun _ _ _ _ _ r h => by simp [spec_Reach.l0] at h⟩
 | k + 1 => by
  obtain ⟨ih0, ih1⟩ := spec_Reach.mono_l k
  refine ⟨?_, ?_⟩
  ·
   intro y0 y1 y2 y3 y4
   unfold spec_Reach.j0
   repeat' first
   | (with_reducible exact ih0 _ _ _ _ _)
   | (with_reducible exact ih1 _ _ _ _ _)
   | (with_reducible exact spec_PointsOk.mono _ _)
   | (with_reducible exact LeO.refl _)
   | (with_reducible exact LeO.none _)
   | (with_reducible refine LeO.ite ?_ ?_)
   | (with_reducible refine LeO.bind ?_ (fun _ => ?_))
   | exact ih0 _ _ _ _ _
   | exact ih1 _ _ _ _ _
   | exact spec_PointsOk.mono _ _
   | exact LeO.none _
   | refine LeO.ite ?_ ?_
   | refine LeO.bind ?_ (fun _ => ?_)
  ·
   intro y0 y1 y2 y3 y4
   unfold spec_Reach.l0
   repeat' first
   | (with_reducible exact ih0 _ _ _ _ _)
   | (with_reducible exact ih1 _ _ _ _ _)
   | (with_reducible exact spec_PointsOk.mono _ _)
   | (with_reducible exact LeO.refl _)
   | (with_reducible exact LeO.none _)
   | (with_reducible refine LeO.ite ?_ ?_)
   | (with_reducible refine LeO.bind ?_ (fun _ => ?_))
   | exact ih0 _ _ _ _ _
   | exact ih1 _ _ _ _ _
   | exact spec_PointsOk.mono _ _
   | exact LeO.none _
   | refine LeO.ite ?_ ?_
   | refine LeO.bind ?_ (fun _ => ?_)
theorem spec_Reach.mono : ∀ a0 a1 a2 k, LeO (spec_Reach.f k a0 a1 a2) (spec_Reach.f (k + 1) a0 a1 a2) := by
 intro a0 a1 a2 k
 obtain ⟨ih0, ih1⟩ := spec_Reach.mono_l k
 unfold spec_Reach.f
 repeat' first
   | (with_reducible exact ih0 _ _ _ _ _)
   | (with_reducible exact ih1 _ _ _ _ _)
   | (with_reducible exact spec_PointsOk.mono _ _)
   | (with_reducible exact LeO.refl _)
   | (with_reducible exact LeO.none _)
   | (with_reducible refine LeO.ite ?_ ?_)
   | (with_reducible refine LeO.bind ?_ (fun _ => ?_))
   | exact ih0 _ _ _ _ _
   | exact ih1 _ _ _ _ _
   | exact spec_PointsOk.mono _ _
   | exact LeO.none _
   | refine LeO.ite ?_ ?_
   | refine LeO.bind ?_ (fun _ => ?_)
def spec_Reach.T9 : Bool × List (List Nat × List Nat) := (true, [([], []), ([0], [0]), ([], []), ([], []), ([3], [3]), ([2, 4], [2, 4]), ([5], [5]), ([6], [6]), ([1, 7], [1, 7]), ([8, 0, 1, 2, 3, 4, 5, 6, 7, 8], [8])])
def spec_Reach.B9 : List Nat := [0, 1, 0, 0, 8, 28, 60, 124, 255, 511]
theorem spec_Reach.tab9 : rtab .any (opsOf Try.f16 9) = spec_Reach.T9 := by kernel_rfl
theorem spec_Reach.bits9 : waitsOk spec_Reach.T9.2 spec_Reach.B9 = true := by kernel_rfl
def spec_Reach.T10 : Bool × List (List Nat × List Nat) := (true, [([], []), ([0], [0]), ([], []), ([], []), ([3], [3]), ([2, 4], [2, 4]), ([5], [5]), ([6], [6]), ([], []), ([], []), ([8, 9], [8, 9]), ([7, 10], [7, 10]), ([1, 11], [1, 11]), ([0, 1, 2, 3, 4, 5, 6, 7, 8, 9, 10, 11, 12], []), ([13, 12, 12, 0, 1, 2, 3, 4, 5, 6, 7, 8, 9, 10, 11, 12], [12, 13])])
def spec_Reach.B10 : List Nat := [0, 1, 0, 0, 8, 28, 60, 124, 0, 0, 768, 2044, 4095, 8191, 16383]
theorem spec_Reach.tab10 : rtab .any (opsOf Try.f16 10) = spec_Reach.T10 := by kernel_rfl
theorem spec_Reach.bits10 : waitsOk spec_Reach.T10.2 spec_Reach.B10 = true := by kernel_rfl
def spec_Reach.T11 : Bool × List (List Nat × List Nat) := (true, [([], []), ([0], [0]), ([], []), ([], []), ([3], [3]), ([2, 4], [2, 4]), ([5], [5]), ([6], [6]), ([], []), ([], []), ([8, 9], [8, 9]), ([7, 10], [7, 10]), ([1, 11], [1, 11]), ([0, 1, 2, 3, 4, 5, 6, 7, 8, 9, 10, 11, 12], []), ([13, 12, 12, 0, 1, 2, 3, 4, 5, 6, 7, 8, 9, 10, 11, 12], [12, 13])])
def spec_Reach.B11 : List Nat := [0, 1, 0, 0, 8, 28, 60, 124, 0, 0, 768, 2044, 4095, 8191, 16383]
theorem spec_Reach.tab11 : rtab .any (opsOf Try.f16 11) = spec_Reach.T11 := by kernel_rfl
theorem spec_Reach.bits11 : waitsOk spec_Reach.T11.2 spec_Reach.B11 = true := by kernel_rfl
set_option maxHeartbeats 8000000 in
set_option maxRecDepth 100000 in
theorem spec_Reach.calls (k : Nat) (A0 : Option Addr) (c0 : Nat) (l0 : List (S41)) (a1 : Int) (a2 : Int) (r1 : List (S41)) (r2 : Int) (r3 : Bool) (w : World) (hr0 : Kd.C k41 w A0 l0.length l0) (hc0 : l0.length ≤ c0) (h : spec_Reach.f k l0 a1 a2 = some (r1, r2, r3)) :
  Calls Try.prog 16 #[.slice A0 l0.length c0, .int .i64 a1, .int .i64 a2] w fun e w' => ∃ v0_ : Value, e = .returned (.tuple #[v0_, .int .i64 r2, .bool r3]) ∧ Kd.R k41 41 w' w.heap.size (fun _ => True) v0_ r1 ∧ Below w.heap.size w w' := by
 have hu41 := Try.underlying41
 have HR0 := Aside0.mk hr0
 have HC0 := Aside0.mk hc0
 clear hr0 hc0
 have HB := Aside0.mk (Below.refl w.heap.size w)
 have H : ((some (([] : List (S41)) : List (S41))).bind fun y125 => ((spec_PointsOk.f k l0).bind fun t128 => (if t128 = true then ((spec_l13Slopes.f a1 a2).bind fun t129 => (spec_Reach.j0 k l0 a1 a2 y125 (!t129))) else (spec_Reach.j0 k l0 a1 a2 y125 true)))) = some (r1, r2, r3) := h
 clear h
 obtain ⟨y125, hy125⟩ : ∃ y_ : List (S41), y_ = (([] : List (S41))) := ⟨_, rfl⟩
 replace H : ((spec_PointsOk.f k l0).bind fun t128 => (if t128 = true then ((spec_l13Slopes.f a1 a2).bind fun t129 => (spec_Reach.j0 k l0 a1 a2 y125 (!t129))) else (spec_Reach.j0 k l0 a1 a2 y125 true))) = some (r1, r2, r3) := by first | (rw [hy125]; with_reducible exact H) | (have H2_ := (Option.bind_some _ _).symm.trans H; rw [hy125]; with_reducible exact H2_) | (have H2_ := (Option.bind_some _ _).symm.trans H; with_reducible exact H2_) | with_reducible exact H | (rw [hy125]; exact H) | exact H
 have Ny125 := Aside0.mk hy125
 clear hy125
 have HC4 := Aside0.mk H
 clear H
 go_enter Try.func16, Try.ntmps16
 go_upto_region 2 with (first | ((with_reducible refine gate_dst (N := 13) rfl ?_); refine Kd.R_lit k41 _ 41 ?hg (N := 13) ?hd (xs := ([] : List (S41))) (inner := []) (ok := fun _ => True) (okp := fun _ => True) ?hr ?hp (fun _ hk => hk) trivial (Below.refl _ _) (Nat.le_refl _) (by simp) ?_; (case hd => rfl); (case hg => rfl); (case hr => first | (go_simp; done) | (go_simp; rfl)); (case hp => exact (Reps.none _ _)); intro v126 w5 ho6 hb hg_ hnew_; clear hg_ hnew_; (first | rw [← Ny125.out] at ho6 | (simp only [Int.reduceToNat] at ho6; rw [← Ny125.out] at ho6)); have n0_ := Aside0.mk (Kd.R_lower ho6 (below_size (by repeat (first | (with_reducible first | exact HB.out | apply below_alloc | apply pw_below_drewN | apply below_drew1) | exact HB.out)))); have n1_ := Aside0.mk (below_step (by repeat (first | (with_reducible first | exact HB.out | apply below_alloc | apply pw_below_drewN | apply below_drew1) | exact HB.out)) hb); clear HB; have HO127 := n0_; have HB := n1_; clear n0_ n1_; clear hb ho6))
 (try simp only [Act.put, List.setIfInBounds_toArray, List.set_cons_zero, List.set_cons_succ])
 go_cut [22] (fun v22 wc => ∃ (kq : Nat) (x22_3 : Bool), v22 = .bool x22_3 ∧ Aside0 (spec_Reach.j0 kq l0 a1 a2 y125 x22_3 = some (r1, r2, r3)) ∧ Aside0 (kq ≤ k) ∧ Aside0 (Kd.R k41 41 wc w.heap.size (fun _ => True) v126 y125) ∧ Aside0 (Below w.heap.size w wc))
 case first =>
  have H := HC4.out
  clear HC4
  replace H := Option.bind_eq_some_iff.mp H
  obtain ⟨t128, A70, H⟩ := H
  replace H : (if t128 = true then ((spec_l13Slopes.f a1 a2).bind fun t129 => (spec_Reach.j0 k l0 a1 a2 y125 (!t129))) else (spec_Reach.j0 k l0 a1 a2 y125 true)) = some (r1, r2, r3) := H
  have A7 := Aside0.mk A70
  clear A70
  by_cases c8 : t128 = true
  ·
   subst c8
   have H1 : ((spec_l13Slopes.f a1 a2).bind fun t129 => (spec_Reach.j0 k l0 a1 a2 y125 (!t129))) = some (r1, r2, r3) := by rw [if_pos rfl] at H; exact H
   clear H
   have H := H1
   clear H1
   replace H := Option.bind_eq_some_iff.mp H
   obtain ⟨t129, A90, H⟩ := H
   replace H : (spec_Reach.j0 k l0 a1 a2 y125 (!t129)) = some (r1, r2, r3) := H
   have A9 := Aside0.mk A90
   clear A90
   have H' := Aside0.mk H
   clear H
   go_wp2_with (first | ((with_reducible refine gate_callee (f := 12) rfl ?_); refine goesL_ (some 15) rfl rfl Try.func12 (by kernel_rfl) rfl #[.slice A0 l0.length c0] rfl (by (try simp only [List.map_toArray, List.map_cons, List.map_nil]); first | done | rfl | (simp only [List.length_drop, List.length_take]; rfl)) ?_; (with_reducible refine (spec_PointsOk.calls k _ _ l0 true _ ?side1 ?side2 A7.out).mono ?_); (case side1 => repeat (first | exact (Kd.C_below HR0.out HB.out) | (with_reducible refine Kd.C_alloc ?_ _) | (with_reducible refine Kd.C_drewN ?_ _) | (with_reducible refine Kd.C_drew ?_))); (case side2 => exact HC0.out); rintro e w10 ⟨rfl, hb⟩; refine ⟨_, rfl, ?_⟩; have n0_ := Aside0.mk (Kd.R_below (by (with_reducible repeat (first | apply Kd.R_alloc | apply Kd.R_drewN | apply Kd.R_drew)); exact HO127.out) hb); have n1_ := Aside0.mk (below_step (by repeat (first | (with_reducible first | exact HB.out | apply below_alloc | apply pw_below_drewN | apply below_drew1) | exact HB.out)) hb); clear HO127; clear HB; have HO127 := n0_; have HB := n1_; clear n0_ n1_; (try clear hb); (try clear hb2); (try clear hk); (try clear hi)) | (go_at_call 35; (with_reducible refine (spec_l13Slopes.calls a1 a2 t129 _ A9.out).mono ?_); rintro e w' ⟨rfl, ⟨nd, rfl⟩⟩))
   go_meet
   case rel => exact ⟨_, (!t129), (by first | rfl | (simp; done) | (simp [*]; done)), H', ⟨by first | omega | exact Nat.le_refl _⟩, ⟨by (with_reducible repeat (first | apply Kd.R_alloc | apply Kd.R_drewN | apply Kd.R_drew)); exact HO127.out⟩, ⟨by repeat (first | (with_reducible first | exact HB.out | apply below_alloc | apply pw_below_drewN | apply below_drew1) | exact HB.out)⟩⟩
  ·
   replace c8 := Bool.eq_false_iff.mpr c8
   subst c8
   have H1 : (spec_Reach.j0 k l0 a1 a2 y125 true) = some (r1, r2, r3) := by rw [if_neg (show ¬ (false = true) by decide)] at H; exact H
   clear H
   have H := H1
   clear H1
   have H' := Aside0.mk H
   clear H
   go_wp2_with (first | ((with_reducible refine gate_callee (f := 12) rfl ?_); refine goesL_ (some 15) rfl rfl Try.func12 (by kernel_rfl) rfl #[.slice A0 l0.length c0] rfl (by (try simp only [List.map_toArray, List.map_cons, List.map_nil]); first | done | rfl | (simp only [List.length_drop, List.length_take]; rfl)) ?_; (with_reducible refine (spec_PointsOk.calls k _ _ l0 false _ ?side1 ?side2 A7.out).mono ?_); (case side1 => repeat (first | exact (Kd.C_below HR0.out HB.out) | (with_reducible refine Kd.C_alloc ?_ _) | (with_reducible refine Kd.C_drewN ?_ _) | (with_reducible refine Kd.C_drew ?_))); (case side2 => exact HC0.out); rintro e w11 ⟨rfl, hb⟩; refine ⟨_, rfl, ?_⟩; have n0_ := Aside0.mk (Kd.R_below (by (with_reducible repeat (first | apply Kd.R_alloc | apply Kd.R_drewN | apply Kd.R_drew)); exact HO127.out) hb); have n1_ := Aside0.mk (below_step (by repeat (first | (with_reducible first | exact HB.out | apply below_alloc | apply pw_below_drewN | apply below_drew1) | exact HB.out)) hb); clear HO127; clear HB; have HO127 := n0_; have HB := n1_; clear n0_ n1_; (try clear hb); (try clear hb2); (try clear hk); (try clear hi)))
   go_meet
   case rel => exact ⟨_, (true), (by first | rfl | (simp; done) | (simp [*]; done)), H', ⟨by first | omega | exact Nat.le_refl _⟩, ⟨by (with_reducible repeat (first | apply Kd.R_alloc | apply Kd.R_drewN | apply Kd.R_drew)); exact HO127.out⟩, ⟨by repeat (first | (with_reducible first | exact HB.out | apply below_alloc | apply pw_below_drewN | apply below_drew1) | exact HB.out)⟩⟩
 case rest =>
  clear HC4
  try clear c1
  try clear p2
  try clear c8
  obtain ⟨kq, x22_3, rfl, HA, HJ3, HO_9, HB⟩ := hcut
  cases kq with
  | zero => exact absurd HA.out (by simp [spec_Reach.j0])
  | succ kj3 =>
   have H := HA.out
   clear HA
   simp only [spec_Reach.j0] at H
   by_cases c12 : x22_3 = true
   ·
    subst c12
    have H1 : (some (y125, (-1), false)) = some (r1, r2, r3) := by rw [if_pos rfl] at H; exact H
    clear H
    have H := H1
    clear H1
    simp only [Option.some.injEq, Prod.mk.injEq] at H
    obtain ⟨rfl, rfl, rfl⟩ := H
    go_wp2
    go_ret3
    exact ⟨_, by first | rfl | (simp [errW_none, errW_some] <;> rfl) | (simp [*, errW_none, errW_some] <;> rfl), by (with_reducible repeat (first | apply Kd.R_alloc | apply Kd.R_drewN | apply Kd.R_drew)); exact HO_9.out, by repeat (first | (with_reducible first | exact HB.out | apply below_alloc | apply pw_below_drewN | apply below_drew1) | exact HB.out)⟩
   ·
    replace c12 := Bool.eq_false_iff.mpr c12
    subst c12
    have H1 : (spec_Reach.l0 kj3 l0 a1 a2 y125 0) = some (r1, r2, r3) := by rw [if_neg (show ¬ (false = true) by decide)] at H; exact H
    clear H
    have H := H1
    clear H1
    have H' := Aside0.mk H
    clear H
    go_wp2
    go_loopg [9, 10] kj3 (fun kq v9 v10 w' => ∃ (x9_2 : List (S41)) (x10_2 : Int), v10 = .int .i64 x10_2 ∧ Aside0 (spec_Reach.l0 kq l0 a1 a2 x9_2 x10_2 = some (r1, r2, r3)) ∧ Aside0 (kq ≤ kj3) ∧ Aside0 (Kd.R k41 41 w' w.heap.size (fun _ => True) v9 x9_2) ∧ Aside0 (Below w.heap.size w w'))
    case atStart => exact ⟨(y125), (0), (by first | rfl | (simp; done) | (simp [*]; done)), H', ⟨Nat.le_refl _⟩, ⟨by (with_reducible repeat (first | apply Kd.R_alloc | apply Kd.R_drewN | apply Kd.R_drew)); exact HO_9.out⟩, ⟨by repeat (first | (with_reducible first | exact HB.out | apply below_alloc | apply pw_below_drewN | apply below_drew1) | exact HB.out)⟩⟩
    case round =>
     clear H'
     try clear c1
     try clear p2
     try clear c8
     try clear c12
     try clear p2
     obtain ⟨x9_2, x10_2, rfl, HA, HK2, HO_9, HB⟩ := hrel
     cases gk with
     | zero => exact absurd HA.out (by simp [spec_Reach.l0])
     | succ k2 =>
      have H := HA.out
      clear HA
      simp only [spec_Reach.l0] at H
      by_cases c13 : x10_2 < (l0.length : Int)
      ·
       rw [if_pos c13] at H
       have c13b0 : decide (x10_2 < (l0.length : Int)) = true := decide_eq_true c13
       clear c13
       by_cases c14 : 0 ≤ x10_2
       ·
        rw [if_pos c14] at H
        have c14b0 : decide (0 ≤ x10_2) = true := decide_eq_true c14
        clear c14
        by_cases c15 : x10_2 > 0
        ·
         rw [if_pos c15] at H
         have c15b0 : decide (0 < x10_2) = true := decide_eq_true c15
         clear c15
         obtain ⟨ji16, hji16⟩ : ∃ j_ : Int, (wrap64 (x10_2 - 1)) = j_ := ⟨_, rfl⟩
         replace H : (if 0 ≤ (ji16) then (if (ji16) < (l0.length : Int) then (if (ji16) < (x9_2.length : Int) then ((spec_l1Max.f ((rd_T41 l0 x10_2).f1) (wrap64 (((rd_T41 x9_2 (ji16)).f1) - (wrap64 (a2 * (wrap64 (((rd_T41 l0 x10_2).f0) - ((rd_T41 l0 (ji16)).f0)))))))).bind fun t134 => ((spec_l1Min.f ((rd_T41 l0 x10_2).f2) (wrap64 (((rd_T41 x9_2 (ji16)).f2) + (wrap64 (a1 * (wrap64 (((rd_T41 l0 x10_2).f0) - ((rd_T41 l0 (ji16)).f0)))))))).bind fun t136 => (if t134 > t136 then (some (x9_2, x10_2, true)) else (if x9_2.length < 5864062014805 then (spec_Reach.l0 k2 l0 a1 a2 (x9_2 ++ [(⟨(rd_T41 l0 x10_2).f0, t134, t136⟩ : S41)]) (wrap64 (x10_2 + 1))) else (none))))) else (none)) else (none)) else (none)) = some (r1, r2, r3) := by first | (rw [hji16] at H; exact H) | (simp only [hji16] at H ⊢; exact H)
         have hji16w : (IntKind.i64.wrap (x10_2 - 1)) = ji16 := (i64_w _).trans hji16
         by_cases c17 : 0 ≤ (ji16)
         ·
          rw [if_pos c17] at H
          have c17b0 : decide (0 ≤ (ji16)) = true := decide_eq_true c17
          clear c17
          by_cases c18 : (ji16) < (l0.length : Int)
          ·
           rw [if_pos c18] at H
           have c18b0 : decide ((ji16) < (l0.length : Int)) = true := decide_eq_true c18
           clear c18
           by_cases c19 : (ji16) < (x9_2.length : Int)
           ·
            rw [if_pos c19] at H
            have c19b0 : decide ((ji16) < (x9_2.length : Int)) = true := decide_eq_true c19
            clear c19
            replace H := Option.bind_eq_some_iff.mp H
            obtain ⟨t134, A200, H⟩ := H
            replace H : ((spec_l1Min.f ((rd_T41 l0 x10_2).f2) (wrap64 (((rd_T41 x9_2 (ji16)).f2) + (wrap64 (a1 * (wrap64 (((rd_T41 l0 x10_2).f0) - ((rd_T41 l0 (ji16)).f0)))))))).bind fun t136 => (if t134 > t136 then (some (x9_2, x10_2, true)) else (if x9_2.length < 5864062014805 then (spec_Reach.l0 k2 l0 a1 a2 (x9_2 ++ [(⟨(rd_T41 l0 x10_2).f0, t134, t136⟩ : S41)]) (wrap64 (x10_2 + 1))) else (none)))) = some (r1, r2, r3) := H
            have A20 := Aside0.mk A200
            clear A200
            replace H := Option.bind_eq_some_iff.mp H
            obtain ⟨t136, A210, H⟩ := H
            replace H : (if t134 > t136 then (some (x9_2, x10_2, true)) else (if x9_2.length < 5864062014805 then (spec_Reach.l0 k2 l0 a1 a2 (x9_2 ++ [(⟨(rd_T41 l0 x10_2).f0, t134, t136⟩ : S41)]) (wrap64 (x10_2 + 1))) else (none))) = some (r1, r2, r3) := H
            have A21 := Aside0.mk A210
            clear A210
            by_cases c22 : t134 > t136
            ·
             rw [if_pos c22] at H
             have c22b0 : decide (t136 < t134) = true := decide_eq_true c22
             clear c22
             simp only [Option.some.injEq, Prod.mk.injEq] at H
             obtain ⟨rfl, rfl, rfl⟩ := H
             have p130 : 0 ≤ (x10_2 : Int) := of_decide_eq_true (by first | (with_reducible assumption) | assumption)
             have q130 : x10_2 < (l0.length : Int) := of_decide_eq_true (by first | (with_reducible assumption) | assumption)
             obtain ⟨ad130, e130, hx130_0, hx130_1, hx130_2⟩ := at_T41 HR0.out x10_2 p130 q130
             cases e130
             replace hx130_0 := (HB.out.cell (World.block_lt_of_cell? w _ hx130_0)).trans hx130_0
             replace hx130_1 := (HB.out.cell (World.block_lt_of_cell? w _ hx130_1)).trans hx130_1
             replace hx130_2 := (HB.out.cell (World.block_lt_of_cell? w _ hx130_2)).trans hx130_2
             replace p130 := eq_true p130
             replace q130 := eq_true q130
             try go_wp2_with (first | ((with_reducible refine gate_dst (N := 11) rfl ?_); refine box_event ?hg (N := 11) ?hd (cs := #[.int .i64 0, .int .i64 0, .int .i64 0]) (t := 41) ?hr ?_; (case hd => rfl); (case hg => rfl); (case hr => first | (go_simp; done) | (go_simp; rfl)); intro gb131 hg w23 hbox hb; have n0_ := Aside0.mk (Kd.R_below (Kd.R_elderB (by (with_reducible repeat (first | apply Kd.R_alloc | apply Kd.R_drewN | apply Kd.R_drew)); exact HO_9.out) gb131 (Nat.le_of_eq hg.symm)) hb); have n1_ := Aside0.mk (below_step (by repeat (first | (with_reducible first | exact HB.out | apply below_alloc | apply pw_below_drewN | apply below_drew1) | exact HB.out)) hb); have n2_ := Aside0.mk (hbox); have n3_ := Aside0.mk ((by rw [hg]; exact (below_size (by repeat (first | (with_reducible first | exact HB.out | apply below_alloc | apply pw_below_drewN | apply below_drew1) | exact HB.out))) : w.heap.size ≤ gb131)); have n4_ := Aside0.mk ((by rw [hg]; exact (below_size (by repeat (first | (with_reducible first | exact HB.out | apply below_alloc | apply pw_below_drewN | apply below_drew1) | exact HB.out))) : w.heap.size ≤ gb131)); clear HO_9; clear HB; have HO_9 := n0_; have HB := n1_; have BK131 := n2_; have GW131 := n3_; have GE131 := n4_; clear n0_ n1_ n2_ n3_ n4_; clear hb hbox hg; have hcz24_0 : w23.cell? ⟨gb131, 0, none⟩ = some (.int .i64 0) := (blk_cell BK131.out 0).trans rfl; have hcz24_1 : w23.cell? ⟨gb131, 1, none⟩ = some (.int .i64 0) := (blk_cell BK131.out 1).trans rfl; have hcz24_2 : w23.cell? ⟨gb131, 2, none⟩ = some (.int .i64 0) := (blk_cell BK131.out 2).trans rfl; have hfz24_0 := blk_frozen BK131.out 0; have hfz24_1 := blk_frozen BK131.out 1; have hfz24_2 := blk_frozen BK131.out 2))
             have n0_ : Aside0 (Kd.R k41 41 (((w23.setCell ⟨gb131, 0, none⟩ (.int .i64 ((rd_T41 l0 x10_2).f0))).setCell ⟨gb131, 1, none⟩ (.int .i64 ((rd_T41 l0 x10_2).f1))).setCell ⟨gb131, 2, none⟩ (.int .i64 ((rd_T41 l0 x10_2).f2))) w.heap.size (fun k_ => k_ ≠ gb131) u9 x9_2) := ⟨by (with_reducible repeat (first | apply Kd.R_alloc | apply Kd.R_drewN | apply Kd.R_drew)); exact Kd.R_mono (Kd.R_far (p := ⟨gb131, 2, none⟩) (Kd.R_far (p := ⟨gb131, 1, none⟩) (Kd.R_far (p := ⟨gb131, 0, none⟩) (Kd.R_mono HO_9.out (fun k_ hk => (⟨hk, hk.2⟩ : _ ∧ k_ ≠ gb131))) (fun _ hk => hk.2) (.int .i64 ((rd_T41 l0 x10_2).f0))) (fun _ hk => hk.2) (.int .i64 ((rd_T41 l0 x10_2).f1))) (fun _ hk => hk.2) (.int .i64 ((rd_T41 l0 x10_2).f2))) (fun _ hk => hk.1.2)⟩
             have n1_ : Aside0 ((((w23.setCell ⟨gb131, 0, none⟩ (.int .i64 ((rd_T41 l0 x10_2).f0))).setCell ⟨gb131, 1, none⟩ (.int .i64 ((rd_T41 l0 x10_2).f1))).setCell ⟨gb131, 2, none⟩ (.int .i64 ((rd_T41 l0 x10_2).f2))).heap[gb131]? = some (.cells #[.int .i64 ((rd_T41 l0 x10_2).f0), .int .i64 ((rd_T41 l0 x10_2).f1), .int .i64 ((rd_T41 l0 x10_2).f2)] 41 (0, 0))) := ⟨by (with_reducible repeat (first | refine blk_drewN ?_ _ | refine blk_drew ?_ | refine blk_alloc ?_ _)); refine blk_put (cs := #[.int .i64 ((rd_T41 l0 x10_2).f0), .int .i64 ((rd_T41 l0 x10_2).f1), .int .i64 0]) ?_ 2 _ rfl; (with_reducible repeat (first | refine blk_drewN ?_ _ | refine blk_drew ?_ | refine blk_alloc ?_ _)); refine blk_put (cs := #[.int .i64 ((rd_T41 l0 x10_2).f0), .int .i64 0, .int .i64 0]) ?_ 1 _ rfl; (with_reducible repeat (first | refine blk_drewN ?_ _ | refine blk_drew ?_ | refine blk_alloc ?_ _)); refine blk_put (cs := #[.int .i64 0, .int .i64 0, .int .i64 0]) ?_ 0 _ rfl; (with_reducible repeat (first | refine blk_drewN ?_ _ | refine blk_drew ?_ | refine blk_alloc ?_ _)); exact BK131.out⟩
             have n2_ : Aside0 (Below w.heap.size w (((w23.setCell ⟨gb131, 0, none⟩ (.int .i64 ((rd_T41 l0 x10_2).f0))).setCell ⟨gb131, 1, none⟩ (.int .i64 ((rd_T41 l0 x10_2).f1))).setCell ⟨gb131, 2, none⟩ (.int .i64 ((rd_T41 l0 x10_2).f2)))) := ⟨by repeat (first | (with_reducible first | exact HB.out | apply below_alloc | apply pw_below_drewN | apply below_drew1 | refine below_set ?_ GE131.out) | exact HB.out)⟩
             (try (have hsd_ : ∀ (W_ : World) (n_ : Nat) (a_ : Addr) (v_ : Value), (W_.drewN n_).setCell a_ v_ = (W_.setCell a_ v_).drewN n_ := fun _ _ _ _ => rfl); simp only [hsd_]; clear hsd_)
             (try clear HO_9)
             (try clear BK131)
             (try clear HB)
             generalize (((w23.setCell ⟨gb131, 0, none⟩ (.int .i64 ((rd_T41 l0 x10_2).f0))).setCell ⟨gb131, 1, none⟩ (.int .i64 ((rd_T41 l0 x10_2).f1))).setCell ⟨gb131, 2, none⟩ (.int .i64 ((rd_T41 l0 x10_2).f2))) = w25 at n0_ n1_ n2_ ⊢
             have HO_9 := n0_
             have BK131 := n1_
             have HB := n2_
             clear n0_ n1_ n2_
             have n0_ := Aside0.mk (Kd.R_drew HO_9.out)
             have n1_ := Aside0.mk (blk_drew BK131.out)
             have n2_ := Aside0.mk (below_drew1 HB.out)
             clear HO_9
             clear BK131
             clear HB
             have HO_9 := n0_
             have BK131 := n1_
             have HB := n2_
             clear n0_ n1_ n2_
             have p132 : 0 ≤ ((ji16) : Int) := of_decide_eq_true (by first | (with_reducible assumption) | assumption)
             have q132 : (ji16) < (l0.length : Int) := of_decide_eq_true (by first | (with_reducible assumption) | assumption)
             obtain ⟨ad132, e132, hx132_0, hx132_1, hx132_2⟩ := at_T41 HR0.out (ji16) p132 q132
             have hw132_2 := hx132_2
             have hw132_1 := hx132_1
             have hw132_0 := hx132_0
             obtain rfl : ad130 = ad132 := (by injection e132)
             replace hx132_0 := (HB.out.cell (World.block_lt_of_cell? w _ hx132_0)).trans hx132_0
             replace hx132_1 := (HB.out.cell (World.block_lt_of_cell? w _ hx132_1)).trans hx132_1
             replace hx132_2 := (HB.out.cell (World.block_lt_of_cell? w _ hx132_2)).trans hx132_2
             replace p132 := eq_true p132
             replace q132 := eq_true q132
             refine start_ (n := 10) (S := fun w' => w'.cell? ⟨gb131, 0, none⟩ = some (.int .i64 ((rd_T41 l0 x10_2).f0)) ∧ w'.cell? ⟨gb131, 1, none⟩ = some (.int .i64 ((rd_T41 l0 x10_2).f1)) ∧ w'.cell? ⟨gb131, 2, none⟩ = some (.int .i64 ((rd_T41 l0 x10_2).f2)) ∧ w'.cell? (ad130.add (((ji16)).toNat * 3)) = some (.int .i64 ((rd_T41 l0 (ji16)).f0)) ∧ w'.cell? ⟨(ad130.add (((ji16)).toNat * 3)).block, (ad130.add (((ji16)).toNat * 3)).off + 1, none⟩ = some (.int .i64 ((rd_T41 l0 (ji16)).f1)) ∧ w'.cell? ⟨(ad130.add (((ji16)).toNat * 3)).block, (ad130.add (((ji16)).toNat * 3)).off + 2, none⟩ = some (.int .i64 ((rd_T41 l0 (ji16)).f2))) (ds := []) #[f4_, f4_, f4_, f4_, f4_, f4_, f4_, f4_, f4_, f4_] (by kernel_rfl) rfl rfl ⟨(blk_cell BK131.out 0).trans rfl, (blk_cell BK131.out 1).trans rfl, (blk_cell BK131.out 2).trans rfl, ((HB.out.cell (World.block_lt_of_cell? w _ hw132_0)).trans hw132_0), ((HB.out.cell (World.block_lt_of_cell? w _ hw132_1)).trans hw132_1), ((HB.out.cell (World.block_lt_of_cell? w _ hw132_2)).trans hw132_2)⟩ (fun hHeld => ?_); refine with_tabW spec_Reach.tab9 spec_Reach.bits9 (fun HT_ HW_ => ?_)
             generalize w25.drew = w26 at HO_9 BK131 HB hx132_0 hx132_1 hx132_2 hHeld ⊢
             refine pure_ (i := 0) (N := some 36) (v := ?_) (a' := ?_) #[t4_, f4_, f4_, f4_, f4_, f4_, f4_, f4_, f4_, f4_] rfl rfl (any_of HT_.out (by kernel_rfl)) (fun _ _ _ h => h) (Or.inl ⟨by rfl, ?_⟩) ?_ ?_
             rotate_left
             ·
              intro w'
              go_simp
              with_reducible rfl
             rotate_left
             ·
              simp only [Act.put, List.setIfInBounds_toArray, List.set_cons_zero, List.set_cons_succ, i64_w, i32_w]
              rfl
             refine pure_ (i := 2) (N := some 38) (v := ?_) (a' := ?_) #[t4_, f4_, t4_, f4_, f4_, f4_, f4_, f4_, f4_, f4_] rfl rfl (any_of HT_.out (by kernel_rfl)) (fun _ _ _ h => h) (Or.inl ⟨by rfl, ?_⟩) ?_ ?_
             rotate_left
             ·
              intro w'
              go_simp
              with_reducible rfl
             rotate_left
             ·
              simp only [Act.put, List.setIfInBounds_toArray, List.set_cons_zero, List.set_cons_succ, i64_w, i32_w]
              rfl
             refine pure_ (i := 3) (N := some 39) (v := ?_) (a' := ?_) #[t4_, f4_, t4_, t4_, f4_, f4_, f4_, f4_, f4_, f4_] rfl rfl (any_of HT_.out (by kernel_rfl)) (fun _ _ _ h => h) (Or.inl ⟨by rfl, ?_⟩) ?_ ?_
             rotate_left
             ·
              intro w'
              go_simp
              with_reducible rfl
             rotate_left
             ·
              simp only [Act.put, List.setIfInBounds_toArray, List.set_cons_zero, List.set_cons_succ, i64_w, i32_w]
              rfl
             refine pure_ (i := 4) (N := some 40) (v := ?_) (a' := ?_) #[t4_, f4_, t4_, t4_, t4_, f4_, f4_, f4_, f4_, f4_] rfl rfl (any_of HT_.out (by kernel_rfl)) (fun _ _ _ h => h) (Or.inl ⟨by rfl, ?_⟩) ?_ ?_
             rotate_left
             ·
              intro w'
              go_simp
              with_reducible rfl
             rotate_left
             ·
              simp only [Act.put, List.setIfInBounds_toArray, List.set_cons_zero, List.set_cons_succ, i64_w, i32_w]
              rfl
             refine pure_ (i := 5) (N := some 41) (v := ?_) (a' := ?_) #[t4_, f4_, t4_, t4_, t4_, t4_, f4_, f4_, f4_, f4_] rfl rfl (any_of HT_.out (by kernel_rfl)) (fun _ _ _ h => h) (Or.inl ⟨by rfl, ?_⟩) ?_ ?_
             rotate_left
             ·
              intro w'
              go_simp
              with_reducible rfl
             rotate_left
             ·
              simp only [Act.put, List.setIfInBounds_toArray, List.set_cons_zero, List.set_cons_succ, i64_w, i32_w]
              rfl
             refine pure_ (i := 6) (N := some 42) (v := ?_) (a' := ?_) #[t4_, f4_, t4_, t4_, t4_, t4_, t4_, f4_, f4_, f4_] rfl rfl (any_of HT_.out (by kernel_rfl)) (fun _ _ _ h => h) (Or.inl ⟨by rfl, ?_⟩) ?_ ?_
             rotate_left
             ·
              intro w'
              go_simp
              with_reducible rfl
             rotate_left
             ·
              simp only [Act.put, List.setIfInBounds_toArray, List.set_cons_zero, List.set_cons_succ, i64_w, i32_w]
              rfl
             refine take_ (i := 1) (N := some 37) (v := ?_) (a' := ?_) #[t4_, t4_, t4_, t4_, t4_, t4_, t4_, f4_, f4_, f4_] rfl rfl (take_ofW HT_.out HW_.out (by kernel_rfl)) (fun _ _ _ h => h) (Or.inl ⟨by rfl, ?_⟩) hHeld ?_ ?_
             rotate_left
             ·
              rintro w' ⟨s0, s1, s2, s3, s4, s5⟩
              go_simp
              with_reducible rfl
             rotate_left
             ·
              simp only [Act.put, List.setIfInBounds_toArray, List.set_cons_zero, List.set_cons_succ, i64_w, i32_w]
              rfl
             refine take_ (i := 7) (N := some 43) (v := ?_) (a' := ?_) #[t4_, t4_, t4_, t4_, t4_, t4_, t4_, t4_, f4_, f4_] rfl rfl (take_ofW HT_.out HW_.out (by kernel_rfl)) (fun _ _ _ h => h) (Or.inl ⟨by rfl, ?_⟩) hHeld ?_ ?_
             rotate_left
             ·
              rintro w' ⟨s0, s1, s2, s3, s4, s5⟩
              go_simp
              with_reducible rfl
             rotate_left
             ·
              simp only [Act.put, List.setIfInBounds_toArray, List.set_cons_zero, List.set_cons_succ, i64_w, i32_w]
              rfl
             refine pure_ (i := 8) (N := some 44) (v := ?_) (a' := ?_) #[t4_, t4_, t4_, t4_, t4_, t4_, t4_, t4_, t4_, f4_] rfl rfl (any_of HT_.out (by kernel_rfl)) (fun _ _ _ h => h) (Or.inl ⟨by rfl, ?_⟩) ?_ ?_
             rotate_left
             ·
              intro w'
              go_simp
              with_reducible rfl
             rotate_left
             ·
              simp only [Act.put, List.setIfInBounds_toArray, List.set_cons_zero, List.set_cons_succ, i64_w, i32_w]
              rfl
             refine pure_ (i := 9) (N := some 12) (v := ?_) (a' := ?_) #[t4_, t4_, t4_, t4_, t4_, t4_, t4_, t4_, t4_, t4_] rfl rfl (any_of HT_.out (by kernel_rfl)) (fun _ _ _ h => h) (Or.inl ⟨by rfl, ?_⟩) ?_ ?_
             rotate_left
             ·
              intro w'
              go_simp
              with_reducible rfl
             rotate_left
             ·
              simp only [Act.put, List.setIfInBounds_toArray, List.set_cons_zero, List.set_cons_succ, i64_w, i32_w]
              rfl
             refine done_ (done_of HT_.out (by kernel_rfl)) ?_
             try go_wp2
             have n0_ := Aside0.mk (Kd.R_drew HO_9.out)
             have n1_ := Aside0.mk (blk_drew BK131.out)
             have n2_ := Aside0.mk (below_drew1 HB.out)
             clear HO_9
             clear BK131
             clear HB
             have HO_9 := n0_
             have BK131 := n1_
             have HB := n2_
             clear n0_ n1_ n2_
             obtain ⟨Ao28, co28, eo28⟩ := Kd.R_slice HO_9.out
             (first | subst eo28 | (injection eo28 with f1_ f2_ f3_; have f4_ := f1_.symm; have f5_ := f3_.symm; clear f1_ f2_ f3_; subst f4_; subst f5_))
             have p133 : 0 ≤ ((ji16) : Int) := of_decide_eq_true (by first | (with_reducible assumption) | assumption)
             have q133 : (ji16) < (x9_2.length : Int) := of_decide_eq_true (by first | (with_reducible assumption) | assumption)
             obtain ⟨ad133, e133, hx133_0, hx133_1, hx133_2⟩ := at_T41 (Kd.R_reads' HO_9.out).2.2 (ji16) p133 q133
             cases e133
             replace p133 := eq_true p133
             replace q133 := eq_true q133
             refine start_ (n := 15) (S := fun w' => w'.cell? ⟨gb131, 0, none⟩ = some (.int .i64 ((rd_T41 l0 x10_2).f0)) ∧ w'.cell? ⟨gb131, 1, none⟩ = some (.int .i64 ((rd_T41 l0 x10_2).f1)) ∧ w'.cell? ⟨gb131, 2, none⟩ = some (.int .i64 ((rd_T41 l0 x10_2).f2)) ∧ w'.cell? (ad133.add (((ji16)).toNat * 3)) = some (.int .i64 ((rd_T41 x9_2 (ji16)).f0)) ∧ w'.cell? ⟨(ad133.add (((ji16)).toNat * 3)).block, (ad133.add (((ji16)).toNat * 3)).off + 1, none⟩ = some (.int .i64 ((rd_T41 x9_2 (ji16)).f1)) ∧ w'.cell? ⟨(ad133.add (((ji16)).toNat * 3)).block, (ad133.add (((ji16)).toNat * 3)).off + 2, none⟩ = some (.int .i64 ((rd_T41 x9_2 (ji16)).f2))) (ds := [14]) #[f4_, f4_, f4_, f4_, f4_, f4_, f4_, f4_, f4_, f4_, f4_, f4_, f4_, f4_, f4_] (by kernel_rfl) rfl rfl ⟨(blk_cell BK131.out 0).trans rfl, (blk_cell BK131.out 1).trans rfl, (blk_cell BK131.out 2).trans rfl, hx133_0, hx133_1, hx133_2⟩ (fun hHeld => ?_); refine with_tabW spec_Reach.tab10 spec_Reach.bits10 (fun HT_ HW_ => ?_)
             generalize w26.drew = w27 at HO_9 BK131 HB hx133_0 hx133_1 hx133_2 hHeld ⊢
             refine pure_ (i := 0) (N := some 45) (v := ?_) (a' := ?_) #[t4_, f4_, f4_, f4_, f4_, f4_, f4_, f4_, f4_, f4_, f4_, f4_, f4_, f4_, f4_] rfl rfl (any_of HT_.out (by kernel_rfl)) (fun _ _ _ h => h) (Or.inl ⟨by rfl, ?_⟩) ?_ ?_
             rotate_left
             ·
              intro w'
              go_simp
              with_reducible rfl
             rotate_left
             ·
              simp only [Act.put, List.setIfInBounds_toArray, List.set_cons_zero, List.set_cons_succ, i64_w, i32_w]
              rfl
             refine pure_ (i := 2) (N := some 47) (v := ?_) (a' := ?_) #[t4_, f4_, t4_, f4_, f4_, f4_, f4_, f4_, f4_, f4_, f4_, f4_, f4_, f4_, f4_] rfl rfl (any_of HT_.out (by kernel_rfl)) (fun _ _ _ h => h) (Or.inl ⟨by rfl, ?_⟩) ?_ ?_
             rotate_left
             ·
              intro w'
              go_simp
              with_reducible rfl
             rotate_left
             ·
              simp only [Act.put, List.setIfInBounds_toArray, List.set_cons_zero, List.set_cons_succ, i64_w, i32_w]
              rfl
             refine pure_ (i := 3) (N := some 48) (v := ?_) (a' := ?_) #[t4_, f4_, t4_, t4_, f4_, f4_, f4_, f4_, f4_, f4_, f4_, f4_, f4_, f4_, f4_] rfl rfl (any_of HT_.out (by kernel_rfl)) (fun _ _ _ h => h) (Or.inl ⟨by rfl, ?_⟩) ?_ ?_
             rotate_left
             ·
              intro w'
              go_simp
              with_reducible rfl
             rotate_left
             ·
              simp only [Act.put, List.setIfInBounds_toArray, List.set_cons_zero, List.set_cons_succ, i64_w, i32_w]
              rfl
             refine pure_ (i := 4) (N := some 49) (v := ?_) (a' := ?_) #[t4_, f4_, t4_, t4_, t4_, f4_, f4_, f4_, f4_, f4_, f4_, f4_, f4_, f4_, f4_] rfl rfl (any_of HT_.out (by kernel_rfl)) (fun _ _ _ h => h) (Or.inl ⟨by rfl, ?_⟩) ?_ ?_
             rotate_left
             ·
              intro w'
              go_simp
              with_reducible rfl
             rotate_left
             ·
              simp only [Act.put, List.setIfInBounds_toArray, List.set_cons_zero, List.set_cons_succ, i64_w, i32_w]
              rfl
             refine pure_ (i := 5) (N := some 50) (v := ?_) (a' := ?_) #[t4_, f4_, t4_, t4_, t4_, t4_, f4_, f4_, f4_, f4_, f4_, f4_, f4_, f4_, f4_] rfl rfl (any_of HT_.out (by kernel_rfl)) (fun _ _ _ h => h) (Or.inl ⟨by rfl, ?_⟩) ?_ ?_
             rotate_left
             ·
              intro w'
              go_simp
              with_reducible rfl
             rotate_left
             ·
              simp only [Act.put, List.setIfInBounds_toArray, List.set_cons_zero, List.set_cons_succ, i64_w, i32_w]
              rfl
             refine pure_ (i := 6) (N := some 51) (v := ?_) (a' := ?_) #[t4_, f4_, t4_, t4_, t4_, t4_, t4_, f4_, f4_, f4_, f4_, f4_, f4_, f4_, f4_] rfl rfl (any_of HT_.out (by kernel_rfl)) (fun _ _ _ h => h) (Or.inl ⟨by rfl, ?_⟩) ?_ ?_
             rotate_left
             ·
              intro w'
              go_simp
              with_reducible rfl
             rotate_left
             ·
              simp only [Act.put, List.setIfInBounds_toArray, List.set_cons_zero, List.set_cons_succ, i64_w, i32_w]
              rfl
             refine pure_ (i := 8) (N := some 53) (v := ?_) (a' := ?_) #[t4_, f4_, t4_, t4_, t4_, t4_, t4_, f4_, t4_, f4_, f4_, f4_, f4_, f4_, f4_] rfl rfl (any_of HT_.out (by kernel_rfl)) (fun _ _ _ h => h) (Or.inl ⟨by rfl, ?_⟩) ?_ ?_
             rotate_left
             ·
              intro w'
              go_simp
              with_reducible rfl
             rotate_left
             ·
              simp only [Act.put, List.setIfInBounds_toArray, List.set_cons_zero, List.set_cons_succ, i64_w, i32_w]
              rfl
             refine pure_ (i := 9) (N := some 54) (v := ?_) (a' := ?_) #[t4_, f4_, t4_, t4_, t4_, t4_, t4_, f4_, t4_, t4_, f4_, f4_, f4_, f4_, f4_] rfl rfl (any_of HT_.out (by kernel_rfl)) (fun _ _ _ h => h) (Or.inl ⟨by rfl, ?_⟩) ?_ ?_
             rotate_left
             ·
              intro w'
              go_simp
              with_reducible rfl
             rotate_left
             ·
              simp only [Act.put, List.setIfInBounds_toArray, List.set_cons_zero, List.set_cons_succ, i64_w, i32_w]
              rfl
             refine pure_ (i := 10) (N := some 55) (v := ?_) (a' := ?_) #[t4_, f4_, t4_, t4_, t4_, t4_, t4_, f4_, t4_, t4_, t4_, f4_, f4_, f4_, f4_] rfl rfl (any_of HT_.out (by kernel_rfl)) (fun _ _ _ h => h) (Or.inl ⟨by rfl, ?_⟩) ?_ ?_
             rotate_left
             ·
              intro w'
              go_simp
              with_reducible rfl
             rotate_left
             ·
              simp only [Act.put, List.setIfInBounds_toArray, List.set_cons_zero, List.set_cons_succ, i64_w, i32_w]
              rfl
             refine take_ (i := 1) (N := some 46) (v := ?_) (a' := ?_) #[t4_, t4_, t4_, t4_, t4_, t4_, t4_, f4_, t4_, t4_, t4_, f4_, f4_, f4_, f4_] rfl rfl (take_ofW HT_.out HW_.out (by kernel_rfl)) (fun _ _ _ h => h) (Or.inl ⟨by rfl, ?_⟩) hHeld ?_ ?_
             rotate_left
             ·
              rintro w' ⟨s0, s1, s2, s3, s4, s5⟩
              go_simp
              with_reducible rfl
             rotate_left
             ·
              simp only [Act.put, List.setIfInBounds_toArray, List.set_cons_zero, List.set_cons_succ, i64_w, i32_w]
              rfl
             refine take_ (i := 7) (N := some 52) (v := ?_) (a' := ?_) #[t4_, t4_, t4_, t4_, t4_, t4_, t4_, t4_, t4_, t4_, t4_, f4_, f4_, f4_, f4_] rfl rfl (take_ofW HT_.out HW_.out (by kernel_rfl)) (fun _ _ _ h => h) (Or.inl ⟨by rfl, ?_⟩) hHeld ?_ ?_
             rotate_left
             ·
              rintro w' ⟨s0, s1, s2, s3, s4, s5⟩
              go_simp
              with_reducible rfl
             rotate_left
             ·
              simp only [Act.put, List.setIfInBounds_toArray, List.set_cons_zero, List.set_cons_succ, i64_w, i32_w]
              rfl
             refine pure_ (i := 11) (N := some 56) (v := ?_) (a' := ?_) #[t4_, t4_, t4_, t4_, t4_, t4_, t4_, t4_, t4_, t4_, t4_, t4_, f4_, f4_, f4_] rfl rfl (any_of HT_.out (by kernel_rfl)) (fun _ _ _ h => h) (Or.inl ⟨by rfl, ?_⟩) ?_ ?_
             rotate_left
             ·
              intro w'
              go_simp
              with_reducible rfl
             rotate_left
             ·
              simp only [Act.put, List.setIfInBounds_toArray, List.set_cons_zero, List.set_cons_succ, i64_w, i32_w]
              rfl
             refine one_ (i := 12) (N := some 57) #[t4_, t4_, t4_, t4_, t4_, t4_, t4_, t4_, t4_, t4_, t4_, t4_, t4_, f4_, f4_] rfl rfl (one_of HT_.out (by kernel_rfl)) (by decide) (fun K hK => ?_)
             refine goes_ Try.func36 (by kernel_rfl) rfl #[.int .i64 ((rd_T41 l0 x10_2).f1), .int .i64 (wrap64 (((rd_T41 x9_2 (ji16)).f1) - (wrap64 (a2 * (wrap64 (((rd_T41 l0 x10_2).f0) - ((rd_T41 l0 (ji16)).f0)))))))] (by rfl) rfl rfl (by (try simp only [List.map_toArray, List.map_cons, List.map_nil]); first | done | (simp only [hji16]; rfl) | rfl | (simp only [List.length_drop, List.length_take]; rfl)) ?_
             with_reducible refine (spec_l1Max.calls ((rd_T41 l0 x10_2).f1) (wrap64 (((rd_T41 x9_2 (ji16)).f1) - (wrap64 (a2 * (wrap64 (((rd_T41 l0 x10_2).f0) - ((rd_T41 l0 (ji16)).f0))))))) t134 _ A20.out).mono ?_
             rintro e w' ⟨rfl, ⟨nd, rfl⟩⟩
             refine ⟨_, rfl, ?_⟩
             refine hK.out _ _ ⟨(blk_cell BK131.out 0).trans rfl, (blk_cell BK131.out 1).trans rfl, (blk_cell BK131.out 2).trans rfl, hHeld.2.2.2.1, hHeld.2.2.2.2.1, hHeld.2.2.2.2.2⟩ (fun hHeld => ?_)
             clear hK K
             refine norm_ (a' := ?_) ?_ ?_
             rotate_left
             ·
              show Act.put _ (some 57) _ = _
              simp only [Act.put, List.setIfInBounds_toArray, List.set_cons_zero, List.set_cons_succ, i64_w, i32_w]
              rfl
             refine pure_ (i := 13) (N := some 58) (v := ?_) (a' := ?_) #[t4_, t4_, t4_, t4_, t4_, t4_, t4_, t4_, t4_, t4_, t4_, t4_, t4_, t4_, f4_] rfl rfl (any_of HT_.out (by kernel_rfl)) (fun _ _ _ h => h) (Or.inl ⟨by rfl, ?_⟩) ?_ ?_
             rotate_left
             ·
              intro w'
              go_simp
              with_reducible rfl
             rotate_left
             ·
              simp only [Act.put, List.setIfInBounds_toArray, List.set_cons_zero, List.set_cons_succ, i64_w, i32_w]
              rfl
             refine last_ (i := 14) (N := none) #[t4_, t4_, t4_, t4_, t4_, t4_, t4_, t4_, t4_, t4_, t4_, t4_, t4_, t4_, t4_] rfl rfl (one_of HT_.out (by kernel_rfl)) (by decide) (fun K hK => ?_)
             have hs29 : w27.cell? ⟨gb131, 1, none⟩ = some (.int .i64 ((rd_T41 l0 x10_2).f1)) := (blk_cell BK131.out 1).trans rfl
             have hfs29 := blk_frozen BK131.out 1
             refine skip_ (w1 := ?_) (by rfl) rfl ?_ ?_
             rotate_left
             ·
              go_simp
              rfl
             refine hK.out _ _ ?_
             clear hK K
             refine done_ (done_of HT_.out (by kernel_rfl)) ?_
             try go_wp2
             have n0_ : Aside0 (Kd.R k41 41 (w27.setCell ⟨gb131, 1, none⟩ (.int .i64 t134)) w.heap.size (fun k_ => k_ ≠ gb131) (.slice (some ad133) x9_2.length co28) x9_2) := ⟨by (with_reducible repeat (first | apply Kd.R_alloc | apply Kd.R_drewN | apply Kd.R_drew)); exact Kd.R_mono (Kd.R_far (p := ⟨gb131, 1, none⟩) (Kd.R_mono HO_9.out (fun k_ hk => (⟨hk, hk⟩ : _ ∧ k_ ≠ gb131))) (fun _ hk => hk.2) (.int .i64 t134)) (fun _ hk => hk.1)⟩
             have n1_ : Aside0 ((w27.setCell ⟨gb131, 1, none⟩ (.int .i64 t134)).heap[gb131]? = some (.cells #[.int .i64 ((rd_T41 l0 x10_2).f0), .int .i64 t134, .int .i64 ((rd_T41 l0 x10_2).f2)] 41 (0, 0))) := ⟨by (with_reducible repeat (first | refine blk_drewN ?_ _ | refine blk_drew ?_ | refine blk_alloc ?_ _)); refine blk_put (cs := #[.int .i64 ((rd_T41 l0 x10_2).f0), .int .i64 ((rd_T41 l0 x10_2).f1), .int .i64 ((rd_T41 l0 x10_2).f2)]) ?_ 1 _ rfl; (with_reducible repeat (first | refine blk_drewN ?_ _ | refine blk_drew ?_ | refine blk_alloc ?_ _)); exact BK131.out⟩
             have n2_ : Aside0 (Below w.heap.size w (w27.setCell ⟨gb131, 1, none⟩ (.int .i64 t134))) := ⟨by repeat (first | (with_reducible first | exact HB.out | apply below_alloc | apply pw_below_drewN | apply below_drew1 | refine below_set ?_ GE131.out) | exact HB.out)⟩
             (try (have hsd_ : ∀ (W_ : World) (n_ : Nat) (a_ : Addr) (v_ : Value), (W_.drewN n_).setCell a_ v_ = (W_.setCell a_ v_).drewN n_ := fun _ _ _ _ => rfl); simp only [hsd_]; clear hsd_)
             (try clear HO_9)
             (try clear BK131)
             (try clear HB)
             generalize (w27.setCell ⟨gb131, 1, none⟩ (.int .i64 t134)) = w30 at n0_ n1_ n2_ ⊢
             have HO_9 := n0_
             have BK131 := n1_
             have HB := n2_
             clear n0_ n1_ n2_
             (try (rw [drewN_self w30]; generalize hq_ : World.drewN w30 _ = w30; have n0_ : Aside0 (Kd.R k41 41 w30 w.heap.size (fun k_ => k_ ≠ gb131) (.slice (some ad133) x9_2.length co28) x9_2) := ⟨by rw [← hq_]; exact (by (with_reducible repeat (first | apply Kd.R_alloc | apply Kd.R_drewN | apply Kd.R_drew)); exact HO_9.out)⟩; have n1_ : Aside0 (w30.heap[gb131]? = some (.cells #[.int .i64 ((rd_T41 l0 x10_2).f0), .int .i64 t134, .int .i64 ((rd_T41 l0 x10_2).f2)] 41 (0, 0))) := ⟨by rw [← hq_]; exact (by (with_reducible repeat (first | refine blk_drewN ?_ _ | refine blk_drew ?_ | refine blk_alloc ?_ _)); exact BK131.out)⟩; have n2_ : Aside0 (Below w.heap.size w w30) := ⟨by rw [← hq_]; exact (by repeat (first | (with_reducible first | exact HB.out | apply below_alloc | apply pw_below_drewN | apply below_drew1 | refine below_set ?_ GE131.out) | exact HB.out))⟩; clear HO_9 BK131 HB hq_; have HO_9 := n0_; have BK131 := n1_; have HB := n2_; clear n0_ n1_ n2_))
             (try have hfu131_0 := blk_frozen BK131.out 0); (try have hcu131_0 := (blk_cell BK131.out 0).trans rfl)
             (try have hfu131_1 := blk_frozen BK131.out 1); (try have hcu131_1 := (blk_cell BK131.out 1).trans rfl)
             (try have hfu131_2 := blk_frozen BK131.out 2); (try have hcu131_2 := (blk_cell BK131.out 2).trans rfl)
             have n0_ := Aside0.mk (Kd.R_drew HO_9.out)
             have n1_ := Aside0.mk (blk_drew BK131.out)
             have n2_ := Aside0.mk (below_drew1 HB.out)
             clear HO_9
             clear BK131
             clear HB
             have HO_9 := n0_
             have BK131 := n1_
             have HB := n2_
             clear n0_ n1_ n2_
             have p135 : 0 ≤ ((ji16) : Int) := of_decide_eq_true (by first | (with_reducible assumption) | assumption)
             have q135 : (ji16) < (x9_2.length : Int) := of_decide_eq_true (by first | (with_reducible assumption) | assumption)
             obtain ⟨ad135, e135, hx135_0, hx135_1, hx135_2⟩ := at_T41 (Kd.R_reads' HO_9.out).2.2 (ji16) p135 q135
             obtain rfl : ad133 = ad135 := (by injection e135)
             replace p135 := eq_true p135
             replace q135 := eq_true q135
             refine start_ (n := 15) (S := fun w' => w'.cell? ⟨gb131, 0, none⟩ = some (.int .i64 ((rd_T41 l0 x10_2).f0)) ∧ w'.cell? ⟨gb131, 1, none⟩ = some (.int .i64 t134) ∧ w'.cell? ⟨gb131, 2, none⟩ = some (.int .i64 ((rd_T41 l0 x10_2).f2)) ∧ w'.cell? (ad133.add (((ji16)).toNat * 3)) = some (.int .i64 ((rd_T41 x9_2 (ji16)).f0)) ∧ w'.cell? ⟨(ad133.add (((ji16)).toNat * 3)).block, (ad133.add (((ji16)).toNat * 3)).off + 1, none⟩ = some (.int .i64 ((rd_T41 x9_2 (ji16)).f1)) ∧ w'.cell? ⟨(ad133.add (((ji16)).toNat * 3)).block, (ad133.add (((ji16)).toNat * 3)).off + 2, none⟩ = some (.int .i64 ((rd_T41 x9_2 (ji16)).f2))) (ds := [14]) #[f4_, f4_, f4_, f4_, f4_, f4_, f4_, f4_, f4_, f4_, f4_, f4_, f4_, f4_, f4_] (by kernel_rfl) rfl rfl ⟨(blk_cell BK131.out 0).trans rfl, (blk_cell BK131.out 1).trans rfl, (blk_cell BK131.out 2).trans rfl, hx135_0, hx135_1, hx135_2⟩ (fun hHeld => ?_); refine with_tabW spec_Reach.tab11 spec_Reach.bits11 (fun HT_ HW_ => ?_)
             generalize w30.drew = w31 at HO_9 BK131 HB hx135_0 hx135_1 hx135_2 hHeld ⊢
             refine pure_ (i := 0) (N := some 59) (v := ?_) (a' := ?_) #[t4_, f4_, f4_, f4_, f4_, f4_, f4_, f4_, f4_, f4_, f4_, f4_, f4_, f4_, f4_] rfl rfl (any_of HT_.out (by kernel_rfl)) (fun _ _ _ h => h) (Or.inl ⟨by rfl, ?_⟩) ?_ ?_
             rotate_left
             ·
              intro w'
              go_simp
              with_reducible rfl
             rotate_left
             ·
              simp only [Act.put, List.setIfInBounds_toArray, List.set_cons_zero, List.set_cons_succ, i64_w, i32_w]
              rfl
             refine pure_ (i := 2) (N := some 61) (v := ?_) (a' := ?_) #[t4_, f4_, t4_, f4_, f4_, f4_, f4_, f4_, f4_, f4_, f4_, f4_, f4_, f4_, f4_] rfl rfl (any_of HT_.out (by kernel_rfl)) (fun _ _ _ h => h) (Or.inl ⟨by rfl, ?_⟩) ?_ ?_
             rotate_left
             ·
              intro w'
              go_simp
              with_reducible rfl
             rotate_left
             ·
              simp only [Act.put, List.setIfInBounds_toArray, List.set_cons_zero, List.set_cons_succ, i64_w, i32_w]
              rfl
             refine pure_ (i := 3) (N := some 62) (v := ?_) (a' := ?_) #[t4_, f4_, t4_, t4_, f4_, f4_, f4_, f4_, f4_, f4_, f4_, f4_, f4_, f4_, f4_] rfl rfl (any_of HT_.out (by kernel_rfl)) (fun _ _ _ h => h) (Or.inl ⟨by rfl, ?_⟩) ?_ ?_
             rotate_left
             ·
              intro w'
              go_simp
              with_reducible rfl
             rotate_left
             ·
              simp only [Act.put, List.setIfInBounds_toArray, List.set_cons_zero, List.set_cons_succ, i64_w, i32_w]
              rfl
             refine pure_ (i := 4) (N := some 63) (v := ?_) (a' := ?_) #[t4_, f4_, t4_, t4_, t4_, f4_, f4_, f4_, f4_, f4_, f4_, f4_, f4_, f4_, f4_] rfl rfl (any_of HT_.out (by kernel_rfl)) (fun _ _ _ h => h) (Or.inl ⟨by rfl, ?_⟩) ?_ ?_
             rotate_left
             ·
              intro w'
              go_simp
              with_reducible rfl
             rotate_left
             ·
              simp only [Act.put, List.setIfInBounds_toArray, List.set_cons_zero, List.set_cons_succ, i64_w, i32_w]
              rfl
             refine pure_ (i := 5) (N := some 64) (v := ?_) (a' := ?_) #[t4_, f4_, t4_, t4_, t4_, t4_, f4_, f4_, f4_, f4_, f4_, f4_, f4_, f4_, f4_] rfl rfl (any_of HT_.out (by kernel_rfl)) (fun _ _ _ h => h) (Or.inl ⟨by rfl, ?_⟩) ?_ ?_
             rotate_left
             ·
              intro w'
              go_simp
              with_reducible rfl
             rotate_left
             ·
              simp only [Act.put, List.setIfInBounds_toArray, List.set_cons_zero, List.set_cons_succ, i64_w, i32_w]
              rfl
             refine pure_ (i := 6) (N := some 65) (v := ?_) (a' := ?_) #[t4_, f4_, t4_, t4_, t4_, t4_, t4_, f4_, f4_, f4_, f4_, f4_, f4_, f4_, f4_] rfl rfl (any_of HT_.out (by kernel_rfl)) (fun _ _ _ h => h) (Or.inl ⟨by rfl, ?_⟩) ?_ ?_
             rotate_left
             ·
              intro w'
              go_simp
              with_reducible rfl
             rotate_left
             ·
              simp only [Act.put, List.setIfInBounds_toArray, List.set_cons_zero, List.set_cons_succ, i64_w, i32_w]
              rfl
             refine pure_ (i := 8) (N := some 67) (v := ?_) (a' := ?_) #[t4_, f4_, t4_, t4_, t4_, t4_, t4_, f4_, t4_, f4_, f4_, f4_, f4_, f4_, f4_] rfl rfl (any_of HT_.out (by kernel_rfl)) (fun _ _ _ h => h) (Or.inl ⟨by rfl, ?_⟩) ?_ ?_
             rotate_left
             ·
              intro w'
              go_simp
              with_reducible rfl
             rotate_left
             ·
              simp only [Act.put, List.setIfInBounds_toArray, List.set_cons_zero, List.set_cons_succ, i64_w, i32_w]
              rfl
             refine pure_ (i := 9) (N := some 68) (v := ?_) (a' := ?_) #[t4_, f4_, t4_, t4_, t4_, t4_, t4_, f4_, t4_, t4_, f4_, f4_, f4_, f4_, f4_] rfl rfl (any_of HT_.out (by kernel_rfl)) (fun _ _ _ h => h) (Or.inl ⟨by rfl, ?_⟩) ?_ ?_
             rotate_left
             ·
              intro w'
              go_simp
              with_reducible rfl
             rotate_left
             ·
              simp only [Act.put, List.setIfInBounds_toArray, List.set_cons_zero, List.set_cons_succ, i64_w, i32_w]
              rfl
             refine pure_ (i := 10) (N := some 69) (v := ?_) (a' := ?_) #[t4_, f4_, t4_, t4_, t4_, t4_, t4_, f4_, t4_, t4_, t4_, f4_, f4_, f4_, f4_] rfl rfl (any_of HT_.out (by kernel_rfl)) (fun _ _ _ h => h) (Or.inl ⟨by rfl, ?_⟩) ?_ ?_
             rotate_left
             ·
              intro w'
              go_simp
              with_reducible rfl
             rotate_left
             ·
              simp only [Act.put, List.setIfInBounds_toArray, List.set_cons_zero, List.set_cons_succ, i64_w, i32_w]
              rfl
             refine take_ (i := 1) (N := some 60) (v := ?_) (a' := ?_) #[t4_, t4_, t4_, t4_, t4_, t4_, t4_, f4_, t4_, t4_, t4_, f4_, f4_, f4_, f4_] rfl rfl (take_ofW HT_.out HW_.out (by kernel_rfl)) (fun _ _ _ h => h) (Or.inl ⟨by rfl, ?_⟩) hHeld ?_ ?_
             rotate_left
             ·
              rintro w' ⟨s0, s1, s2, s3, s4, s5⟩
              go_simp
              with_reducible rfl
             rotate_left
             ·
              simp only [Act.put, List.setIfInBounds_toArray, List.set_cons_zero, List.set_cons_succ, i64_w, i32_w]
              rfl
             refine take_ (i := 7) (N := some 66) (v := ?_) (a' := ?_) #[t4_, t4_, t4_, t4_, t4_, t4_, t4_, t4_, t4_, t4_, t4_, f4_, f4_, f4_, f4_] rfl rfl (take_ofW HT_.out HW_.out (by kernel_rfl)) (fun _ _ _ h => h) (Or.inl ⟨by rfl, ?_⟩) hHeld ?_ ?_
             rotate_left
             ·
              rintro w' ⟨s0, s1, s2, s3, s4, s5⟩
              go_simp
              with_reducible rfl
             rotate_left
             ·
              simp only [Act.put, List.setIfInBounds_toArray, List.set_cons_zero, List.set_cons_succ, i64_w, i32_w]
              rfl
             refine pure_ (i := 11) (N := some 70) (v := ?_) (a' := ?_) #[t4_, t4_, t4_, t4_, t4_, t4_, t4_, t4_, t4_, t4_, t4_, t4_, f4_, f4_, f4_] rfl rfl (any_of HT_.out (by kernel_rfl)) (fun _ _ _ h => h) (Or.inl ⟨by rfl, ?_⟩) ?_ ?_
             rotate_left
             ·
              intro w'
              go_simp
              with_reducible rfl
             rotate_left
             ·
              simp only [Act.put, List.setIfInBounds_toArray, List.set_cons_zero, List.set_cons_succ, i64_w, i32_w]
              rfl
             refine one_ (i := 12) (N := some 71) #[t4_, t4_, t4_, t4_, t4_, t4_, t4_, t4_, t4_, t4_, t4_, t4_, t4_, f4_, f4_] rfl rfl (one_of HT_.out (by kernel_rfl)) (by decide) (fun K hK => ?_)
             refine goes_ Try.func37 (by kernel_rfl) rfl #[.int .i64 ((rd_T41 l0 x10_2).f2), .int .i64 (wrap64 (((rd_T41 x9_2 (ji16)).f2) + (wrap64 (a1 * (wrap64 (((rd_T41 l0 x10_2).f0) - ((rd_T41 l0 (ji16)).f0)))))))] (by rfl) rfl rfl (by (try simp only [List.map_toArray, List.map_cons, List.map_nil]); first | done | (simp only [hji16]; rfl) | rfl | (simp only [List.length_drop, List.length_take]; rfl)) ?_
             with_reducible refine (spec_l1Min.calls ((rd_T41 l0 x10_2).f2) (wrap64 (((rd_T41 x9_2 (ji16)).f2) + (wrap64 (a1 * (wrap64 (((rd_T41 l0 x10_2).f0) - ((rd_T41 l0 (ji16)).f0))))))) t136 _ A21.out).mono ?_
             rintro e w' ⟨rfl, ⟨nd, rfl⟩⟩
             refine ⟨_, rfl, ?_⟩
             refine hK.out _ _ ⟨(blk_cell BK131.out 0).trans rfl, (blk_cell BK131.out 1).trans rfl, (blk_cell BK131.out 2).trans rfl, hHeld.2.2.2.1, hHeld.2.2.2.2.1, hHeld.2.2.2.2.2⟩ (fun hHeld => ?_)
             clear hK K
             refine norm_ (a' := ?_) ?_ ?_
             rotate_left
             ·
              show Act.put _ (some 71) _ = _
              simp only [Act.put, List.setIfInBounds_toArray, List.set_cons_zero, List.set_cons_succ, i64_w, i32_w]
              rfl
             refine pure_ (i := 13) (N := some 72) (v := ?_) (a' := ?_) #[t4_, t4_, t4_, t4_, t4_, t4_, t4_, t4_, t4_, t4_, t4_, t4_, t4_, t4_, f4_] rfl rfl (any_of HT_.out (by kernel_rfl)) (fun _ _ _ h => h) (Or.inl ⟨by rfl, ?_⟩) ?_ ?_
             rotate_left
             ·
              intro w'
              go_simp
              with_reducible rfl
             rotate_left
             ·
              simp only [Act.put, List.setIfInBounds_toArray, List.set_cons_zero, List.set_cons_succ, i64_w, i32_w]
              rfl
             refine last_ (i := 14) (N := none) #[t4_, t4_, t4_, t4_, t4_, t4_, t4_, t4_, t4_, t4_, t4_, t4_, t4_, t4_, t4_] rfl rfl (one_of HT_.out (by kernel_rfl)) (by decide) (fun K hK => ?_)
             have hs32 : w31.cell? ⟨gb131, 2, none⟩ = some (.int .i64 ((rd_T41 l0 x10_2).f2)) := (blk_cell BK131.out 2).trans rfl
             have hfs32 := blk_frozen BK131.out 2
             refine skip_ (w1 := ?_) (by rfl) rfl ?_ ?_
             rotate_left
             ·
              go_simp
              rfl
             refine hK.out _ _ ?_
             clear hK K
             refine done_ (done_of HT_.out (by kernel_rfl)) ?_
             have hcz33_0 : w31.cell? ⟨gb131, 0, none⟩ = some (.int .i64 ((rd_T41 l0 x10_2).f0)) := (blk_cell BK131.out 0).trans rfl
             have hcz33_1 : w31.cell? ⟨gb131, 1, none⟩ = some (.int .i64 t134) := (blk_cell BK131.out 1).trans rfl
             have hcz33_2 : w31.cell? ⟨gb131, 2, none⟩ = some (.int .i64 ((rd_T41 l0 x10_2).f2)) := (blk_cell BK131.out 2).trans rfl
             have hfz33_0 := blk_frozen BK131.out 0
             have hfz33_1 := blk_frozen BK131.out 1
             have hfz33_2 := blk_frozen BK131.out 2
             try go_wp2
             go_ret3
             exact ⟨_, by first | rfl | (simp [errW_none, errW_some] <;> rfl) | (simp only [← hji16]; first | rfl | (simp [errW_none, errW_some] <;> rfl)) | (simp [*, errW_none, errW_some] <;> rfl), by (with_reducible repeat (first | apply Kd.R_alloc | apply Kd.R_drewN | apply Kd.R_drew)); exact Kd.R_mono (Kd.R_far (p := ⟨gb131, 2, none⟩) (Kd.R_mono HO_9.out (fun k_ hk => (⟨hk, hk⟩ : _ ∧ k_ ≠ gb131))) (fun _ hk => hk.2) (.int .i64 t136)) (fun _ hk => trivial), by repeat (first | (with_reducible first | exact HB.out | apply below_alloc | apply pw_below_drewN | apply below_drew1 | refine below_set ?_ GE131.out) | exact HB.out)⟩
            ·
             rw [if_neg c22] at H
             have c22b0 : decide (t136 < t134) = false := decide_eq_false c22
             clear c22
             by_cases c34 : x9_2.length < 5864062014805
             ·
              rw [if_pos c34] at H
              have LMc34 := Aside0.mk c34
              clear c34
              obtain ⟨y137, hy137⟩ : ∃ y_ : List (S41), y_ = (x9_2 ++ [(⟨(rd_T41 l0 x10_2).f0, t134, t136⟩ : S41)]) := ⟨_, rfl⟩
              replace H : (spec_Reach.l0 k2 l0 a1 a2 y137 (wrap64 (x10_2 + 1))) = some (r1, r2, r3) := by first | (rw [hy137]; with_reducible exact H) | (have H2_ := (Option.bind_some _ _).symm.trans H; rw [hy137]; with_reducible exact H2_) | (have H2_ := (Option.bind_some _ _).symm.trans H; with_reducible exact H2_) | with_reducible exact H | (rw [hy137]; exact H) | exact H
              have Ny137 := Aside0.mk hy137
              clear hy137
              have H' := Aside0.mk H
              clear H
              have p130 : 0 ≤ (x10_2 : Int) := of_decide_eq_true (by first | (with_reducible assumption) | assumption)
              have q130 : x10_2 < (l0.length : Int) := of_decide_eq_true (by first | (with_reducible assumption) | assumption)
              obtain ⟨ad130, e130, hx130_0, hx130_1, hx130_2⟩ := at_T41 HR0.out x10_2 p130 q130
              cases e130
              replace hx130_0 := (HB.out.cell (World.block_lt_of_cell? w _ hx130_0)).trans hx130_0
              replace hx130_1 := (HB.out.cell (World.block_lt_of_cell? w _ hx130_1)).trans hx130_1
              replace hx130_2 := (HB.out.cell (World.block_lt_of_cell? w _ hx130_2)).trans hx130_2
              replace p130 := eq_true p130
              replace q130 := eq_true q130
              try go_wp2_with (first | ((with_reducible refine gate_dst (N := 11) rfl ?_); refine box_event ?hg (N := 11) ?hd (cs := #[.int .i64 0, .int .i64 0, .int .i64 0]) (t := 41) ?hr ?_; (case hd => rfl); (case hg => rfl); (case hr => first | (go_simp; done) | (go_simp; rfl)); intro gb131 hg w35 hbox hb; have n0_ := Aside0.mk (Kd.R_below (Kd.R_elderB (by (with_reducible repeat (first | apply Kd.R_alloc | apply Kd.R_drewN | apply Kd.R_drew)); exact HO_9.out) gb131 (Nat.le_of_eq hg.symm)) hb); have n1_ := Aside0.mk (below_step (by repeat (first | (with_reducible first | exact HB.out | apply below_alloc | apply pw_below_drewN | apply below_drew1) | exact HB.out)) hb); have n2_ := Aside0.mk (hbox); have n3_ := Aside0.mk ((by rw [hg]; exact (below_size (by repeat (first | (with_reducible first | exact HB.out | apply below_alloc | apply pw_below_drewN | apply below_drew1) | exact HB.out))) : w.heap.size ≤ gb131)); have n4_ := Aside0.mk ((by rw [hg]; exact (below_size (by repeat (first | (with_reducible first | exact HB.out | apply below_alloc | apply pw_below_drewN | apply below_drew1) | exact HB.out))) : w.heap.size ≤ gb131)); clear HO_9; clear HB; have HO_9 := n0_; have HB := n1_; have BK131 := n2_; have GW131 := n3_; have GE131 := n4_; clear n0_ n1_ n2_ n3_ n4_; clear hb hbox hg; have hcz36_0 : w35.cell? ⟨gb131, 0, none⟩ = some (.int .i64 0) := (blk_cell BK131.out 0).trans rfl; have hcz36_1 : w35.cell? ⟨gb131, 1, none⟩ = some (.int .i64 0) := (blk_cell BK131.out 1).trans rfl; have hcz36_2 : w35.cell? ⟨gb131, 2, none⟩ = some (.int .i64 0) := (blk_cell BK131.out 2).trans rfl; have hfz36_0 := blk_frozen BK131.out 0; have hfz36_1 := blk_frozen BK131.out 1; have hfz36_2 := blk_frozen BK131.out 2))
              have n0_ : Aside0 (Kd.R k41 41 (((w35.setCell ⟨gb131, 0, none⟩ (.int .i64 ((rd_T41 l0 x10_2).f0))).setCell ⟨gb131, 1, none⟩ (.int .i64 ((rd_T41 l0 x10_2).f1))).setCell ⟨gb131, 2, none⟩ (.int .i64 ((rd_T41 l0 x10_2).f2))) w.heap.size (fun k_ => k_ ≠ gb131) u9 x9_2) := ⟨by (with_reducible repeat (first | apply Kd.R_alloc | apply Kd.R_drewN | apply Kd.R_drew)); exact Kd.R_mono (Kd.R_far (p := ⟨gb131, 2, none⟩) (Kd.R_far (p := ⟨gb131, 1, none⟩) (Kd.R_far (p := ⟨gb131, 0, none⟩) (Kd.R_mono HO_9.out (fun k_ hk => (⟨hk, hk.2⟩ : _ ∧ k_ ≠ gb131))) (fun _ hk => hk.2) (.int .i64 ((rd_T41 l0 x10_2).f0))) (fun _ hk => hk.2) (.int .i64 ((rd_T41 l0 x10_2).f1))) (fun _ hk => hk.2) (.int .i64 ((rd_T41 l0 x10_2).f2))) (fun _ hk => hk.1.2)⟩
              have n1_ : Aside0 ((((w35.setCell ⟨gb131, 0, none⟩ (.int .i64 ((rd_T41 l0 x10_2).f0))).setCell ⟨gb131, 1, none⟩ (.int .i64 ((rd_T41 l0 x10_2).f1))).setCell ⟨gb131, 2, none⟩ (.int .i64 ((rd_T41 l0 x10_2).f2))).heap[gb131]? = some (.cells #[.int .i64 ((rd_T41 l0 x10_2).f0), .int .i64 ((rd_T41 l0 x10_2).f1), .int .i64 ((rd_T41 l0 x10_2).f2)] 41 (0, 0))) := ⟨by (with_reducible repeat (first | refine blk_drewN ?_ _ | refine blk_drew ?_ | refine blk_alloc ?_ _)); refine blk_put (cs := #[.int .i64 ((rd_T41 l0 x10_2).f0), .int .i64 ((rd_T41 l0 x10_2).f1), .int .i64 0]) ?_ 2 _ rfl; (with_reducible repeat (first | refine blk_drewN ?_ _ | refine blk_drew ?_ | refine blk_alloc ?_ _)); refine blk_put (cs := #[.int .i64 ((rd_T41 l0 x10_2).f0), .int .i64 0, .int .i64 0]) ?_ 1 _ rfl; (with_reducible repeat (first | refine blk_drewN ?_ _ | refine blk_drew ?_ | refine blk_alloc ?_ _)); refine blk_put (cs := #[.int .i64 0, .int .i64 0, .int .i64 0]) ?_ 0 _ rfl; (with_reducible repeat (first | refine blk_drewN ?_ _ | refine blk_drew ?_ | refine blk_alloc ?_ _)); exact BK131.out⟩
              have n2_ : Aside0 (Below w.heap.size w (((w35.setCell ⟨gb131, 0, none⟩ (.int .i64 ((rd_T41 l0 x10_2).f0))).setCell ⟨gb131, 1, none⟩ (.int .i64 ((rd_T41 l0 x10_2).f1))).setCell ⟨gb131, 2, none⟩ (.int .i64 ((rd_T41 l0 x10_2).f2)))) := ⟨by repeat (first | (with_reducible first | exact HB.out | apply below_alloc | apply pw_below_drewN | apply below_drew1 | refine below_set ?_ GE131.out) | exact HB.out)⟩
              (try (have hsd_ : ∀ (W_ : World) (n_ : Nat) (a_ : Addr) (v_ : Value), (W_.drewN n_).setCell a_ v_ = (W_.setCell a_ v_).drewN n_ := fun _ _ _ _ => rfl); simp only [hsd_]; clear hsd_)
              (try clear HO_9)
              (try clear BK131)
              (try clear HB)
              generalize (((w35.setCell ⟨gb131, 0, none⟩ (.int .i64 ((rd_T41 l0 x10_2).f0))).setCell ⟨gb131, 1, none⟩ (.int .i64 ((rd_T41 l0 x10_2).f1))).setCell ⟨gb131, 2, none⟩ (.int .i64 ((rd_T41 l0 x10_2).f2))) = w37 at n0_ n1_ n2_ ⊢
              have HO_9 := n0_
              have BK131 := n1_
              have HB := n2_
              clear n0_ n1_ n2_
              have n0_ := Aside0.mk (Kd.R_drew HO_9.out)
              have n1_ := Aside0.mk (blk_drew BK131.out)
              have n2_ := Aside0.mk (below_drew1 HB.out)
              clear HO_9
              clear BK131
              clear HB
              have HO_9 := n0_
              have BK131 := n1_
              have HB := n2_
              clear n0_ n1_ n2_
              have p132 : 0 ≤ ((ji16) : Int) := of_decide_eq_true (by first | (with_reducible assumption) | assumption)
              have q132 : (ji16) < (l0.length : Int) := of_decide_eq_true (by first | (with_reducible assumption) | assumption)
              obtain ⟨ad132, e132, hx132_0, hx132_1, hx132_2⟩ := at_T41 HR0.out (ji16) p132 q132
              have hw132_2 := hx132_2
              have hw132_1 := hx132_1
              have hw132_0 := hx132_0
              obtain rfl : ad130 = ad132 := (by injection e132)
              replace hx132_0 := (HB.out.cell (World.block_lt_of_cell? w _ hx132_0)).trans hx132_0
              replace hx132_1 := (HB.out.cell (World.block_lt_of_cell? w _ hx132_1)).trans hx132_1
              replace hx132_2 := (HB.out.cell (World.block_lt_of_cell? w _ hx132_2)).trans hx132_2
              replace p132 := eq_true p132
              replace q132 := eq_true q132
              refine start_ (n := 10) (S := fun w' => w'.cell? ⟨gb131, 0, none⟩ = some (.int .i64 ((rd_T41 l0 x10_2).f0)) ∧ w'.cell? ⟨gb131, 1, none⟩ = some (.int .i64 ((rd_T41 l0 x10_2).f1)) ∧ w'.cell? ⟨gb131, 2, none⟩ = some (.int .i64 ((rd_T41 l0 x10_2).f2)) ∧ w'.cell? (ad130.add (((ji16)).toNat * 3)) = some (.int .i64 ((rd_T41 l0 (ji16)).f0)) ∧ w'.cell? ⟨(ad130.add (((ji16)).toNat * 3)).block, (ad130.add (((ji16)).toNat * 3)).off + 1, none⟩ = some (.int .i64 ((rd_T41 l0 (ji16)).f1)) ∧ w'.cell? ⟨(ad130.add (((ji16)).toNat * 3)).block, (ad130.add (((ji16)).toNat * 3)).off + 2, none⟩ = some (.int .i64 ((rd_T41 l0 (ji16)).f2))) (ds := []) #[f4_, f4_, f4_, f4_, f4_, f4_, f4_, f4_, f4_, f4_] (by kernel_rfl) rfl rfl ⟨(blk_cell BK131.out 0).trans rfl, (blk_cell BK131.out 1).trans rfl, (blk_cell BK131.out 2).trans rfl, ((HB.out.cell (World.block_lt_of_cell? w _ hw132_0)).trans hw132_0), ((HB.out.cell (World.block_lt_of_cell? w _ hw132_1)).trans hw132_1), ((HB.out.cell (World.block_lt_of_cell? w _ hw132_2)).trans hw132_2)⟩ (fun hHeld => ?_); refine with_tabW spec_Reach.tab9 spec_Reach.bits9 (fun HT_ HW_ => ?_)
              generalize w37.drew = w38 at HO_9 BK131 HB hx132_0 hx132_1 hx132_2 hHeld ⊢
              refine pure_ (i := 0) (N := some 36) (v := ?_) (a' := ?_) #[t4_, f4_, f4_, f4_, f4_, f4_, f4_, f4_, f4_, f4_] rfl rfl (any_of HT_.out (by kernel_rfl)) (fun _ _ _ h => h) (Or.inl ⟨by rfl, ?_⟩) ?_ ?_
              rotate_left
              ·
               intro w'
               go_simp
               with_reducible rfl
              rotate_left
              ·
               simp only [Act.put, List.setIfInBounds_toArray, List.set_cons_zero, List.set_cons_succ, i64_w, i32_w]
               rfl
              refine pure_ (i := 2) (N := some 38) (v := ?_) (a' := ?_) #[t4_, f4_, t4_, f4_, f4_, f4_, f4_, f4_, f4_, f4_] rfl rfl (any_of HT_.out (by kernel_rfl)) (fun _ _ _ h => h) (Or.inl ⟨by rfl, ?_⟩) ?_ ?_
              rotate_left
              ·
               intro w'
               go_simp
               with_reducible rfl
              rotate_left
              ·
               simp only [Act.put, List.setIfInBounds_toArray, List.set_cons_zero, List.set_cons_succ, i64_w, i32_w]
               rfl
              refine pure_ (i := 3) (N := some 39) (v := ?_) (a' := ?_) #[t4_, f4_, t4_, t4_, f4_, f4_, f4_, f4_, f4_, f4_] rfl rfl (any_of HT_.out (by kernel_rfl)) (fun _ _ _ h => h) (Or.inl ⟨by rfl, ?_⟩) ?_ ?_
              rotate_left
              ·
               intro w'
               go_simp
               with_reducible rfl
              rotate_left
              ·
               simp only [Act.put, List.setIfInBounds_toArray, List.set_cons_zero, List.set_cons_succ, i64_w, i32_w]
               rfl
              refine pure_ (i := 4) (N := some 40) (v := ?_) (a' := ?_) #[t4_, f4_, t4_, t4_, t4_, f4_, f4_, f4_, f4_, f4_] rfl rfl (any_of HT_.out (by kernel_rfl)) (fun _ _ _ h => h) (Or.inl ⟨by rfl, ?_⟩) ?_ ?_
              rotate_left
              ·
               intro w'
               go_simp
               with_reducible rfl
              rotate_left
              ·
               simp only [Act.put, List.setIfInBounds_toArray, List.set_cons_zero, List.set_cons_succ, i64_w, i32_w]
               rfl
              refine pure_ (i := 5) (N := some 41) (v := ?_) (a' := ?_) #[t4_, f4_, t4_, t4_, t4_, t4_, f4_, f4_, f4_, f4_] rfl rfl (any_of HT_.out (by kernel_rfl)) (fun _ _ _ h => h) (Or.inl ⟨by rfl, ?_⟩) ?_ ?_
              rotate_left
              ·
               intro w'
               go_simp
               with_reducible rfl
              rotate_left
              ·
               simp only [Act.put, List.setIfInBounds_toArray, List.set_cons_zero, List.set_cons_succ, i64_w, i32_w]
               rfl
              refine pure_ (i := 6) (N := some 42) (v := ?_) (a' := ?_) #[t4_, f4_, t4_, t4_, t4_, t4_, t4_, f4_, f4_, f4_] rfl rfl (any_of HT_.out (by kernel_rfl)) (fun _ _ _ h => h) (Or.inl ⟨by rfl, ?_⟩) ?_ ?_
              rotate_left
              ·
               intro w'
               go_simp
               with_reducible rfl
              rotate_left
              ·
               simp only [Act.put, List.setIfInBounds_toArray, List.set_cons_zero, List.set_cons_succ, i64_w, i32_w]
               rfl
              refine take_ (i := 1) (N := some 37) (v := ?_) (a' := ?_) #[t4_, t4_, t4_, t4_, t4_, t4_, t4_, f4_, f4_, f4_] rfl rfl (take_ofW HT_.out HW_.out (by kernel_rfl)) (fun _ _ _ h => h) (Or.inl ⟨by rfl, ?_⟩) hHeld ?_ ?_
              rotate_left
              ·
               rintro w' ⟨s0, s1, s2, s3, s4, s5⟩
               go_simp
               with_reducible rfl
              rotate_left
              ·
               simp only [Act.put, List.setIfInBounds_toArray, List.set_cons_zero, List.set_cons_succ, i64_w, i32_w]
               rfl
              refine take_ (i := 7) (N := some 43) (v := ?_) (a' := ?_) #[t4_, t4_, t4_, t4_, t4_, t4_, t4_, t4_, f4_, f4_] rfl rfl (take_ofW HT_.out HW_.out (by kernel_rfl)) (fun _ _ _ h => h) (Or.inl ⟨by rfl, ?_⟩) hHeld ?_ ?_
              rotate_left
              ·
               rintro w' ⟨s0, s1, s2, s3, s4, s5⟩
               go_simp
               with_reducible rfl
              rotate_left
              ·
               simp only [Act.put, List.setIfInBounds_toArray, List.set_cons_zero, List.set_cons_succ, i64_w, i32_w]
               rfl
              refine pure_ (i := 8) (N := some 44) (v := ?_) (a' := ?_) #[t4_, t4_, t4_, t4_, t4_, t4_, t4_, t4_, t4_, f4_] rfl rfl (any_of HT_.out (by kernel_rfl)) (fun _ _ _ h => h) (Or.inl ⟨by rfl, ?_⟩) ?_ ?_
              rotate_left
              ·
               intro w'
               go_simp
               with_reducible rfl
              rotate_left
              ·
               simp only [Act.put, List.setIfInBounds_toArray, List.set_cons_zero, List.set_cons_succ, i64_w, i32_w]
               rfl
              refine pure_ (i := 9) (N := some 12) (v := ?_) (a' := ?_) #[t4_, t4_, t4_, t4_, t4_, t4_, t4_, t4_, t4_, t4_] rfl rfl (any_of HT_.out (by kernel_rfl)) (fun _ _ _ h => h) (Or.inl ⟨by rfl, ?_⟩) ?_ ?_
              rotate_left
              ·
               intro w'
               go_simp
               with_reducible rfl
              rotate_left
              ·
               simp only [Act.put, List.setIfInBounds_toArray, List.set_cons_zero, List.set_cons_succ, i64_w, i32_w]
               rfl
              refine done_ (done_of HT_.out (by kernel_rfl)) ?_
              try go_wp2
              have n0_ := Aside0.mk (Kd.R_drew HO_9.out)
              have n1_ := Aside0.mk (blk_drew BK131.out)
              have n2_ := Aside0.mk (below_drew1 HB.out)
              clear HO_9
              clear BK131
              clear HB
              have HO_9 := n0_
              have BK131 := n1_
              have HB := n2_
              clear n0_ n1_ n2_
              obtain ⟨Ao40, co40, eo40⟩ := Kd.R_slice HO_9.out
              (first | subst eo40 | (injection eo40 with f1_ f2_ f3_; have f4_ := f1_.symm; have f5_ := f3_.symm; clear f1_ f2_ f3_; subst f4_; subst f5_))
              have p133 : 0 ≤ ((ji16) : Int) := of_decide_eq_true (by first | (with_reducible assumption) | assumption)
              have q133 : (ji16) < (x9_2.length : Int) := of_decide_eq_true (by first | (with_reducible assumption) | assumption)
              obtain ⟨ad133, e133, hx133_0, hx133_1, hx133_2⟩ := at_T41 (Kd.R_reads' HO_9.out).2.2 (ji16) p133 q133
              cases e133
              replace p133 := eq_true p133
              replace q133 := eq_true q133
              refine start_ (n := 15) (S := fun w' => w'.cell? ⟨gb131, 0, none⟩ = some (.int .i64 ((rd_T41 l0 x10_2).f0)) ∧ w'.cell? ⟨gb131, 1, none⟩ = some (.int .i64 ((rd_T41 l0 x10_2).f1)) ∧ w'.cell? ⟨gb131, 2, none⟩ = some (.int .i64 ((rd_T41 l0 x10_2).f2)) ∧ w'.cell? (ad133.add (((ji16)).toNat * 3)) = some (.int .i64 ((rd_T41 x9_2 (ji16)).f0)) ∧ w'.cell? ⟨(ad133.add (((ji16)).toNat * 3)).block, (ad133.add (((ji16)).toNat * 3)).off + 1, none⟩ = some (.int .i64 ((rd_T41 x9_2 (ji16)).f1)) ∧ w'.cell? ⟨(ad133.add (((ji16)).toNat * 3)).block, (ad133.add (((ji16)).toNat * 3)).off + 2, none⟩ = some (.int .i64 ((rd_T41 x9_2 (ji16)).f2))) (ds := [14]) #[f4_, f4_, f4_, f4_, f4_, f4_, f4_, f4_, f4_, f4_, f4_, f4_, f4_, f4_, f4_] (by kernel_rfl) rfl rfl ⟨(blk_cell BK131.out 0).trans rfl, (blk_cell BK131.out 1).trans rfl, (blk_cell BK131.out 2).trans rfl, hx133_0, hx133_1, hx133_2⟩ (fun hHeld => ?_); refine with_tabW spec_Reach.tab10 spec_Reach.bits10 (fun HT_ HW_ => ?_)
              generalize w38.drew = w39 at HO_9 BK131 HB hx133_0 hx133_1 hx133_2 hHeld ⊢
              refine pure_ (i := 0) (N := some 45) (v := ?_) (a' := ?_) #[t4_, f4_, f4_, f4_, f4_, f4_, f4_, f4_, f4_, f4_, f4_, f4_, f4_, f4_, f4_] rfl rfl (any_of HT_.out (by kernel_rfl)) (fun _ _ _ h => h) (Or.inl ⟨by rfl, ?_⟩) ?_ ?_
              rotate_left
              ·
               intro w'
               go_simp
               with_reducible rfl
              rotate_left
              ·
               simp only [Act.put, List.setIfInBounds_toArray, List.set_cons_zero, List.set_cons_succ, i64_w, i32_w]
               rfl
              refine pure_ (i := 2) (N := some 47) (v := ?_) (a' := ?_) #[t4_, f4_, t4_, f4_, f4_, f4_, f4_, f4_, f4_, f4_, f4_, f4_, f4_, f4_, f4_] rfl rfl (any_of HT_.out (by kernel_rfl)) (fun _ _ _ h => h) (Or.inl ⟨by rfl, ?_⟩) ?_ ?_
              rotate_left
              ·
               intro w'
               go_simp
               with_reducible rfl
              rotate_left
              ·
               simp only [Act.put, List.setIfInBounds_toArray, List.set_cons_zero, List.set_cons_succ, i64_w, i32_w]
               rfl
              refine pure_ (i := 3) (N := some 48) (v := ?_) (a' := ?_) #[t4_, f4_, t4_, t4_, f4_, f4_, f4_, f4_, f4_, f4_, f4_, f4_, f4_, f4_, f4_] rfl rfl (any_of HT_.out (by kernel_rfl)) (fun _ _ _ h => h) (Or.inl ⟨by rfl, ?_⟩) ?_ ?_
              rotate_left
              ·
               intro w'
               go_simp
               with_reducible rfl
              rotate_left
              ·
               simp only [Act.put, List.setIfInBounds_toArray, List.set_cons_zero, List.set_cons_succ, i64_w, i32_w]
               rfl
              refine pure_ (i := 4) (N := some 49) (v := ?_) (a' := ?_) #[t4_, f4_, t4_, t4_, t4_, f4_, f4_, f4_, f4_, f4_, f4_, f4_, f4_, f4_, f4_] rfl rfl (any_of HT_.out (by kernel_rfl)) (fun _ _ _ h => h) (Or.inl ⟨by rfl, ?_⟩) ?_ ?_
              rotate_left
              ·
               intro w'
               go_simp
               with_reducible rfl
              rotate_left
              ·
               simp only [Act.put, List.setIfInBounds_toArray, List.set_cons_zero, List.set_cons_succ, i64_w, i32_w]
               rfl
              refine pure_ (i := 5) (N := some 50) (v := ?_) (a' := ?_) #[t4_, f4_, t4_, t4_, t4_, t4_, f4_, f4_, f4_, f4_, f4_, f4_, f4_, f4_, f4_] rfl rfl (any_of HT_.out (by kernel_rfl)) (fun _ _ _ h => h) (Or.inl ⟨by rfl, ?_⟩) ?_ ?_
              rotate_left
              ·
               intro w'
               go_simp
               with_reducible rfl
              rotate_left
              ·
               simp only [Act.put, List.setIfInBounds_toArray, List.set_cons_zero, List.set_cons_succ, i64_w, i32_w]
               rfl
              refine pure_ (i := 6) (N := some 51) (v := ?_) (a' := ?_) #[t4_, f4_, t4_, t4_, t4_, t4_, t4_, f4_, f4_, f4_, f4_, f4_, f4_, f4_, f4_] rfl rfl (any_of HT_.out (by kernel_rfl)) (fun _ _ _ h => h) (Or.inl ⟨by rfl, ?_⟩) ?_ ?_
              rotate_left
              ·
               intro w'
               go_simp
               with_reducible rfl
              rotate_left
              ·
               simp only [Act.put, List.setIfInBounds_toArray, List.set_cons_zero, List.set_cons_succ, i64_w, i32_w]
               rfl
              refine pure_ (i := 8) (N := some 53) (v := ?_) (a' := ?_) #[t4_, f4_, t4_, t4_, t4_, t4_, t4_, f4_, t4_, f4_, f4_, f4_, f4_, f4_, f4_] rfl rfl (any_of HT_.out (by kernel_rfl)) (fun _ _ _ h => h) (Or.inl ⟨by rfl, ?_⟩) ?_ ?_
              rotate_left
              ·
               intro w'
               go_simp
               with_reducible rfl
              rotate_left
              ·
               simp only [Act.put, List.setIfInBounds_toArray, List.set_cons_zero, List.set_cons_succ, i64_w, i32_w]
               rfl
              refine pure_ (i := 9) (N := some 54) (v := ?_) (a' := ?_) #[t4_, f4_, t4_, t4_, t4_, t4_, t4_, f4_, t4_, t4_, f4_, f4_, f4_, f4_, f4_] rfl rfl (any_of HT_.out (by kernel_rfl)) (fun _ _ _ h => h) (Or.inl ⟨by rfl, ?_⟩) ?_ ?_
              rotate_left
              ·
               intro w'
               go_simp
               with_reducible rfl
              rotate_left
              ·
               simp only [Act.put, List.setIfInBounds_toArray, List.set_cons_zero, List.set_cons_succ, i64_w, i32_w]
               rfl
              refine pure_ (i := 10) (N := some 55) (v := ?_) (a' := ?_) #[t4_, f4_, t4_, t4_, t4_, t4_, t4_, f4_, t4_, t4_, t4_, f4_, f4_, f4_, f4_] rfl rfl (any_of HT_.out (by kernel_rfl)) (fun _ _ _ h => h) (Or.inl ⟨by rfl, ?_⟩) ?_ ?_
              rotate_left
              ·
               intro w'
               go_simp
               with_reducible rfl
              rotate_left
              ·
               simp only [Act.put, List.setIfInBounds_toArray, List.set_cons_zero, List.set_cons_succ, i64_w, i32_w]
               rfl
              refine take_ (i := 1) (N := some 46) (v := ?_) (a' := ?_) #[t4_, t4_, t4_, t4_, t4_, t4_, t4_, f4_, t4_, t4_, t4_, f4_, f4_, f4_, f4_] rfl rfl (take_ofW HT_.out HW_.out (by kernel_rfl)) (fun _ _ _ h => h) (Or.inl ⟨by rfl, ?_⟩) hHeld ?_ ?_
              rotate_left
              ·
               rintro w' ⟨s0, s1, s2, s3, s4, s5⟩
               go_simp
               with_reducible rfl
              rotate_left
              ·
               simp only [Act.put, List.setIfInBounds_toArray, List.set_cons_zero, List.set_cons_succ, i64_w, i32_w]
               rfl
              refine take_ (i := 7) (N := some 52) (v := ?_) (a' := ?_) #[t4_, t4_, t4_, t4_, t4_, t4_, t4_, t4_, t4_, t4_, t4_, f4_, f4_, f4_, f4_] rfl rfl (take_ofW HT_.out HW_.out (by kernel_rfl)) (fun _ _ _ h => h) (Or.inl ⟨by rfl, ?_⟩) hHeld ?_ ?_
              rotate_left
              ·
               rintro w' ⟨s0, s1, s2, s3, s4, s5⟩
               go_simp
               with_reducible rfl
              rotate_left
              ·
               simp only [Act.put, List.setIfInBounds_toArray, List.set_cons_zero, List.set_cons_succ, i64_w, i32_w]
               rfl
              refine pure_ (i := 11) (N := some 56) (v := ?_) (a' := ?_) #[t4_, t4_, t4_, t4_, t4_, t4_, t4_, t4_, t4_, t4_, t4_, t4_, f4_, f4_, f4_] rfl rfl (any_of HT_.out (by kernel_rfl)) (fun _ _ _ h => h) (Or.inl ⟨by rfl, ?_⟩) ?_ ?_
              rotate_left
              ·
               intro w'
               go_simp
               with_reducible rfl
              rotate_left
              ·
               simp only [Act.put, List.setIfInBounds_toArray, List.set_cons_zero, List.set_cons_succ, i64_w, i32_w]
               rfl
              refine one_ (i := 12) (N := some 57) #[t4_, t4_, t4_, t4_, t4_, t4_, t4_, t4_, t4_, t4_, t4_, t4_, t4_, f4_, f4_] rfl rfl (one_of HT_.out (by kernel_rfl)) (by decide) (fun K hK => ?_)
              refine goes_ Try.func36 (by kernel_rfl) rfl #[.int .i64 ((rd_T41 l0 x10_2).f1), .int .i64 (wrap64 (((rd_T41 x9_2 (ji16)).f1) - (wrap64 (a2 * (wrap64 (((rd_T41 l0 x10_2).f0) - ((rd_T41 l0 (ji16)).f0)))))))] (by rfl) rfl rfl (by (try simp only [List.map_toArray, List.map_cons, List.map_nil]); first | done | (simp only [hji16]; rfl) | rfl | (simp only [List.length_drop, List.length_take]; rfl)) ?_
              with_reducible refine (spec_l1Max.calls ((rd_T41 l0 x10_2).f1) (wrap64 (((rd_T41 x9_2 (ji16)).f1) - (wrap64 (a2 * (wrap64 (((rd_T41 l0 x10_2).f0) - ((rd_T41 l0 (ji16)).f0))))))) t134 _ A20.out).mono ?_
              rintro e w' ⟨rfl, ⟨nd, rfl⟩⟩
              refine ⟨_, rfl, ?_⟩
              refine hK.out _ _ ⟨(blk_cell BK131.out 0).trans rfl, (blk_cell BK131.out 1).trans rfl, (blk_cell BK131.out 2).trans rfl, hHeld.2.2.2.1, hHeld.2.2.2.2.1, hHeld.2.2.2.2.2⟩ (fun hHeld => ?_)
              clear hK K
              refine norm_ (a' := ?_) ?_ ?_
              rotate_left
              ·
               show Act.put _ (some 57) _ = _
               simp only [Act.put, List.setIfInBounds_toArray, List.set_cons_zero, List.set_cons_succ, i64_w, i32_w]
               rfl
              refine pure_ (i := 13) (N := some 58) (v := ?_) (a' := ?_) #[t4_, t4_, t4_, t4_, t4_, t4_, t4_, t4_, t4_, t4_, t4_, t4_, t4_, t4_, f4_] rfl rfl (any_of HT_.out (by kernel_rfl)) (fun _ _ _ h => h) (Or.inl ⟨by rfl, ?_⟩) ?_ ?_
              rotate_left
              ·
               intro w'
               go_simp
               with_reducible rfl
              rotate_left
              ·
               simp only [Act.put, List.setIfInBounds_toArray, List.set_cons_zero, List.set_cons_succ, i64_w, i32_w]
               rfl
              refine last_ (i := 14) (N := none) #[t4_, t4_, t4_, t4_, t4_, t4_, t4_, t4_, t4_, t4_, t4_, t4_, t4_, t4_, t4_] rfl rfl (one_of HT_.out (by kernel_rfl)) (by decide) (fun K hK => ?_)
              have hs41 : w39.cell? ⟨gb131, 1, none⟩ = some (.int .i64 ((rd_T41 l0 x10_2).f1)) := (blk_cell BK131.out 1).trans rfl
              have hfs41 := blk_frozen BK131.out 1
              refine skip_ (w1 := ?_) (by rfl) rfl ?_ ?_
              rotate_left
              ·
               go_simp
               rfl
              refine hK.out _ _ ?_
              clear hK K
              refine done_ (done_of HT_.out (by kernel_rfl)) ?_
              try go_wp2
              have n0_ : Aside0 (Kd.R k41 41 (w39.setCell ⟨gb131, 1, none⟩ (.int .i64 t134)) w.heap.size (fun k_ => k_ ≠ gb131) (.slice (some ad133) x9_2.length co40) x9_2) := ⟨by (with_reducible repeat (first | apply Kd.R_alloc | apply Kd.R_drewN | apply Kd.R_drew)); exact Kd.R_mono (Kd.R_far (p := ⟨gb131, 1, none⟩) (Kd.R_mono HO_9.out (fun k_ hk => (⟨hk, hk⟩ : _ ∧ k_ ≠ gb131))) (fun _ hk => hk.2) (.int .i64 t134)) (fun _ hk => hk.1)⟩
              have n1_ : Aside0 ((w39.setCell ⟨gb131, 1, none⟩ (.int .i64 t134)).heap[gb131]? = some (.cells #[.int .i64 ((rd_T41 l0 x10_2).f0), .int .i64 t134, .int .i64 ((rd_T41 l0 x10_2).f2)] 41 (0, 0))) := ⟨by (with_reducible repeat (first | refine blk_drewN ?_ _ | refine blk_drew ?_ | refine blk_alloc ?_ _)); refine blk_put (cs := #[.int .i64 ((rd_T41 l0 x10_2).f0), .int .i64 ((rd_T41 l0 x10_2).f1), .int .i64 ((rd_T41 l0 x10_2).f2)]) ?_ 1 _ rfl; (with_reducible repeat (first | refine blk_drewN ?_ _ | refine blk_drew ?_ | refine blk_alloc ?_ _)); exact BK131.out⟩
              have n2_ : Aside0 (Below w.heap.size w (w39.setCell ⟨gb131, 1, none⟩ (.int .i64 t134))) := ⟨by repeat (first | (with_reducible first | exact HB.out | apply below_alloc | apply pw_below_drewN | apply below_drew1 | refine below_set ?_ GE131.out) | exact HB.out)⟩
              (try (have hsd_ : ∀ (W_ : World) (n_ : Nat) (a_ : Addr) (v_ : Value), (W_.drewN n_).setCell a_ v_ = (W_.setCell a_ v_).drewN n_ := fun _ _ _ _ => rfl); simp only [hsd_]; clear hsd_)
              (try clear HO_9)
              (try clear BK131)
              (try clear HB)
              generalize (w39.setCell ⟨gb131, 1, none⟩ (.int .i64 t134)) = w42 at n0_ n1_ n2_ ⊢
              have HO_9 := n0_
              have BK131 := n1_
              have HB := n2_
              clear n0_ n1_ n2_
              (try (rw [drewN_self w42]; generalize hq_ : World.drewN w42 _ = w42; have n0_ : Aside0 (Kd.R k41 41 w42 w.heap.size (fun k_ => k_ ≠ gb131) (.slice (some ad133) x9_2.length co40) x9_2) := ⟨by rw [← hq_]; exact (by (with_reducible repeat (first | apply Kd.R_alloc | apply Kd.R_drewN | apply Kd.R_drew)); exact HO_9.out)⟩; have n1_ : Aside0 (w42.heap[gb131]? = some (.cells #[.int .i64 ((rd_T41 l0 x10_2).f0), .int .i64 t134, .int .i64 ((rd_T41 l0 x10_2).f2)] 41 (0, 0))) := ⟨by rw [← hq_]; exact (by (with_reducible repeat (first | refine blk_drewN ?_ _ | refine blk_drew ?_ | refine blk_alloc ?_ _)); exact BK131.out)⟩; have n2_ : Aside0 (Below w.heap.size w w42) := ⟨by rw [← hq_]; exact (by repeat (first | (with_reducible first | exact HB.out | apply below_alloc | apply pw_below_drewN | apply below_drew1 | refine below_set ?_ GE131.out) | exact HB.out))⟩; clear HO_9 BK131 HB hq_; have HO_9 := n0_; have BK131 := n1_; have HB := n2_; clear n0_ n1_ n2_))
              (try have hfu131_0 := blk_frozen BK131.out 0); (try have hcu131_0 := (blk_cell BK131.out 0).trans rfl)
              (try have hfu131_1 := blk_frozen BK131.out 1); (try have hcu131_1 := (blk_cell BK131.out 1).trans rfl)
              (try have hfu131_2 := blk_frozen BK131.out 2); (try have hcu131_2 := (blk_cell BK131.out 2).trans rfl)
              have n0_ := Aside0.mk (Kd.R_drew HO_9.out)
              have n1_ := Aside0.mk (blk_drew BK131.out)
              have n2_ := Aside0.mk (below_drew1 HB.out)
              clear HO_9
              clear BK131
              clear HB
              have HO_9 := n0_
              have BK131 := n1_
              have HB := n2_
              clear n0_ n1_ n2_
              have p135 : 0 ≤ ((ji16) : Int) := of_decide_eq_true (by first | (with_reducible assumption) | assumption)
              have q135 : (ji16) < (x9_2.length : Int) := of_decide_eq_true (by first | (with_reducible assumption) | assumption)
              obtain ⟨ad135, e135, hx135_0, hx135_1, hx135_2⟩ := at_T41 (Kd.R_reads' HO_9.out).2.2 (ji16) p135 q135
              obtain rfl : ad133 = ad135 := (by injection e135)
              replace p135 := eq_true p135
              replace q135 := eq_true q135
              refine start_ (n := 15) (S := fun w' => w'.cell? ⟨gb131, 0, none⟩ = some (.int .i64 ((rd_T41 l0 x10_2).f0)) ∧ w'.cell? ⟨gb131, 1, none⟩ = some (.int .i64 t134) ∧ w'.cell? ⟨gb131, 2, none⟩ = some (.int .i64 ((rd_T41 l0 x10_2).f2)) ∧ w'.cell? (ad133.add (((ji16)).toNat * 3)) = some (.int .i64 ((rd_T41 x9_2 (ji16)).f0)) ∧ w'.cell? ⟨(ad133.add (((ji16)).toNat * 3)).block, (ad133.add (((ji16)).toNat * 3)).off + 1, none⟩ = some (.int .i64 ((rd_T41 x9_2 (ji16)).f1)) ∧ w'.cell? ⟨(ad133.add (((ji16)).toNat * 3)).block, (ad133.add (((ji16)).toNat * 3)).off + 2, none⟩ = some (.int .i64 ((rd_T41 x9_2 (ji16)).f2))) (ds := [14]) #[f4_, f4_, f4_, f4_, f4_, f4_, f4_, f4_, f4_, f4_, f4_, f4_, f4_, f4_, f4_] (by kernel_rfl) rfl rfl ⟨(blk_cell BK131.out 0).trans rfl, (blk_cell BK131.out 1).trans rfl, (blk_cell BK131.out 2).trans rfl, hx135_0, hx135_1, hx135_2⟩ (fun hHeld => ?_); refine with_tabW spec_Reach.tab11 spec_Reach.bits11 (fun HT_ HW_ => ?_)
              generalize w42.drew = w43 at HO_9 BK131 HB hx135_0 hx135_1 hx135_2 hHeld ⊢
              refine pure_ (i := 0) (N := some 59) (v := ?_) (a' := ?_) #[t4_, f4_, f4_, f4_, f4_, f4_, f4_, f4_, f4_, f4_, f4_, f4_, f4_, f4_, f4_] rfl rfl (any_of HT_.out (by kernel_rfl)) (fun _ _ _ h => h) (Or.inl ⟨by rfl, ?_⟩) ?_ ?_
              rotate_left
              ·
               intro w'
               go_simp
               with_reducible rfl
              rotate_left
              ·
               simp only [Act.put, List.setIfInBounds_toArray, List.set_cons_zero, List.set_cons_succ, i64_w, i32_w]
               rfl
              refine pure_ (i := 2) (N := some 61) (v := ?_) (a' := ?_) #[t4_, f4_, t4_, f4_, f4_, f4_, f4_, f4_, f4_, f4_, f4_, f4_, f4_, f4_, f4_] rfl rfl (any_of HT_.out (by kernel_rfl)) (fun _ _ _ h => h) (Or.inl ⟨by rfl, ?_⟩) ?_ ?_
              rotate_left
              ·
               intro w'
               go_simp
               with_reducible rfl
              rotate_left
              ·
               simp only [Act.put, List.setIfInBounds_toArray, List.set_cons_zero, List.set_cons_succ, i64_w, i32_w]
               rfl
              refine pure_ (i := 3) (N := some 62) (v := ?_) (a' := ?_) #[t4_, f4_, t4_, t4_, f4_, f4_, f4_, f4_, f4_, f4_, f4_, f4_, f4_, f4_, f4_] rfl rfl (any_of HT_.out (by kernel_rfl)) (fun _ _ _ h => h) (Or.inl ⟨by rfl, ?_⟩) ?_ ?_
              rotate_left
              ·
               intro w'
               go_simp
               with_reducible rfl
              rotate_left
              ·
               simp only [Act.put, List.setIfInBounds_toArray, List.set_cons_zero, List.set_cons_succ, i64_w, i32_w]
               rfl
              refine pure_ (i := 4) (N := some 63) (v := ?_) (a' := ?_) #[t4_, f4_, t4_, t4_, t4_, f4_, f4_, f4_, f4_, f4_, f4_, f4_, f4_, f4_, f4_] rfl rfl (any_of HT_.out (by kernel_rfl)) (fun _ _ _ h => h) (Or.inl ⟨by rfl, ?_⟩) ?_ ?_
              rotate_left
              ·
               intro w'
               go_simp
               with_reducible rfl
              rotate_left
              ·
               simp only [Act.put, List.setIfInBounds_toArray, List.set_cons_zero, List.set_cons_succ, i64_w, i32_w]
               rfl
              refine pure_ (i := 5) (N := some 64) (v := ?_) (a' := ?_) #[t4_, f4_, t4_, t4_, t4_, t4_, f4_, f4_, f4_, f4_, f4_, f4_, f4_, f4_, f4_] rfl rfl (any_of HT_.out (by kernel_rfl)) (fun _ _ _ h => h) (Or.inl ⟨by rfl, ?_⟩) ?_ ?_
              rotate_left
              ·
               intro w'
               go_simp
               with_reducible rfl
              rotate_left
              ·
               simp only [Act.put, List.setIfInBounds_toArray, List.set_cons_zero, List.set_cons_succ, i64_w, i32_w]
               rfl
              refine pure_ (i := 6) (N := some 65) (v := ?_) (a' := ?_) #[t4_, f4_, t4_, t4_, t4_, t4_, t4_, f4_, f4_, f4_, f4_, f4_, f4_, f4_, f4_] rfl rfl (any_of HT_.out (by kernel_rfl)) (fun _ _ _ h => h) (Or.inl ⟨by rfl, ?_⟩) ?_ ?_
              rotate_left
              ·
               intro w'
               go_simp
               with_reducible rfl
              rotate_left
              ·
               simp only [Act.put, List.setIfInBounds_toArray, List.set_cons_zero, List.set_cons_succ, i64_w, i32_w]
               rfl
              refine pure_ (i := 8) (N := some 67) (v := ?_) (a' := ?_) #[t4_, f4_, t4_, t4_, t4_, t4_, t4_, f4_, t4_, f4_, f4_, f4_, f4_, f4_, f4_] rfl rfl (any_of HT_.out (by kernel_rfl)) (fun _ _ _ h => h) (Or.inl ⟨by rfl, ?_⟩) ?_ ?_
              rotate_left
              ·
               intro w'
               go_simp
               with_reducible rfl
              rotate_left
              ·
               simp only [Act.put, List.setIfInBounds_toArray, List.set_cons_zero, List.set_cons_succ, i64_w, i32_w]
               rfl
              refine pure_ (i := 9) (N := some 68) (v := ?_) (a' := ?_) #[t4_, f4_, t4_, t4_, t4_, t4_, t4_, f4_, t4_, t4_, f4_, f4_, f4_, f4_, f4_] rfl rfl (any_of HT_.out (by kernel_rfl)) (fun _ _ _ h => h) (Or.inl ⟨by rfl, ?_⟩) ?_ ?_
              rotate_left
              ·
               intro w'
               go_simp
               with_reducible rfl
              rotate_left
              ·
               simp only [Act.put, List.setIfInBounds_toArray, List.set_cons_zero, List.set_cons_succ, i64_w, i32_w]
               rfl
              refine pure_ (i := 10) (N := some 69) (v := ?_) (a' := ?_) #[t4_, f4_, t4_, t4_, t4_, t4_, t4_, f4_, t4_, t4_, t4_, f4_, f4_, f4_, f4_] rfl rfl (any_of HT_.out (by kernel_rfl)) (fun _ _ _ h => h) (Or.inl ⟨by rfl, ?_⟩) ?_ ?_
              rotate_left
              ·
               intro w'
               go_simp
               with_reducible rfl
              rotate_left
              ·
               simp only [Act.put, List.setIfInBounds_toArray, List.set_cons_zero, List.set_cons_succ, i64_w, i32_w]
               rfl
              refine take_ (i := 1) (N := some 60) (v := ?_) (a' := ?_) #[t4_, t4_, t4_, t4_, t4_, t4_, t4_, f4_, t4_, t4_, t4_, f4_, f4_, f4_, f4_] rfl rfl (take_ofW HT_.out HW_.out (by kernel_rfl)) (fun _ _ _ h => h) (Or.inl ⟨by rfl, ?_⟩) hHeld ?_ ?_
              rotate_left
              ·
               rintro w' ⟨s0, s1, s2, s3, s4, s5⟩
               go_simp
               with_reducible rfl
              rotate_left
              ·
               simp only [Act.put, List.setIfInBounds_toArray, List.set_cons_zero, List.set_cons_succ, i64_w, i32_w]
               rfl
              refine take_ (i := 7) (N := some 66) (v := ?_) (a' := ?_) #[t4_, t4_, t4_, t4_, t4_, t4_, t4_, t4_, t4_, t4_, t4_, f4_, f4_, f4_, f4_] rfl rfl (take_ofW HT_.out HW_.out (by kernel_rfl)) (fun _ _ _ h => h) (Or.inl ⟨by rfl, ?_⟩) hHeld ?_ ?_
              rotate_left
              ·
               rintro w' ⟨s0, s1, s2, s3, s4, s5⟩
               go_simp
               with_reducible rfl
              rotate_left
              ·
               simp only [Act.put, List.setIfInBounds_toArray, List.set_cons_zero, List.set_cons_succ, i64_w, i32_w]
               rfl
              refine pure_ (i := 11) (N := some 70) (v := ?_) (a' := ?_) #[t4_, t4_, t4_, t4_, t4_, t4_, t4_, t4_, t4_, t4_, t4_, t4_, f4_, f4_, f4_] rfl rfl (any_of HT_.out (by kernel_rfl)) (fun _ _ _ h => h) (Or.inl ⟨by rfl, ?_⟩) ?_ ?_
              rotate_left
              ·
               intro w'
               go_simp
               with_reducible rfl
              rotate_left
              ·
               simp only [Act.put, List.setIfInBounds_toArray, List.set_cons_zero, List.set_cons_succ, i64_w, i32_w]
               rfl
              refine one_ (i := 12) (N := some 71) #[t4_, t4_, t4_, t4_, t4_, t4_, t4_, t4_, t4_, t4_, t4_, t4_, t4_, f4_, f4_] rfl rfl (one_of HT_.out (by kernel_rfl)) (by decide) (fun K hK => ?_)
              refine goes_ Try.func37 (by kernel_rfl) rfl #[.int .i64 ((rd_T41 l0 x10_2).f2), .int .i64 (wrap64 (((rd_T41 x9_2 (ji16)).f2) + (wrap64 (a1 * (wrap64 (((rd_T41 l0 x10_2).f0) - ((rd_T41 l0 (ji16)).f0)))))))] (by rfl) rfl rfl (by (try simp only [List.map_toArray, List.map_cons, List.map_nil]); first | done | (simp only [hji16]; rfl) | rfl | (simp only [List.length_drop, List.length_take]; rfl)) ?_
              with_reducible refine (spec_l1Min.calls ((rd_T41 l0 x10_2).f2) (wrap64 (((rd_T41 x9_2 (ji16)).f2) + (wrap64 (a1 * (wrap64 (((rd_T41 l0 x10_2).f0) - ((rd_T41 l0 (ji16)).f0))))))) t136 _ A21.out).mono ?_
              rintro e w' ⟨rfl, ⟨nd, rfl⟩⟩
              refine ⟨_, rfl, ?_⟩
              refine hK.out _ _ ⟨(blk_cell BK131.out 0).trans rfl, (blk_cell BK131.out 1).trans rfl, (blk_cell BK131.out 2).trans rfl, hHeld.2.2.2.1, hHeld.2.2.2.2.1, hHeld.2.2.2.2.2⟩ (fun hHeld => ?_)
              clear hK K
              refine norm_ (a' := ?_) ?_ ?_
              rotate_left
              ·
               show Act.put _ (some 71) _ = _
               simp only [Act.put, List.setIfInBounds_toArray, List.set_cons_zero, List.set_cons_succ, i64_w, i32_w]
               rfl
              refine pure_ (i := 13) (N := some 72) (v := ?_) (a' := ?_) #[t4_, t4_, t4_, t4_, t4_, t4_, t4_, t4_, t4_, t4_, t4_, t4_, t4_, t4_, f4_] rfl rfl (any_of HT_.out (by kernel_rfl)) (fun _ _ _ h => h) (Or.inl ⟨by rfl, ?_⟩) ?_ ?_
              rotate_left
              ·
               intro w'
               go_simp
               with_reducible rfl
              rotate_left
              ·
               simp only [Act.put, List.setIfInBounds_toArray, List.set_cons_zero, List.set_cons_succ, i64_w, i32_w]
               rfl
              refine last_ (i := 14) (N := none) #[t4_, t4_, t4_, t4_, t4_, t4_, t4_, t4_, t4_, t4_, t4_, t4_, t4_, t4_, t4_] rfl rfl (one_of HT_.out (by kernel_rfl)) (by decide) (fun K hK => ?_)
              have hs44 : w43.cell? ⟨gb131, 2, none⟩ = some (.int .i64 ((rd_T41 l0 x10_2).f2)) := (blk_cell BK131.out 2).trans rfl
              have hfs44 := blk_frozen BK131.out 2
              refine skip_ (w1 := ?_) (by rfl) rfl ?_ ?_
              rotate_left
              ·
               go_simp
               rfl
              refine hK.out _ _ ?_
              clear hK K
              refine done_ (done_of HT_.out (by kernel_rfl)) ?_
              have hcz45_0 : w43.cell? ⟨gb131, 0, none⟩ = some (.int .i64 ((rd_T41 l0 x10_2).f0)) := (blk_cell BK131.out 0).trans rfl
              have hcz45_1 : w43.cell? ⟨gb131, 1, none⟩ = some (.int .i64 t134) := (blk_cell BK131.out 1).trans rfl
              have hcz45_2 : w43.cell? ⟨gb131, 2, none⟩ = some (.int .i64 ((rd_T41 l0 x10_2).f2)) := (blk_cell BK131.out 2).trans rfl
              have hfz45_0 := blk_frozen BK131.out 0
              have hfz45_1 := blk_frozen BK131.out 1
              have hfz45_2 := blk_frozen BK131.out 2
              try go_wp2_with (first | ((with_reducible refine gate_builtin (b := .append) (xs := #[.tmp 80, .tmp 82]) rfl ?_); at_builtin; refine Kd.R_append k41 (w0 := w) w.heap.size rfl (.tmp 80) (.tmp 82) 28 41 (.agg #[(.int .i64 0), (.int .i64 0), (.int .i64 0)]) 24 rfl Try.underlying28 info41 rfl (by decide) (by omega) (.slice (some ad133) x9_2.length co40) x9_2 (⟨(rd_T41 l0 x10_2).f0, t134, t136⟩ : S41) [.int .i64 ((rd_T41 l0 x10_2).f0), .int .i64 t134, .int .i64 t136] (fun k_ => k_ ≠ gb131) (fun _ => False) rfl (by first | (go_simp; done) | (go_simp; rfl)) ?aP (fun _ hk => hk.elim) ?aF ?aO ?aB ?aS ?aL ?_; (case aP => exact k41_mkM _ _ _ (⟨(rd_T41 l0 x10_2).f0, t134, t136⟩ : S41)); (case aB => exact (by repeat (first | (with_reducible first | exact HB.out | apply below_alloc | apply pw_below_drewN | apply below_drew1 | refine below_set ?_ GE131.out) | exact HB.out))); (case aF => exact (fun k_ hk => Kd.freshB (g := gb131) (o := .cells #[.int .i64 ((rd_T41 l0 x10_2).f0), .int .i64 t134, .int .i64 t136] 41 (0, 0)) (by (with_reducible repeat (first | refine blk_drewN ?_ _ | refine blk_drew ?_ | refine blk_alloc ?_ _)); refine blk_put (cs := #[.int .i64 ((rd_T41 l0 x10_2).f0), .int .i64 t134, .int .i64 ((rd_T41 l0 x10_2).f2)]) ?_ 2 _ rfl; (with_reducible repeat (first | refine blk_drewN ?_ _ | refine blk_drew ?_ | refine blk_alloc ?_ _)); exact BK131.out) k_ hk)); (case aO => exact (by (with_reducible repeat (first | apply Kd.R_alloc | apply Kd.R_drewN | apply Kd.R_drew)); exact Kd.R_mono (Kd.R_far (p := ⟨gb131, 2, none⟩) (Kd.R_mono HO_9.out (fun k_ hk => (⟨hk, hk⟩ : _ ∧ k_ ≠ gb131))) (fun _ hk => hk.2) (.int .i64 t136)) (fun _ hk => hk.1))); (case aS => exact (below_size (by repeat (first | (with_reducible first | exact HB.out | apply below_alloc | apply pw_below_drewN | apply below_drew1 | refine below_set ?_ GE131.out) | exact HB.out)))); (case aL => have := LMc34.out; omega); intro v138 w46 ho hb hg hat; rw [← Ny137.out] at ho; have n0_ := Aside0.mk (blk_grown (g := gb131) (o := .cells #[.int .i64 ((rd_T41 l0 x10_2).f0), .int .i64 t134, .int .i64 t136] 41 (0, 0)) (by (with_reducible repeat (first | refine blk_drewN ?_ _ | refine blk_drew ?_ | refine blk_alloc ?_ _)); refine blk_put (cs := #[.int .i64 ((rd_T41 l0 x10_2).f0), .int .i64 t134, .int .i64 ((rd_T41 l0 x10_2).f2)]) ?_ 2 _ rfl; (with_reducible repeat (first | refine blk_drewN ?_ _ | refine blk_drew ?_ | refine blk_alloc ?_ _)); exact BK131.out) hg (Kd.R_away HO_9.out (fun _ hk => hk))); have n1_ := Aside0.mk (hb); have n2_ := Aside0.mk (ho); clear BK131; clear HB; clear HO_9; have BK131 := n0_; have HB := n1_; have HO139 := n2_; clear n0_ n1_ n2_; clear ho hb hg hat))
              go_roundg k2
              case measure => have := HJ3.out; have := HK2.out; omega
              case rel => exact ⟨(y137), (wrap64 (x10_2 + 1)), (by first | rfl | (simp; done) | (simp [*]; done)), H', ⟨by have := HJ3.out; have := HK2.out; omega⟩, ⟨by (with_reducible repeat (first | apply Kd.R_alloc | apply Kd.R_drewN | apply Kd.R_drew)); exact Kd.R_mono HO139.out (fun _ hk => trivial)⟩, ⟨by repeat (first | (with_reducible first | exact HB.out | apply below_alloc | apply pw_below_drewN | apply below_drew1 | refine below_set ?_ GE131.out) | exact HB.out)⟩⟩
             ·
              rw [if_neg c34] at H
              exact absurd H (by simp)
           ·
            rw [if_neg c19] at H
            exact absurd H (by simp)
          ·
           rw [if_neg c18] at H
           exact absurd H (by simp)
         ·
          rw [if_neg c17] at H
          exact absurd H (by simp)
        ·
         rw [if_neg c15] at H
         have c15b0 : decide (0 < x10_2) = false := decide_eq_false c15
         clear c15
         by_cases c47 : ((rd_T41 l0 x10_2).f1) > ((rd_T41 l0 x10_2).f2)
         ·
          rw [if_pos c47] at H
          have c47b0 : decide (((rd_T41 l0 x10_2).f2) < ((rd_T41 l0 x10_2).f1)) = true := decide_eq_true c47
          clear c47
          simp only [Option.some.injEq, Prod.mk.injEq] at H
          obtain ⟨rfl, rfl, rfl⟩ := H
          have p130 : 0 ≤ (x10_2 : Int) := of_decide_eq_true (by first | (with_reducible assumption) | assumption)
          have q130 : x10_2 < (l0.length : Int) := of_decide_eq_true (by first | (with_reducible assumption) | assumption)
          obtain ⟨ad130, e130, hx130_0, hx130_1, hx130_2⟩ := at_T41 HR0.out x10_2 p130 q130
          cases e130
          replace hx130_0 := (HB.out.cell (World.block_lt_of_cell? w _ hx130_0)).trans hx130_0
          replace hx130_1 := (HB.out.cell (World.block_lt_of_cell? w _ hx130_1)).trans hx130_1
          replace hx130_2 := (HB.out.cell (World.block_lt_of_cell? w _ hx130_2)).trans hx130_2
          replace p130 := eq_true p130
          replace q130 := eq_true q130
          go_wp2_with (first | ((with_reducible refine gate_dst (N := 11) rfl ?_); refine box_event ?hg (N := 11) ?hd (cs := #[.int .i64 0, .int .i64 0, .int .i64 0]) (t := 41) ?hr ?_; (case hd => rfl); (case hg => rfl); (case hr => first | (go_simp; done) | (go_simp; rfl)); intro gb131 hg w48 hbox hb; have n0_ := Aside0.mk (Kd.R_below (Kd.R_elderB (by (with_reducible repeat (first | apply Kd.R_alloc | apply Kd.R_drewN | apply Kd.R_drew)); exact HO_9.out) gb131 (Nat.le_of_eq hg.symm)) hb); have n1_ := Aside0.mk (below_step (by repeat (first | (with_reducible first | exact HB.out | apply below_alloc | apply pw_below_drewN | apply below_drew1) | exact HB.out)) hb); have n2_ := Aside0.mk (hbox); have n3_ := Aside0.mk ((by rw [hg]; exact (below_size (by repeat (first | (with_reducible first | exact HB.out | apply below_alloc | apply pw_below_drewN | apply below_drew1) | exact HB.out))) : w.heap.size ≤ gb131)); have n4_ := Aside0.mk ((by rw [hg]; exact (below_size (by repeat (first | (with_reducible first | exact HB.out | apply below_alloc | apply pw_below_drewN | apply below_drew1) | exact HB.out))) : w.heap.size ≤ gb131)); clear HO_9; clear HB; have HO_9 := n0_; have HB := n1_; have BK131 := n2_; have GW131 := n3_; have GE131 := n4_; clear n0_ n1_ n2_ n3_ n4_; clear hb hbox hg; have hcz49_0 : w48.cell? ⟨gb131, 0, none⟩ = some (.int .i64 0) := (blk_cell BK131.out 0).trans rfl; have hcz49_1 : w48.cell? ⟨gb131, 1, none⟩ = some (.int .i64 0) := (blk_cell BK131.out 1).trans rfl; have hcz49_2 : w48.cell? ⟨gb131, 2, none⟩ = some (.int .i64 0) := (blk_cell BK131.out 2).trans rfl; have hfz49_0 := blk_frozen BK131.out 0; have hfz49_1 := blk_frozen BK131.out 1; have hfz49_2 := blk_frozen BK131.out 2))
          go_ret3
          exact ⟨_, by first | rfl | (simp [errW_none, errW_some] <;> rfl) | (simp [*, errW_none, errW_some] <;> rfl), by (with_reducible repeat (first | apply Kd.R_alloc | apply Kd.R_drewN | apply Kd.R_drew)); exact Kd.R_mono (Kd.R_far (p := ⟨gb131, 2, none⟩) (Kd.R_far (p := ⟨gb131, 1, none⟩) (Kd.R_far (p := ⟨gb131, 0, none⟩) (Kd.R_mono HO_9.out (fun k_ hk => (⟨hk, hk.2⟩ : _ ∧ k_ ≠ gb131))) (fun _ hk => hk.2) (.int .i64 ((rd_T41 l0 x10_2).f0))) (fun _ hk => hk.2) (.int .i64 ((rd_T41 l0 x10_2).f1))) (fun _ hk => hk.2) (.int .i64 ((rd_T41 l0 x10_2).f2))) (fun _ hk => trivial), by repeat (first | (with_reducible first | exact HB.out | apply below_alloc | apply pw_below_drewN | apply below_drew1 | refine below_set ?_ GE131.out) | exact HB.out)⟩
         ·
          rw [if_neg c47] at H
          have c47b0 : decide (((rd_T41 l0 x10_2).f2) < ((rd_T41 l0 x10_2).f1)) = false := decide_eq_false c47
          clear c47
          by_cases c50 : x9_2.length < 5864062014805
          ·
           rw [if_pos c50] at H
           have LMc50 := Aside0.mk c50
           clear c50
           obtain ⟨y140, hy140⟩ : ∃ y_ : List (S41), y_ = (x9_2 ++ [(⟨(rd_T41 l0 x10_2).f0, (rd_T41 l0 x10_2).f1, (rd_T41 l0 x10_2).f2⟩ : S41)]) := ⟨_, rfl⟩
           replace H : (spec_Reach.l0 k2 l0 a1 a2 y140 (wrap64 (x10_2 + 1))) = some (r1, r2, r3) := by first | (rw [hy140]; with_reducible exact H) | (have H2_ := (Option.bind_some _ _).symm.trans H; rw [hy140]; with_reducible exact H2_) | (have H2_ := (Option.bind_some _ _).symm.trans H; with_reducible exact H2_) | with_reducible exact H | (rw [hy140]; exact H) | exact H
           have Ny140 := Aside0.mk hy140
           clear hy140
           have H' := Aside0.mk H
           clear H
           have p130 : 0 ≤ (x10_2 : Int) := of_decide_eq_true (by first | (with_reducible assumption) | assumption)
           have q130 : x10_2 < (l0.length : Int) := of_decide_eq_true (by first | (with_reducible assumption) | assumption)
           obtain ⟨ad130, e130, hx130_0, hx130_1, hx130_2⟩ := at_T41 HR0.out x10_2 p130 q130
           cases e130
           replace hx130_0 := (HB.out.cell (World.block_lt_of_cell? w _ hx130_0)).trans hx130_0
           replace hx130_1 := (HB.out.cell (World.block_lt_of_cell? w _ hx130_1)).trans hx130_1
           replace hx130_2 := (HB.out.cell (World.block_lt_of_cell? w _ hx130_2)).trans hx130_2
           replace p130 := eq_true p130
           replace q130 := eq_true q130
           go_wp2_with (first | ((with_reducible refine gate_dst (N := 11) rfl ?_); refine box_event ?hg (N := 11) ?hd (cs := #[.int .i64 0, .int .i64 0, .int .i64 0]) (t := 41) ?hr ?_; (case hd => rfl); (case hg => rfl); (case hr => first | (go_simp; done) | (go_simp; rfl)); intro gb131 hg w51 hbox hb; have n0_ := Aside0.mk (Kd.R_below (Kd.R_elderB (by (with_reducible repeat (first | apply Kd.R_alloc | apply Kd.R_drewN | apply Kd.R_drew)); exact HO_9.out) gb131 (Nat.le_of_eq hg.symm)) hb); have n1_ := Aside0.mk (below_step (by repeat (first | (with_reducible first | exact HB.out | apply below_alloc | apply pw_below_drewN | apply below_drew1) | exact HB.out)) hb); have n2_ := Aside0.mk (hbox); have n3_ := Aside0.mk ((by rw [hg]; exact (below_size (by repeat (first | (with_reducible first | exact HB.out | apply below_alloc | apply pw_below_drewN | apply below_drew1) | exact HB.out))) : w.heap.size ≤ gb131)); have n4_ := Aside0.mk ((by rw [hg]; exact (below_size (by repeat (first | (with_reducible first | exact HB.out | apply below_alloc | apply pw_below_drewN | apply below_drew1) | exact HB.out))) : w.heap.size ≤ gb131)); clear HO_9; clear HB; have HO_9 := n0_; have HB := n1_; have BK131 := n2_; have GW131 := n3_; have GE131 := n4_; clear n0_ n1_ n2_ n3_ n4_; clear hb hbox hg; have hcz52_0 : w51.cell? ⟨gb131, 0, none⟩ = some (.int .i64 0) := (blk_cell BK131.out 0).trans rfl; have hcz52_1 : w51.cell? ⟨gb131, 1, none⟩ = some (.int .i64 0) := (blk_cell BK131.out 1).trans rfl; have hcz52_2 : w51.cell? ⟨gb131, 2, none⟩ = some (.int .i64 0) := (blk_cell BK131.out 2).trans rfl; have hfz52_0 := blk_frozen BK131.out 0; have hfz52_1 := blk_frozen BK131.out 1; have hfz52_2 := blk_frozen BK131.out 2) | ((with_reducible refine gate_builtin (b := .append) (xs := #[.tmp 80, .tmp 82]) rfl ?_); at_builtin; refine Kd.R_append k41 (w0 := w) w.heap.size rfl (.tmp 80) (.tmp 82) 28 41 (.agg #[(.int .i64 0), (.int .i64 0), (.int .i64 0)]) 24 rfl Try.underlying28 info41 rfl (by decide) (by omega) u9 x9_2 (⟨(rd_T41 l0 x10_2).f0, (rd_T41 l0 x10_2).f1, (rd_T41 l0 x10_2).f2⟩ : S41) [.int .i64 ((rd_T41 l0 x10_2).f0), .int .i64 ((rd_T41 l0 x10_2).f1), .int .i64 ((rd_T41 l0 x10_2).f2)] (fun k_ => k_ ≠ gb131) (fun _ => False) rfl (by first | (go_simp; done) | (go_simp; rfl)) ?aP (fun _ hk => hk.elim) ?aF ?aO ?aB ?aS ?aL ?_; (case aP => exact k41_mkM _ _ _ (⟨(rd_T41 l0 x10_2).f0, (rd_T41 l0 x10_2).f1, (rd_T41 l0 x10_2).f2⟩ : S41)); (case aB => exact (by repeat (first | (with_reducible first | exact HB.out | apply below_alloc | apply pw_below_drewN | apply below_drew1 | refine below_set ?_ GE131.out) | exact HB.out))); (case aF => exact (fun k_ hk => Kd.freshB (g := gb131) (o := .cells #[.int .i64 ((rd_T41 l0 x10_2).f0), .int .i64 ((rd_T41 l0 x10_2).f1), .int .i64 ((rd_T41 l0 x10_2).f2)] 41 (0, 0)) (by (with_reducible repeat (first | refine blk_drewN ?_ _ | refine blk_drew ?_ | refine blk_alloc ?_ _)); refine blk_put (cs := #[.int .i64 ((rd_T41 l0 x10_2).f0), .int .i64 ((rd_T41 l0 x10_2).f1), .int .i64 0]) ?_ 2 _ rfl; (with_reducible repeat (first | refine blk_drewN ?_ _ | refine blk_drew ?_ | refine blk_alloc ?_ _)); refine blk_put (cs := #[.int .i64 ((rd_T41 l0 x10_2).f0), .int .i64 0, .int .i64 0]) ?_ 1 _ rfl; (with_reducible repeat (first | refine blk_drewN ?_ _ | refine blk_drew ?_ | refine blk_alloc ?_ _)); refine blk_put (cs := #[.int .i64 0, .int .i64 0, .int .i64 0]) ?_ 0 _ rfl; (with_reducible repeat (first | refine blk_drewN ?_ _ | refine blk_drew ?_ | refine blk_alloc ?_ _)); exact BK131.out) k_ hk)); (case aO => exact (by (with_reducible repeat (first | apply Kd.R_alloc | apply Kd.R_drewN | apply Kd.R_drew)); exact Kd.R_mono (Kd.R_far (p := ⟨gb131, 2, none⟩) (Kd.R_far (p := ⟨gb131, 1, none⟩) (Kd.R_far (p := ⟨gb131, 0, none⟩) (Kd.R_mono HO_9.out (fun k_ hk => (⟨hk, hk.2⟩ : _ ∧ k_ ≠ gb131))) (fun _ hk => hk.2) (.int .i64 ((rd_T41 l0 x10_2).f0))) (fun _ hk => hk.2) (.int .i64 ((rd_T41 l0 x10_2).f1))) (fun _ hk => hk.2) (.int .i64 ((rd_T41 l0 x10_2).f2))) (fun _ hk => hk.1.2))); (case aS => exact (below_size (by repeat (first | (with_reducible first | exact HB.out | apply below_alloc | apply pw_below_drewN | apply below_drew1 | refine below_set ?_ GE131.out) | exact HB.out)))); (case aL => have := LMc50.out; omega); intro v141 w53 ho hb hg hat; rw [← Ny140.out] at ho; have n0_ := Aside0.mk (blk_grown (g := gb131) (o := .cells #[.int .i64 ((rd_T41 l0 x10_2).f0), .int .i64 ((rd_T41 l0 x10_2).f1), .int .i64 ((rd_T41 l0 x10_2).f2)] 41 (0, 0)) (by (with_reducible repeat (first | refine blk_drewN ?_ _ | refine blk_drew ?_ | refine blk_alloc ?_ _)); refine blk_put (cs := #[.int .i64 ((rd_T41 l0 x10_2).f0), .int .i64 ((rd_T41 l0 x10_2).f1), .int .i64 0]) ?_ 2 _ rfl; (with_reducible repeat (first | refine blk_drewN ?_ _ | refine blk_drew ?_ | refine blk_alloc ?_ _)); refine blk_put (cs := #[.int .i64 ((rd_T41 l0 x10_2).f0), .int .i64 0, .int .i64 0]) ?_ 1 _ rfl; (with_reducible repeat (first | refine blk_drewN ?_ _ | refine blk_drew ?_ | refine blk_alloc ?_ _)); refine blk_put (cs := #[.int .i64 0, .int .i64 0, .int .i64 0]) ?_ 0 _ rfl; (with_reducible repeat (first | refine blk_drewN ?_ _ | refine blk_drew ?_ | refine blk_alloc ?_ _)); exact BK131.out) hg (Kd.R_away HO_9.out (fun _ hk => hk.2))); have n1_ := Aside0.mk (hb); have n2_ := Aside0.mk (ho); clear BK131; clear HB; clear HO_9; have BK131 := n0_; have HB := n1_; have HO142 := n2_; clear n0_ n1_ n2_; clear ho hb hg hat))
           go_roundg k2
           case measure => have := HJ3.out; have := HK2.out; omega
           case rel => exact ⟨(y140), (wrap64 (x10_2 + 1)), (by first | rfl | (simp; done) | (simp [*]; done)), H', ⟨by have := HJ3.out; have := HK2.out; omega⟩, ⟨by (with_reducible repeat (first | apply Kd.R_alloc | apply Kd.R_drewN | apply Kd.R_drew)); exact Kd.R_mono HO142.out (fun _ hk => trivial)⟩, ⟨by repeat (first | (with_reducible first | exact HB.out | apply below_alloc | apply pw_below_drewN | apply below_drew1 | refine below_set ?_ GE131.out) | exact HB.out)⟩⟩
          ·
           rw [if_neg c50] at H
           exact absurd H (by simp)
       ·
        rw [if_neg c14] at H
        exact absurd H (by simp)
      ·
       rw [if_neg c13] at H
       have c13b0 : decide (x10_2 < (l0.length : Int)) = false := decide_eq_false c13
       clear c13
       simp only [Option.some.injEq, Prod.mk.injEq] at H
       obtain ⟨rfl, rfl, rfl⟩ := H
       go_wp2
       go_ret3
       exact ⟨_, by first | rfl | (simp [errW_none, errW_some] <;> rfl) | (simp [*, errW_none, errW_some] <;> rfl), by (with_reducible repeat (first | apply Kd.R_alloc | apply Kd.R_drewN | apply Kd.R_drew)); exact HO_9.out, by repeat (first | (with_reducible first | exact HB.out | apply below_alloc | apply pw_below_drewN | apply below_drew1) | exact HB.out)⟩

end Go.Proofs.Ytoooikhkapaokaa.PFnExactReach
