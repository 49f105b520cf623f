/- Walks of the functions named below, by a program of the session over the kit's printer. -/
import Derived.Test.YtoooikhkapaokaaPFnProfilesx0
import Derived.Test.YtoooikhkapaokaaPFnProfilesx1
import Derived.Test.YtoooikhkapaokaaPFnProfilesx2
import Derived.Test.YtoooikhkapaokaaPFnProfilesx3
import Derived.Test.YtoooikhkapaokaaPFnProfilesx4
import Derived.Test.YtoooikhkapaokaaPFnProfilesx7
namespace Go.Proofs.Ytoooikhkapaokaa.PFnProfiles
open Go.RowKit Go.Proofs.YtoooikhkapaokaaW.PrintWords Go.Proofs.YtoooikhkapaokaaW.PrintLast Go.Proofs.YtoooikhkapaokaaW.PrintMore
attribute [local go_sem] max2_int min2_int max_two min_two max_three min_three max_four min_four   -- for this text's walks alone
set_option linter.unusedVariables false
set_option linter.unusedSimpArgs false

/-! ### laws_FnProfiles: function 6 -/
mutual
def laws_FnProfiles.j0 : Nat → List (S41) → Int → Int → List (S41) → Int → List (S41) → Bool → Option (Bool)
  | 0, _, _, _, _, _, _, _ => none
  | k + 1, x3, x4, x5, x6, x7, x9, x97 => if x97 = true then (some false) else (laws_FnProfiles.l0 k x3 x4 x5 x6 x7 x9 0)
def laws_FnProfiles.l0 : Nat → List (S41) → Int → Int → List (S41) → Int → List (S41) → Int → Option (Bool)
  | 0, _, _, _, _, _, _, _ => none
  | k + 1, x3, x4, x5, x6, x7, x9, x12 => if x12 < (x6.length : Int) then (if 0 ≤ x12 then (if ((rd_T41 x6 x12).f1) > ((rd_T41 x6 x12).f2) then (some false) else (if x12 < (x3.length : Int) then (if ((rd_T41 x6 x12).f1) < ((rd_T41 x3 x12).f1) then (some false) else (if ((rd_T41 x6 x12).f2) > ((rd_T41 x3 x12).f2) then (some false) else (if x12 < (x9.length : Int) then (if ((rd_T41 x9 x12).f1) > ((rd_T41 x6 x12).f1) then (some false) else (if ((rd_T41 x9 x12).f2) < ((rd_T41 x6 x12).f2) then (some false) else (laws_FnProfiles.l0 k x3 x4 x5 x6 x7 x9 (wrap64 (x12 + 1))))) else (laws_FnProfiles.l0 k x3 x4 x5 x6 x7 x9 (wrap64 (x12 + 1)))))) else (none))) else (none)) else ((impl_Best.f k x3 x4 x5).bind fun bt261 => (laws_FnProfiles.j2 k x3 x4 x5 x6 x7 bt261.1 bt261.2))
def laws_FnProfiles.j2 : Nat → List (S41) → Int → Int → List (S41) → Int → Int → Bool → Option (Bool)
  | 0, _, _, _, _, _, _, _ => none
  | k + 1, x3, x4, x5, x6, x7, x13, x14 => if (x14 != (x7 == (-1))) = true then (if 0 < (x3.length : Int) then (some (decide (((rd_T41 x3 0).f2) > 300))) else (none)) else (if x14 = true then ((impl_Profile.f k x3 x4 x5 x13).bind fun bt264 => (laws_FnProfiles.j3 k x3 x4 x5 x6 x13 bt264.1 bt264.2)) else (some true))
def laws_FnProfiles.j3 : Nat → List (S41) → Int → Int → List (S41) → Int → List Int → Bool → Option (Bool)
  | 0, _, _, _, _, _, _, _ => none
  | k + 1, x3, x4, x5, x6, x13, x15, x16 => if x16 = true then (if (x15.length : Int) = (x3.length : Int) then (if 0 < (x15.length : Int) then (laws_FnProfiles.j4 k x3 x4 x5 x6 x15 ((rd x15 0) != x13)) else (none)) else (laws_FnProfiles.j4 k x3 x4 x5 x6 x15 true)) else (laws_FnProfiles.j4 k x3 x4 x5 x6 x15 true)
def laws_FnProfiles.j4 : Nat → List (S41) → Int → Int → List (S41) → List Int → Bool → Option (Bool)
  | 0, _, _, _, _, _, _ => none
  | k + 1, x3, x4, x5, x6, x15, x214 => if x214 = true then (some false) else (laws_FnProfiles.l1 k x3 x4 x5 x6 x15 0)
def laws_FnProfiles.l1 : Nat → List (S41) → Int → Int → List (S41) → List Int → Int → Option (Bool)
  | 0, _, _, _, _, _, _ => none
  | k + 1, x3, x4, x5, x6, x15, x17 => if x17 < (x15.length : Int) then (if 0 ≤ x17 then (if x17 < (x6.length : Int) then (if (rd x15 x17) < ((rd_T41 x6 x17).f1) then (laws_FnProfiles.j6 k x3 x4 x5 x6 x15 x17 true) else (laws_FnProfiles.j6 k x3 x4 x5 x6 x15 x17 (decide ((rd x15 x17) > ((rd_T41 x6 x17).f2))))) else (none)) else (none)) else ((impl_Descent.f 30 4 20).bind fun bt269 => (if bt269.2 = true then (some (bt269.1 == 12)) else (some false)))
def laws_FnProfiles.j6 : Nat → List (S41) → Int → Int → List (S41) → List Int → Int → Bool → Option (Bool)
  | 0, _, _, _, _, _, _, _ => none
  | k + 1, x3, x4, x5, x6, x15, x17, x242 => if x242 = true then (some false) else (if x17 > 0 then (if 0 ≤ x17 then (if x17 < (x3.length : Int) then (if 0 ≤ (wrap64 (x17 - 1)) then (if (wrap64 (x17 - 1)) < (x3.length : Int) then (if x17 < (x15.length : Int) then (if (wrap64 (x17 - 1)) < (x15.length : Int) then (if (wrap64 ((rd x15 x17) - (rd x15 (wrap64 (x17 - 1))))) > (wrap64 (x4 * (wrap64 (((rd_T41 x3 x17).f0) - ((rd_T41 x3 (wrap64 (x17 - 1))).f0))))) then (some false) else (if (wrap64 ((rd x15 (wrap64 (x17 - 1))) - (rd x15 x17))) > (wrap64 (x5 * (wrap64 (((rd_T41 x3 x17).f0) - ((rd_T41 x3 (wrap64 (x17 - 1))).f0))))) then (some false) else (laws_FnProfiles.l1 k x3 x4 x5 x6 x15 (wrap64 (x17 + 1))))) else (none)) else (none)) else (none)) else (none)) else (none)) else (none)) else (laws_FnProfiles.l1 k x3 x4 x5 x6 x15 (wrap64 (x17 + 1))))
end
def laws_FnProfiles.f (k : Nat) (l0 : List Int) : Option (Bool) := (laws_big.f l0).bind fun t234 => (if t234 = true then (some true) else ((spec_DrawPoints.f k l0).bind fun t235 => ((laws_at.f l0 1).bind fun t238 => ((laws_at.f l0 2).bind fun t239 => ((impl_Reach.f k t235 (Int.tmod t238 8) (Int.tmod t239 8)).bind fun bt240 => ((impl_Reach.f k t235 (wrap64 ((Int.tmod t238 8) + 1)) (wrap64 ((Int.tmod t239 8) + 2))).bind fun bt245 => (if bt240.2.2 = true then (if bt245.2.2 = true then ((impl_PointsOk.f k t235).bind fun t250 => (if t250 = true then (if bt240.2.1 = (-1) then (if (bt240.1.length : Int) = (t235.length : Int) then (if bt240.2.1 ≥ 0 then (if (bt240.1.length : Int) = bt240.2.1 then (if bt245.2.1 ≥ 0 then (if bt245.2.1 < bt240.2.1 then (laws_FnProfiles.j0 k t235 (Int.tmod t238 8) (Int.tmod t239 8) bt240.1 bt240.2.1 bt245.1 true) else (laws_FnProfiles.j0 k t235 (Int.tmod t238 8) (Int.tmod t239 8) bt240.1 bt240.2.1 bt245.1 (bt245.2.1 != (-1)))) else (laws_FnProfiles.j0 k t235 (Int.tmod t238 8) (Int.tmod t239 8) bt240.1 bt240.2.1 bt245.1 (bt245.2.1 != (-1)))) else (laws_FnProfiles.j0 k t235 (Int.tmod t238 8) (Int.tmod t239 8) bt240.1 bt240.2.1 bt245.1 true)) else (laws_FnProfiles.j0 k t235 (Int.tmod t238 8) (Int.tmod t239 8) bt240.1 bt240.2.1 bt245.1 (bt245.2.1 != (-1)))) else (laws_FnProfiles.j0 k t235 (Int.tmod t238 8) (Int.tmod t239 8) bt240.1 bt240.2.1 bt245.1 true)) else (if bt240.2.1 ≥ 0 then (if (bt240.1.length : Int) = bt240.2.1 then (if bt245.2.1 ≥ 0 then (if bt245.2.1 < bt240.2.1 then (laws_FnProfiles.j0 k t235 (Int.tmod t238 8) (Int.tmod t239 8) bt240.1 bt240.2.1 bt245.1 true) else (laws_FnProfiles.j0 k t235 (Int.tmod t238 8) (Int.tmod t239 8) bt240.1 bt240.2.1 bt245.1 false)) else (laws_FnProfiles.j0 k t235 (Int.tmod t238 8) (Int.tmod t239 8) bt240.1 bt240.2.1 bt245.1 false)) else (laws_FnProfiles.j0 k t235 (Int.tmod t238 8) (Int.tmod t239 8) bt240.1 bt240.2.1 bt245.1 true)) else (laws_FnProfiles.j0 k t235 (Int.tmod t238 8) (Int.tmod t239 8) bt240.1 bt240.2.1 bt245.1 false))) else (laws_FnProfiles.j0 k t235 (Int.tmod t238 8) (Int.tmod t239 8) bt240.1 bt240.2.1 bt245.1 true))) else (laws_FnProfiles.j0 k t235 (Int.tmod t238 8) (Int.tmod t239 8) bt240.1 bt240.2.1 bt245.1 true)) else (laws_FnProfiles.j0 k t235 (Int.tmod t238 8) (Int.tmod t239 8) bt240.1 bt240.2.1 bt245.1 true))))))))
theorem laws_FnProfiles.mono_l : ∀ k, (∀ y0 y1 y2 y3 y4 y5 y6, LeO (laws_FnProfiles.j0 k y0 y1 y2 y3 y4 y5 y6) (laws_FnProfiles.j0 (k + 1) y0 y1 y2 y3 y4 y5 y6)) ∧ (∀ y0 y1 y2 y3 y4 y5 y6, LeO (laws_FnProfiles.l0 k y0 y1 y2 y3 y4 y5 y6) (laws_FnProfiles.l0 (k + 1) y0 y1 y2 y3 y4 y5 y6)) ∧ (∀ y0 y1 y2 y3 y4 y5 y6, LeO (laws_FnProfiles.j2 k y0 y1 y2 y3 y4 y5 y6) (laws_FnProfiles.j2 (k + 1) y0 y1 y2 y3 y4 y5 y6)) ∧ (∀ y0 y1 y2 y3 y4 y5 y6, LeO (laws_FnProfiles.j3 k y0 y1 y2 y3 y4 y5 y6) (laws_FnProfiles.j3 (k + 1) y0 y1 y2 y3 y4 y5 y6)) ∧ (∀ y0 y1 y2 y3 y4 y5, LeO (laws_FnProfiles.j4 k y0 y1 y2 y3 y4 y5) (laws_FnProfiles.j4 (k + 1) y0 y1 y2 y3 y4 y5)) ∧ (∀ y0 y1 y2 y3 y4 y5, LeO (laws_FnProfiles.l1 k y0 y1 y2 y3 y4 y5) (laws_FnProfiles.l1 (k + 1) y0 y1 y2 y3 y4 y5)) ∧ (∀ y0 y1 y2 y3 y4 y5 y6, LeO (laws_FnProfiles.j6 k y0 y1 y2 y3 y4 y5 y6) (laws_FnProfiles.j6 (k + 1) y0 y1 y2 y3 y4 y5 y6))
  | 0 => ⟨fun _ _ _ _ _ _ _ r h => by simp [laws_FnProfiles.j0] at h, fun _ _ _ _ _ _ _ r h => by simp [laws_FnProfiles.l0] at h, fun _ _ _ _ _ _ _ r h => by simp [laws_FnProfiles.j2] at h, fun _ _ _ _ _ _ _ r h => by simp [laws_FnProfiles.j3] at h, fun _ _ _ _ _ _ r h => by simp [laws_FnProfiles.j4] at h, fun _ _ _ _ _ _ r h => by simp [laws_FnProfiles.l1] at h, fun _ _ _ _ _ _ _ r h => by simp [laws_FnProfiles.j6] at h⟩
  | k + 1 => by
    obtain ⟨ih0, ih1, ih2, ih3, ih4, ih5, ih6⟩ := laws_FnProfiles.mono_l k
    refine ⟨?_, ?_, ?_, ?_, ?_, ?_, ?_⟩
    · intro y0 y1 y2 y3 y4 y5 y6
      unfold laws_FnProfiles.j0
      repeat' first
      | (with_reducible exact ih0 _ _ _ _ _ _ _)
      | (with_reducible exact ih1 _ _ _ _ _ _ _)
      | (with_reducible exact ih2 _ _ _ _ _ _ _)
      | (with_reducible exact ih3 _ _ _ _ _ _ _)
      | (with_reducible exact ih4 _ _ _ _ _ _)
      | (with_reducible exact ih5 _ _ _ _ _ _)
      | (with_reducible exact ih6 _ _ _ _ _ _ _)
      | (with_reducible exact impl_Best.mono _ _ _ _)
      | (with_reducible exact impl_PointsOk.mono _ _)
      | (with_reducible exact impl_Profile.mono _ _ _ _ _)
      | (with_reducible exact impl_Reach.mono _ _ _ _)
      | (with_reducible exact spec_DrawPoints.mono _ _)
      | (with_reducible exact LeO.refl _)
      | (with_reducible exact LeO.none _)
      | (with_reducible refine LeO.ite ?_ ?_)
      | (with_reducible refine LeO.bind ?_ (fun _ => ?_))
      | exact ih0 _ _ _ _ _ _ _
      | exact ih1 _ _ _ _ _ _ _
      | exact ih2 _ _ _ _ _ _ _
      | exact ih3 _ _ _ _ _ _ _
      | exact ih4 _ _ _ _ _ _
      | exact ih5 _ _ _ _ _ _
      | exact ih6 _ _ _ _ _ _ _
      | exact impl_Best.mono _ _ _ _
      | exact impl_PointsOk.mono _ _
      | exact impl_Profile.mono _ _ _ _ _
      | exact impl_Reach.mono _ _ _ _
      | exact spec_DrawPoints.mono _ _
      | exact LeO.none _
      | refine LeO.ite ?_ ?_
      | refine LeO.bind ?_ (fun _ => ?_)
    · intro y0 y1 y2 y3 y4 y5 y6
      unfold laws_FnProfiles.l0
      repeat' first
      | (with_reducible exact ih0 _ _ _ _ _ _ _)
      | (with_reducible exact ih1 _ _ _ _ _ _ _)
      | (with_reducible exact ih2 _ _ _ _ _ _ _)
      | (with_reducible exact ih3 _ _ _ _ _ _ _)
      | (with_reducible exact ih4 _ _ _ _ _ _)
      | (with_reducible exact ih5 _ _ _ _ _ _)
      | (with_reducible exact ih6 _ _ _ _ _ _ _)
      | (with_reducible exact impl_Best.mono _ _ _ _)
      | (with_reducible exact impl_PointsOk.mono _ _)
      | (with_reducible exact impl_Profile.mono _ _ _ _ _)
      | (with_reducible exact impl_Reach.mono _ _ _ _)
      | (with_reducible exact spec_DrawPoints.mono _ _)
      | (with_reducible exact LeO.refl _)
      | (with_reducible exact LeO.none _)
      | (with_reducible refine LeO.ite ?_ ?_)
      | (with_reducible refine LeO.bind ?_ (fun _ => ?_))
      | exact ih0 _ _ _ _ _ _ _
      | exact ih1 _ _ _ _ _ _ _
      | exact ih2 _ _ _ _ _ _ _
      | exact ih3 _ _ _ _ _ _ _
      | exact ih4 _ _ _ _ _ _
      | exact ih5 _ _ _ _ _ _
      | exact ih6 _ _ _ _ _ _ _
      | exact impl_Best.mono _ _ _ _
      | exact impl_PointsOk.mono _ _
      | exact impl_Profile.mono _ _ _ _ _
      | exact impl_Reach.mono _ _ _ _
      | exact spec_DrawPoints.mono _ _
      | exact LeO.none _
      | refine LeO.ite ?_ ?_
      | refine LeO.bind ?_ (fun _ => ?_)
    · intro y0 y1 y2 y3 y4 y5 y6
      unfold laws_FnProfiles.j2
      repeat' first
      | (with_reducible exact ih0 _ _ _ _ _ _ _)
      | (with_reducible exact ih1 _ _ _ _ _ _ _)
      | (with_reducible exact ih2 _ _ _ _ _ _ _)
      | (with_reducible exact ih3 _ _ _ _ _ _ _)
      | (with_reducible exact ih4 _ _ _ _ _ _)
      | (with_reducible exact ih5 _ _ _ _ _ _)
      | (with_reducible exact ih6 _ _ _ _ _ _ _)
      | (with_reducible exact impl_Best.mono _ _ _ _)
      | (with_reducible exact impl_PointsOk.mono _ _)
      | (with_reducible exact impl_Profile.mono _ _ _ _ _)
      | (with_reducible exact impl_Reach.mono _ _ _ _)
      | (with_reducible exact spec_DrawPoints.mono _ _)
      | (with_reducible exact LeO.refl _)
      | (with_reducible exact LeO.none _)
      | (with_reducible refine LeO.ite ?_ ?_)
      | (with_reducible refine LeO.bind ?_ (fun _ => ?_))
      | exact ih0 _ _ _ _ _ _ _
      | exact ih1 _ _ _ _ _ _ _
      | exact ih2 _ _ _ _ _ _ _
      | exact ih3 _ _ _ _ _ _ _
      | exact ih4 _ _ _ _ _ _
      | exact ih5 _ _ _ _ _ _
      | exact ih6 _ _ _ _ _ _ _
      | exact impl_Best.mono _ _ _ _
      | exact impl_PointsOk.mono _ _
      | exact impl_Profile.mono _ _ _ _ _
      | exact impl_Reach.mono _ _ _ _
      | exact spec_DrawPoints.mono _ _
      | exact LeO.none _
      | refine LeO.ite ?_ ?_
      | refine LeO.bind ?_ (fun _ => ?_)
    · intro y0 y1 y2 y3 y4 y5 y6
      unfold laws_FnProfiles.j3
      repeat' first
      | (with_reducible exact ih0 _ _ _ _ _ _ _)
      | (with_reducible exact ih1 _ _ _ _ _ _ _)
      | (with_reducible exact ih2 _ _ _ _ _ _ _)
      | (with_reducible exact ih3 _ _ _ _ _ _ _)
      | (with_reducible exact ih4 _ _ _ _ _ _)
      | (with_reducible exact ih5 _ _ _ _ _ _)
      | (with_reducible exact ih6 _ _ _ _ _ _ _)
      | (with_reducible exact impl_Best.mono _ _ _ _)
      | (with_reducible exact impl_PointsOk.mono _ _)
      | (with_reducible exact impl_Profile.mono _ _ _ _ _)
      | (with_reducible exact impl_Reach.mono _ _ _ _)
      | (with_reducible exact spec_DrawPoints.mono _ _)
      | (with_reducible exact LeO.refl _)
      | (with_reducible exact LeO.none _)
      | (with_reducible refine LeO.ite ?_ ?_)
      | (with_reducible refine LeO.bind ?_ (fun _ => ?_))
      | exact ih0 _ _ _ _ _ _ _
      | exact ih1 _ _ _ _ _ _ _
      | exact ih2 _ _ _ _ _ _ _
      | exact ih3 _ _ _ _ _ _ _
      | exact ih4 _ _ _ _ _ _
      | exact ih5 _ _ _ _ _ _
      | exact ih6 _ _ _ _ _ _ _
      | exact impl_Best.mono _ _ _ _
      | exact impl_PointsOk.mono _ _
      | exact impl_Profile.mono _ _ _ _ _
      | exact impl_Reach.mono _ _ _ _
      | exact spec_DrawPoints.mono _ _
      | exact LeO.none _
      | refine LeO.ite ?_ ?_
      | refine LeO.bind ?_ (fun _ => ?_)
    · intro y0 y1 y2 y3 y4 y5
      unfold laws_FnProfiles.j4
      repeat' first
      | (with_reducible exact ih0 _ _ _ _ _ _ _)
      | (with_reducible exact ih1 _ _ _ _ _ _ _)
      | (with_reducible exact ih2 _ _ _ _ _ _ _)
      | (with_reducible exact ih3 _ _ _ _ _ _ _)
      | (with_reducible exact ih4 _ _ _ _ _ _)
      | (with_reducible exact ih5 _ _ _ _ _ _)
      | (with_reducible exact ih6 _ _ _ _ _ _ _)
      | (with_reducible exact impl_Best.mono _ _ _ _)
      | (with_reducible exact impl_PointsOk.mono _ _)
      | (with_reducible exact impl_Profile.mono _ _ _ _ _)
      | (with_reducible exact impl_Reach.mono _ _ _ _)
      | (with_reducible exact spec_DrawPoints.mono _ _)
      | (with_reducible exact LeO.refl _)
      | (with_reducible exact LeO.none _)
      | (with_reducible refine LeO.ite ?_ ?_)
      | (with_reducible refine LeO.bind ?_ (fun _ => ?_))
      | exact ih0 _ _ _ _ _ _ _
      | exact ih1 _ _ _ _ _ _ _
      | exact ih2 _ _ _ _ _ _ _
      | exact ih3 _ _ _ _ _ _ _
      | exact ih4 _ _ _ _ _ _
      | exact ih5 _ _ _ _ _ _
      | exact ih6 _ _ _ _ _ _ _
      | exact impl_Best.mono _ _ _ _
      | exact impl_PointsOk.mono _ _
      | exact impl_Profile.mono _ _ _ _ _
      | exact impl_Reach.mono _ _ _ _
      | exact spec_DrawPoints.mono _ _
      | exact LeO.none _
      | refine LeO.ite ?_ ?_
      | refine LeO.bind ?_ (fun _ => ?_)
    · intro y0 y1 y2 y3 y4 y5
      unfold laws_FnProfiles.l1
      repeat' first
      | (with_reducible exact ih0 _ _ _ _ _ _ _)
      | (with_reducible exact ih1 _ _ _ _ _ _ _)
      | (with_reducible exact ih2 _ _ _ _ _ _ _)
      | (with_reducible exact ih3 _ _ _ _ _ _ _)
      | (with_reducible exact ih4 _ _ _ _ _ _)
      | (with_reducible exact ih5 _ _ _ _ _ _)
      | (with_reducible exact ih6 _ _ _ _ _ _ _)
      | (with_reducible exact impl_Best.mono _ _ _ _)
      | (with_reducible exact impl_PointsOk.mono _ _)
      | (with_reducible exact impl_Profile.mono _ _ _ _ _)
      | (with_reducible exact impl_Reach.mono _ _ _ _)
      | (with_reducible exact spec_DrawPoints.mono _ _)
      | (with_reducible exact LeO.refl _)
      | (with_reducible exact LeO.none _)
      | (with_reducible refine LeO.ite ?_ ?_)
      | (with_reducible refine LeO.bind ?_ (fun _ => ?_))
      | exact ih0 _ _ _ _ _ _ _
      | exact ih1 _ _ _ _ _ _ _
      | exact ih2 _ _ _ _ _ _ _
      | exact ih3 _ _ _ _ _ _ _
      | exact ih4 _ _ _ _ _ _
      | exact ih5 _ _ _ _ _ _
      | exact ih6 _ _ _ _ _ _ _
      | exact impl_Best.mono _ _ _ _
      | exact impl_PointsOk.mono _ _
      | exact impl_Profile.mono _ _ _ _ _
      | exact impl_Reach.mono _ _ _ _
      | exact spec_DrawPoints.mono _ _
      | exact LeO.none _
      | refine LeO.ite ?_ ?_
      | refine LeO.bind ?_ (fun _ => ?_)
    · intro y0 y1 y2 y3 y4 y5 y6
      unfold laws_FnProfiles.j6
      repeat' first
      | (with_reducible exact ih0 _ _ _ _ _ _ _)
      | (with_reducible exact ih1 _ _ _ _ _ _ _)
      | (with_reducible exact ih2 _ _ _ _ _ _ _)
      | (with_reducible exact ih3 _ _ _ _ _ _ _)
      | (with_reducible exact ih4 _ _ _ _ _ _)
      | (with_reducible exact ih5 _ _ _ _ _ _)
      | (with_reducible exact ih6 _ _ _ _ _ _ _)
      | (with_reducible exact impl_Best.mono _ _ _ _)
      | (with_reducible exact impl_PointsOk.mono _ _)
      | (with_reducible exact impl_Profile.mono _ _ _ _ _)
      | (with_reducible exact impl_Reach.mono _ _ _ _)
      | (with_reducible exact spec_DrawPoints.mono _ _)
      | (with_reducible exact LeO.refl _)
      | (with_reducible exact LeO.none _)
      | (with_reducible refine LeO.ite ?_ ?_)
      | (with_reducible refine LeO.bind ?_ (fun _ => ?_))
      | exact ih0 _ _ _ _ _ _ _
      | exact ih1 _ _ _ _ _ _ _
      | exact ih2 _ _ _ _ _ _ _
      | exact ih3 _ _ _ _ _ _ _
      | exact ih4 _ _ _ _ _ _
      | exact ih5 _ _ _ _ _ _
      | exact ih6 _ _ _ _ _ _ _
      | exact impl_Best.mono _ _ _ _
      | exact impl_PointsOk.mono _ _
      | exact impl_Profile.mono _ _ _ _ _
      | exact impl_Reach.mono _ _ _ _
      | exact spec_DrawPoints.mono _ _
      | exact LeO.none _
      | refine LeO.ite ?_ ?_
      | refine LeO.bind ?_ (fun _ => ?_)
theorem laws_FnProfiles.mono : ∀ a0 k, LeO (laws_FnProfiles.f k a0) (laws_FnProfiles.f (k + 1) a0) := by
  intro a0 k
  obtain ⟨ih0, ih1, ih2, ih3, ih4, ih5, ih6⟩ := laws_FnProfiles.mono_l k
  unfold laws_FnProfiles.f
  repeat' first
      | (with_reducible exact ih0 _ _ _ _ _ _ _)
      | (with_reducible exact ih1 _ _ _ _ _ _ _)
      | (with_reducible exact ih2 _ _ _ _ _ _ _)
      | (with_reducible exact ih3 _ _ _ _ _ _ _)
      | (with_reducible exact ih4 _ _ _ _ _ _)
      | (with_reducible exact ih5 _ _ _ _ _ _)
      | (with_reducible exact ih6 _ _ _ _ _ _ _)
      | (with_reducible exact impl_Best.mono _ _ _ _)
      | (with_reducible exact impl_PointsOk.mono _ _)
      | (with_reducible exact impl_Profile.mono _ _ _ _ _)
      | (with_reducible exact impl_Reach.mono _ _ _ _)
      | (with_reducible exact spec_DrawPoints.mono _ _)
      | (with_reducible exact LeO.refl _)
      | (with_reducible exact LeO.none _)
      | (with_reducible refine LeO.ite ?_ ?_)
      | (with_reducible refine LeO.bind ?_ (fun _ => ?_))
      | exact ih0 _ _ _ _ _ _ _
      | exact ih1 _ _ _ _ _ _ _
      | exact ih2 _ _ _ _ _ _ _
      | exact ih3 _ _ _ _ _ _ _
      | exact ih4 _ _ _ _ _ _
      | exact ih5 _ _ _ _ _ _
      | exact ih6 _ _ _ _ _ _ _
      | exact impl_Best.mono _ _ _ _
      | exact impl_PointsOk.mono _ _
      | exact impl_Profile.mono _ _ _ _ _
      | exact impl_Reach.mono _ _ _ _
      | exact spec_DrawPoints.mono _ _
      | exact LeO.none _
      | refine LeO.ite ?_ ?_
      | refine LeO.bind ?_ (fun _ => ?_)
set_option maxHeartbeats 8000000 in
set_option maxRecDepth 100000 in
theorem laws_FnProfiles.calls (k : Nat) (A0 : Option Addr) (c0 : Nat) (l0 : List Int) (r : Bool) (w : World) (hr0 : Kd.C (Kd.int .u8) w A0 l0.length l0) (hc0 : l0.length ≤ c0) (h : laws_FnProfiles.f k l0 = some r) :
    Calls Try.prog 6 #[.slice A0 l0.length c0] w fun e w' => e = .returned (.bool r) ∧ Below w.heap.size w w' := by
  have HR0 := Aside0.mk hr0
  have HC0 := Aside0.mk hc0
  clear hr0 hc0
  have HB := Aside0.mk (Below.refl w.heap.size w)
  have H : ((laws_big.f l0).bind fun t234 => (if t234 = true then (some true) else ((spec_DrawPoints.f k l0).bind fun t235 => ((laws_at.f l0 1).bind fun t238 => ((laws_at.f l0 2).bind fun t239 => ((impl_Reach.f k t235 (Int.tmod t238 8) (Int.tmod t239 8)).bind fun bt240 => ((impl_Reach.f k t235 (wrap64 ((Int.tmod t238 8) + 1)) (wrap64 ((Int.tmod t239 8) + 2))).bind fun bt245 => (if bt240.2.2 = true then (if bt245.2.2 = true then ((impl_PointsOk.f k t235).bind fun t250 => (if t250 = true then (if bt240.2.1 = (-1) then (if (bt240.1.length : Int) = (t235.length : Int) then (if bt240.2.1 ≥ 0 then (if (bt240.1.length : Int) = bt240.2.1 then (if bt245.2.1 ≥ 0 then (if bt245.2.1 < bt240.2.1 then (laws_FnProfiles.j0 k t235 (Int.tmod t238 8) (Int.tmod t239 8) bt240.1 bt240.2.1 bt245.1 true) else (laws_FnProfiles.j0 k t235 (Int.tmod t238 8) (Int.tmod t239 8) bt240.1 bt240.2.1 bt245.1 (bt245.2.1 != (-1)))) else (laws_FnProfiles.j0 k t235 (Int.tmod t238 8) (Int.tmod t239 8) bt240.1 bt240.2.1 bt245.1 (bt245.2.1 != (-1)))) else (laws_FnProfiles.j0 k t235 (Int.tmod t238 8) (Int.tmod t239 8) bt240.1 bt240.2.1 bt245.1 true)) else (laws_FnProfiles.j0 k t235 (Int.tmod t238 8) (Int.tmod t239 8) bt240.1 bt240.2.1 bt245.1 (bt245.2.1 != (-1)))) else (laws_FnProfiles.j0 k t235 (Int.tmod t238 8) (Int.tmod t239 8) bt240.1 bt240.2.1 bt245.1 true)) else (if bt240.2.1 ≥ 0 then (if (bt240.1.length : Int) = bt240.2.1 then (if bt245.2.1 ≥ 0 then (if bt245.2.1 < bt240.2.1 then (laws_FnProfiles.j0 k t235 (Int.tmod t238 8) (Int.tmod t239 8) bt240.1 bt240.2.1 bt245.1 true) else (laws_FnProfiles.j0 k t235 (Int.tmod t238 8) (Int.tmod t239 8) bt240.1 bt240.2.1 bt245.1 false)) else (laws_FnProfiles.j0 k t235 (Int.tmod t238 8) (Int.tmod t239 8) bt240.1 bt240.2.1 bt245.1 false)) else (laws_FnProfiles.j0 k t235 (Int.tmod t238 8) (Int.tmod t239 8) bt240.1 bt240.2.1 bt245.1 true)) else (laws_FnProfiles.j0 k t235 (Int.tmod t238 8) (Int.tmod t239 8) bt240.1 bt240.2.1 bt245.1 false))) else (laws_FnProfiles.j0 k t235 (Int.tmod t238 8) (Int.tmod t239 8) bt240.1 bt240.2.1 bt245.1 true))) else (laws_FnProfiles.j0 k t235 (Int.tmod t238 8) (Int.tmod t239 8) bt240.1 bt240.2.1 bt245.1 true)) else (laws_FnProfiles.j0 k t235 (Int.tmod t238 8) (Int.tmod t239 8) bt240.1 bt240.2.1 bt245.1 true))))))))) = some r := h
  clear h
  replace H := Option.bind_eq_some_iff.mp H
  obtain ⟨t234, A20, H⟩ := H
  replace H : (if t234 = true then (some true) else ((spec_DrawPoints.f k l0).bind fun t235 => ((laws_at.f l0 1).bind fun t238 => ((laws_at.f l0 2).bind fun t239 => ((impl_Reach.f k t235 (Int.tmod t238 8) (Int.tmod t239 8)).bind fun bt240 => ((impl_Reach.f k t235 (wrap64 ((Int.tmod t238 8) + 1)) (wrap64 ((Int.tmod t239 8) + 2))).bind fun bt245 => (if bt240.2.2 = true then (if bt245.2.2 = true then ((impl_PointsOk.f k t235).bind fun t250 => (if t250 = true then (if bt240.2.1 = (-1) then (if (bt240.1.length : Int) = (t235.length : Int) then (if bt240.2.1 ≥ 0 then (if (bt240.1.length : Int) = bt240.2.1 then (if bt245.2.1 ≥ 0 then (if bt245.2.1 < bt240.2.1 then (laws_FnProfiles.j0 k t235 (Int.tmod t238 8) (Int.tmod t239 8) bt240.1 bt240.2.1 bt245.1 true) else (laws_FnProfiles.j0 k t235 (Int.tmod t238 8) (Int.tmod t239 8) bt240.1 bt240.2.1 bt245.1 (bt245.2.1 != (-1)))) else (laws_FnProfiles.j0 k t235 (Int.tmod t238 8) (Int.tmod t239 8) bt240.1 bt240.2.1 bt245.1 (bt245.2.1 != (-1)))) else (laws_FnProfiles.j0 k t235 (Int.tmod t238 8) (Int.tmod t239 8) bt240.1 bt240.2.1 bt245.1 true)) else (laws_FnProfiles.j0 k t235 (Int.tmod t238 8) (Int.tmod t239 8) bt240.1 bt240.2.1 bt245.1 (bt245.2.1 != (-1)))) else (laws_FnProfiles.j0 k t235 (Int.tmod t238 8) (Int.tmod t239 8) bt240.1 bt240.2.1 bt245.1 true)) else (if bt240.2.1 ≥ 0 then (if (bt240.1.length : Int) = bt240.2.1 then (if bt245.2.1 ≥ 0 then (if bt245.2.1 < bt240.2.1 then (laws_FnProfiles.j0 k t235 (Int.tmod t238 8) (Int.tmod t239 8) bt240.1 bt240.2.1 bt245.1 true) else (laws_FnProfiles.j0 k t235 (Int.tmod t238 8) (Int.tmod t239 8) bt240.1 bt240.2.1 bt245.1 false)) else (laws_FnProfiles.j0 k t235 (Int.tmod t238 8) (Int.tmod t239 8) bt240.1 bt240.2.1 bt245.1 false)) else (laws_FnProfiles.j0 k t235 (Int.tmod t238 8) (Int.tmod t239 8) bt240.1 bt240.2.1 bt245.1 true)) else (laws_FnProfiles.j0 k t235 (Int.tmod t238 8) (Int.tmod t239 8) bt240.1 bt240.2.1 bt245.1 false))) else (laws_FnProfiles.j0 k t235 (Int.tmod t238 8) (Int.tmod t239 8) bt240.1 bt240.2.1 bt245.1 true))) else (laws_FnProfiles.j0 k t235 (Int.tmod t238 8) (Int.tmod t239 8) bt240.1 bt240.2.1 bt245.1 true)) else (laws_FnProfiles.j0 k t235 (Int.tmod t238 8) (Int.tmod t239 8) bt240.1 bt240.2.1 bt245.1 true)))))))) = some r := H
  have A2 := Aside0.mk A20
  clear A20
  by_cases c3 : t234 = true
  · subst c3
    have H1 : (some true) = some r := by rw [if_pos rfl] at H; exact H
    clear H
    have H := H1
    clear H1
    obtain rfl := Option.some.inj H
    go_enter Try.func6, Try.ntmps6
    go_wp2_with (first | (go_at_call 20; (with_reducible refine (laws_big.calls _ _ l0 true _ ?side1 ?side2 A2.out).mono ?_); (case side1 => repeat (first | exact HR0.out | (with_reducible refine Kd.C_alloc ?_ _) | (with_reducible refine Kd.C_drewN ?_ _) | (with_reducible refine Kd.C_drew ?_))); (case side2 => exact HC0.out); rintro e w' ⟨rfl, ⟨nd, rfl⟩⟩; (try first | exact ⟨rfl, _, World.drewN_drewN _ _ _⟩ | exact ⟨rfl, _, Eq.trans (World.drewN_drewN _ _ _) (congrArg (World.drewN _) (Nat.add_assoc _ _ _))⟩)))
    repeat (go_quiet (first | (go_at_call 20; (with_reducible refine (laws_big.calls _ _ l0 true _ ?side1 ?side2 A2.out).mono ?_); (case side1 => repeat (first | exact HR0.out | (with_reducible refine Kd.C_alloc ?_ _) | (with_reducible refine Kd.C_drewN ?_ _) | (with_reducible refine Kd.C_drew ?_))); (case side2 => exact HC0.out); rintro e w' ⟨rfl, ⟨nd, rfl⟩⟩; (try first | exact ⟨rfl, _, World.drewN_drewN _ _ _⟩ | exact ⟨rfl, _, Eq.trans (World.drewN_drewN _ _ _) (congrArg (World.drewN _) (Nat.add_assoc _ _ _))⟩))); try go_wp2_with (first | (go_at_call 20; (with_reducible refine (laws_big.calls _ _ l0 true _ ?side1 ?side2 A2.out).mono ?_); (case side1 => repeat (first | exact HR0.out | (with_reducible refine Kd.C_alloc ?_ _) | (with_reducible refine Kd.C_drewN ?_ _) | (with_reducible refine Kd.C_drew ?_))); (case side2 => exact HC0.out); rintro e w' ⟨rfl, ⟨nd, rfl⟩⟩; (try first | exact ⟨rfl, _, World.drewN_drewN _ _ _⟩ | exact ⟨rfl, _, Eq.trans (World.drewN_drewN _ _ _) (congrArg (World.drewN _) (Nat.add_assoc _ _ _))⟩))))
    go_ret
    exact ⟨by first | rfl | (simp [errW_none, errW_some] <;> rfl) | (simp [*, errW_none, errW_some] <;> rfl), by repeat (first | (with_reducible first | exact HB.out | apply below_alloc | apply pw_below_drewN | apply below_drew1) | exact HB.out)⟩
  · replace c3 := Bool.eq_false_iff.mpr c3
    subst c3
    have H1 : ((spec_DrawPoints.f k l0).bind fun t235 => ((laws_at.f l0 1).bind fun t238 => ((laws_at.f l0 2).bind fun t239 => ((impl_Reach.f k t235 (Int.tmod t238 8) (Int.tmod t239 8)).bind fun bt240 => ((impl_Reach.f k t235 (wrap64 ((Int.tmod t238 8) + 1)) (wrap64 ((Int.tmod t239 8) + 2))).bind fun bt245 => (if bt240.2.2 = true then (if bt245.2.2 = true then ((impl_PointsOk.f k t235).bind fun t250 => (if t250 = true then (if bt240.2.1 = (-1) then (if (bt240.1.length : Int) = (t235.length : Int) then (if bt240.2.1 ≥ 0 then (if (bt240.1.length : Int) = bt240.2.1 then (if bt245.2.1 ≥ 0 then (if bt245.2.1 < bt240.2.1 then (laws_FnProfiles.j0 k t235 (Int.tmod t238 8) (Int.tmod t239 8) bt240.1 bt240.2.1 bt245.1 true) else (laws_FnProfiles.j0 k t235 (Int.tmod t238 8) (Int.tmod t239 8) bt240.1 bt240.2.1 bt245.1 (bt245.2.1 != (-1)))) else (laws_FnProfiles.j0 k t235 (Int.tmod t238 8) (Int.tmod t239 8) bt240.1 bt240.2.1 bt245.1 (bt245.2.1 != (-1)))) else (laws_FnProfiles.j0 k t235 (Int.tmod t238 8) (Int.tmod t239 8) bt240.1 bt240.2.1 bt245.1 true)) else (laws_FnProfiles.j0 k t235 (Int.tmod t238 8) (Int.tmod t239 8) bt240.1 bt240.2.1 bt245.1 (bt245.2.1 != (-1)))) else (laws_FnProfiles.j0 k t235 (Int.tmod t238 8) (Int.tmod t239 8) bt240.1 bt240.2.1 bt245.1 true)) else (if bt240.2.1 ≥ 0 then (if (bt240.1.length : Int) = bt240.2.1 then (if bt245.2.1 ≥ 0 then (if bt245.2.1 < bt240.2.1 then (laws_FnProfiles.j0 k t235 (Int.tmod t238 8) (Int.tmod t239 8) bt240.1 bt240.2.1 bt245.1 true) else (laws_FnProfiles.j0 k t235 (Int.tmod t238 8) (Int.tmod t239 8) bt240.1 bt240.2.1 bt245.1 false)) else (laws_FnProfiles.j0 k t235 (Int.tmod t238 8) (Int.tmod t239 8) bt240.1 bt240.2.1 bt245.1 false)) else (laws_FnProfiles.j0 k t235 (Int.tmod t238 8) (Int.tmod t239 8) bt240.1 bt240.2.1 bt245.1 true)) else (laws_FnProfiles.j0 k t235 (Int.tmod t238 8) (Int.tmod t239 8) bt240.1 bt240.2.1 bt245.1 false))) else (laws_FnProfiles.j0 k t235 (Int.tmod t238 8) (Int.tmod t239 8) bt240.1 bt240.2.1 bt245.1 true))) else (laws_FnProfiles.j0 k t235 (Int.tmod t238 8) (Int.tmod t239 8) bt240.1 bt240.2.1 bt245.1 true)) else (laws_FnProfiles.j0 k t235 (Int.tmod t238 8) (Int.tmod t239 8) bt240.1 bt240.2.1 bt245.1 true))))))) = some r := by rw [if_neg (show ¬ (false = true) by decide)] at H; exact H
    clear H
    have H := H1
    clear H1
    replace H := Option.bind_eq_some_iff.mp H
    obtain ⟨t235, A40, H⟩ := H
    replace H : ((laws_at.f l0 1).bind fun t238 => ((laws_at.f l0 2).bind fun t239 => ((impl_Reach.f k t235 (Int.tmod t238 8) (Int.tmod t239 8)).bind fun bt240 => ((impl_Reach.f k t235 (wrap64 ((Int.tmod t238 8) + 1)) (wrap64 ((Int.tmod t239 8) + 2))).bind fun bt245 => (if bt240.2.2 = true then (if bt245.2.2 = true then ((impl_PointsOk.f k t235).bind fun t250 => (if t250 = true then (if bt240.2.1 = (-1) then (if (bt240.1.length : Int) = (t235.length : Int) then (if bt240.2.1 ≥ 0 then (if (bt240.1.length : Int) = bt240.2.1 then (if bt245.2.1 ≥ 0 then (if bt245.2.1 < bt240.2.1 then (laws_FnProfiles.j0 k t235 (Int.tmod t238 8) (Int.tmod t239 8) bt240.1 bt240.2.1 bt245.1 true) else (laws_FnProfiles.j0 k t235 (Int.tmod t238 8) (Int.tmod t239 8) bt240.1 bt240.2.1 bt245.1 (bt245.2.1 != (-1)))) else (laws_FnProfiles.j0 k t235 (Int.tmod t238 8) (Int.tmod t239 8) bt240.1 bt240.2.1 bt245.1 (bt245.2.1 != (-1)))) else (laws_FnProfiles.j0 k t235 (Int.tmod t238 8) (Int.tmod t239 8) bt240.1 bt240.2.1 bt245.1 true)) else (laws_FnProfiles.j0 k t235 (Int.tmod t238 8) (Int.tmod t239 8) bt240.1 bt240.2.1 bt245.1 (bt245.2.1 != (-1)))) else (laws_FnProfiles.j0 k t235 (Int.tmod t238 8) (Int.tmod t239 8) bt240.1 bt240.2.1 bt245.1 true)) else (if bt240.2.1 ≥ 0 then (if (bt240.1.length : Int) = bt240.2.1 then (if bt245.2.1 ≥ 0 then (if bt245.2.1 < bt240.2.1 then (laws_FnProfiles.j0 k t235 (Int.tmod t238 8) (Int.tmod t239 8) bt240.1 bt240.2.1 bt245.1 true) else (laws_FnProfiles.j0 k t235 (Int.tmod t238 8) (Int.tmod t239 8) bt240.1 bt240.2.1 bt245.1 false)) else (laws_FnProfiles.j0 k t235 (Int.tmod t238 8) (Int.tmod t239 8) bt240.1 bt240.2.1 bt245.1 false)) else (laws_FnProfiles.j0 k t235 (Int.tmod t238 8) (Int.tmod t239 8) bt240.1 bt240.2.1 bt245.1 true)) else (laws_FnProfiles.j0 k t235 (Int.tmod t238 8) (Int.tmod t239 8) bt240.1 bt240.2.1 bt245.1 false))) else (laws_FnProfiles.j0 k t235 (Int.tmod t238 8) (Int.tmod t239 8) bt240.1 bt240.2.1 bt245.1 true))) else (laws_FnProfiles.j0 k t235 (Int.tmod t238 8) (Int.tmod t239 8) bt240.1 bt240.2.1 bt245.1 true)) else (laws_FnProfiles.j0 k t235 (Int.tmod t238 8) (Int.tmod t239 8) bt240.1 bt240.2.1 bt245.1 true)))))) = some r := H
    have A4 := Aside0.mk A40
    clear A40
    replace H := Option.bind_eq_some_iff.mp H
    obtain ⟨t238, A50, H⟩ := H
    replace H : ((laws_at.f l0 2).bind fun t239 => ((impl_Reach.f k t235 (Int.tmod t238 8) (Int.tmod t239 8)).bind fun bt240 => ((impl_Reach.f k t235 (wrap64 ((Int.tmod t238 8) + 1)) (wrap64 ((Int.tmod t239 8) + 2))).bind fun bt245 => (if bt240.2.2 = true then (if bt245.2.2 = true then ((impl_PointsOk.f k t235).bind fun t250 => (if t250 = true then (if bt240.2.1 = (-1) then (if (bt240.1.length : Int) = (t235.length : Int) then (if bt240.2.1 ≥ 0 then (if (bt240.1.length : Int) = bt240.2.1 then (if bt245.2.1 ≥ 0 then (if bt245.2.1 < bt240.2.1 then (laws_FnProfiles.j0 k t235 (Int.tmod t238 8) (Int.tmod t239 8) bt240.1 bt240.2.1 bt245.1 true) else (laws_FnProfiles.j0 k t235 (Int.tmod t238 8) (Int.tmod t239 8) bt240.1 bt240.2.1 bt245.1 (bt245.2.1 != (-1)))) else (laws_FnProfiles.j0 k t235 (Int.tmod t238 8) (Int.tmod t239 8) bt240.1 bt240.2.1 bt245.1 (bt245.2.1 != (-1)))) else (laws_FnProfiles.j0 k t235 (Int.tmod t238 8) (Int.tmod t239 8) bt240.1 bt240.2.1 bt245.1 true)) else (laws_FnProfiles.j0 k t235 (Int.tmod t238 8) (Int.tmod t239 8) bt240.1 bt240.2.1 bt245.1 (bt245.2.1 != (-1)))) else (laws_FnProfiles.j0 k t235 (Int.tmod t238 8) (Int.tmod t239 8) bt240.1 bt240.2.1 bt245.1 true)) else (if bt240.2.1 ≥ 0 then (if (bt240.1.length : Int) = bt240.2.1 then (if bt245.2.1 ≥ 0 then (if bt245.2.1 < bt240.2.1 then (laws_FnProfiles.j0 k t235 (Int.tmod t238 8) (Int.tmod t239 8) bt240.1 bt240.2.1 bt245.1 true) else (laws_FnProfiles.j0 k t235 (Int.tmod t238 8) (Int.tmod t239 8) bt240.1 bt240.2.1 bt245.1 false)) else (laws_FnProfiles.j0 k t235 (Int.tmod t238 8) (Int.tmod t239 8) bt240.1 bt240.2.1 bt245.1 false)) else (laws_FnProfiles.j0 k t235 (Int.tmod t238 8) (Int.tmod t239 8) bt240.1 bt240.2.1 bt245.1 true)) else (laws_FnProfiles.j0 k t235 (Int.tmod t238 8) (Int.tmod t239 8) bt240.1 bt240.2.1 bt245.1 false))) else (laws_FnProfiles.j0 k t235 (Int.tmod t238 8) (Int.tmod t239 8) bt240.1 bt240.2.1 bt245.1 true))) else (laws_FnProfiles.j0 k t235 (Int.tmod t238 8) (Int.tmod t239 8) bt240.1 bt240.2.1 bt245.1 true)) else (laws_FnProfiles.j0 k t235 (Int.tmod t238 8) (Int.tmod t239 8) bt240.1 bt240.2.1 bt245.1 true))))) = some r := H
    have A5 := Aside0.mk A50
    clear A50
    replace H := Option.bind_eq_some_iff.mp H
    obtain ⟨t239, A60, H⟩ := H
    replace H : ((impl_Reach.f k t235 (Int.tmod t238 8) (Int.tmod t239 8)).bind fun bt240 => ((impl_Reach.f k t235 (wrap64 ((Int.tmod t238 8) + 1)) (wrap64 ((Int.tmod t239 8) + 2))).bind fun bt245 => (if bt240.2.2 = true then (if bt245.2.2 = true then ((impl_PointsOk.f k t235).bind fun t250 => (if t250 = true then (if bt240.2.1 = (-1) then (if (bt240.1.length : Int) = (t235.length : Int) then (if bt240.2.1 ≥ 0 then (if (bt240.1.length : Int) = bt240.2.1 then (if bt245.2.1 ≥ 0 then (if bt245.2.1 < bt240.2.1 then (laws_FnProfiles.j0 k t235 (Int.tmod t238 8) (Int.tmod t239 8) bt240.1 bt240.2.1 bt245.1 true) else (laws_FnProfiles.j0 k t235 (Int.tmod t238 8) (Int.tmod t239 8) bt240.1 bt240.2.1 bt245.1 (bt245.2.1 != (-1)))) else (laws_FnProfiles.j0 k t235 (Int.tmod t238 8) (Int.tmod t239 8) bt240.1 bt240.2.1 bt245.1 (bt245.2.1 != (-1)))) else (laws_FnProfiles.j0 k t235 (Int.tmod t238 8) (Int.tmod t239 8) bt240.1 bt240.2.1 bt245.1 true)) else (laws_FnProfiles.j0 k t235 (Int.tmod t238 8) (Int.tmod t239 8) bt240.1 bt240.2.1 bt245.1 (bt245.2.1 != (-1)))) else (laws_FnProfiles.j0 k t235 (Int.tmod t238 8) (Int.tmod t239 8) bt240.1 bt240.2.1 bt245.1 true)) else (if bt240.2.1 ≥ 0 then (if (bt240.1.length : Int) = bt240.2.1 then (if bt245.2.1 ≥ 0 then (if bt245.2.1 < bt240.2.1 then (laws_FnProfiles.j0 k t235 (Int.tmod t238 8) (Int.tmod t239 8) bt240.1 bt240.2.1 bt245.1 true) else (laws_FnProfiles.j0 k t235 (Int.tmod t238 8) (Int.tmod t239 8) bt240.1 bt240.2.1 bt245.1 false)) else (laws_FnProfiles.j0 k t235 (Int.tmod t238 8) (Int.tmod t239 8) bt240.1 bt240.2.1 bt245.1 false)) else (laws_FnProfiles.j0 k t235 (Int.tmod t238 8) (Int.tmod t239 8) bt240.1 bt240.2.1 bt245.1 true)) else (laws_FnProfiles.j0 k t235 (Int.tmod t238 8) (Int.tmod t239 8) bt240.1 bt240.2.1 bt245.1 false))) else (laws_FnProfiles.j0 k t235 (Int.tmod t238 8) (Int.tmod t239 8) bt240.1 bt240.2.1 bt245.1 true))) else (laws_FnProfiles.j0 k t235 (Int.tmod t238 8) (Int.tmod t239 8) bt240.1 bt240.2.1 bt245.1 true)) else (laws_FnProfiles.j0 k t235 (Int.tmod t238 8) (Int.tmod t239 8) bt240.1 bt240.2.1 bt245.1 true)))) = some r := H
    have A6 := Aside0.mk A60
    clear A60
    replace H := Option.bind_eq_some_iff.mp H
    obtain ⟨⟨t240, t241, t242⟩, A70, H⟩ := H
    replace H : ((impl_Reach.f k t235 (wrap64 ((Int.tmod t238 8) + 1)) (wrap64 ((Int.tmod t239 8) + 2))).bind fun bt245 => (if t242 = true then (if bt245.2.2 = true then ((impl_PointsOk.f k t235).bind fun t250 => (if t250 = true then (if t241 = (-1) then (if (t240.length : Int) = (t235.length : Int) then (if t241 ≥ 0 then (if (t240.length : Int) = t241 then (if bt245.2.1 ≥ 0 then (if bt245.2.1 < t241 then (laws_FnProfiles.j0 k t235 (Int.tmod t238 8) (Int.tmod t239 8) t240 t241 bt245.1 true) else (laws_FnProfiles.j0 k t235 (Int.tmod t238 8) (Int.tmod t239 8) t240 t241 bt245.1 (bt245.2.1 != (-1)))) else (laws_FnProfiles.j0 k t235 (Int.tmod t238 8) (Int.tmod t239 8) t240 t241 bt245.1 (bt245.2.1 != (-1)))) else (laws_FnProfiles.j0 k t235 (Int.tmod t238 8) (Int.tmod t239 8) t240 t241 bt245.1 true)) else (laws_FnProfiles.j0 k t235 (Int.tmod t238 8) (Int.tmod t239 8) t240 t241 bt245.1 (bt245.2.1 != (-1)))) else (laws_FnProfiles.j0 k t235 (Int.tmod t238 8) (Int.tmod t239 8) t240 t241 bt245.1 true)) else (if t241 ≥ 0 then (if (t240.length : Int) = t241 then (if bt245.2.1 ≥ 0 then (if bt245.2.1 < t241 then (laws_FnProfiles.j0 k t235 (Int.tmod t238 8) (Int.tmod t239 8) t240 t241 bt245.1 true) else (laws_FnProfiles.j0 k t235 (Int.tmod t238 8) (Int.tmod t239 8) t240 t241 bt245.1 false)) else (laws_FnProfiles.j0 k t235 (Int.tmod t238 8) (Int.tmod t239 8) t240 t241 bt245.1 false)) else (laws_FnProfiles.j0 k t235 (Int.tmod t238 8) (Int.tmod t239 8) t240 t241 bt245.1 true)) else (laws_FnProfiles.j0 k t235 (Int.tmod t238 8) (Int.tmod t239 8) t240 t241 bt245.1 false))) else (laws_FnProfiles.j0 k t235 (Int.tmod t238 8) (Int.tmod t239 8) t240 t241 bt245.1 true))) else (laws_FnProfiles.j0 k t235 (Int.tmod t238 8) (Int.tmod t239 8) t240 t241 bt245.1 true)) else (laws_FnProfiles.j0 k t235 (Int.tmod t238 8) (Int.tmod t239 8) t240 t241 bt245.1 true))) = some r := H
    have A7 := Aside0.mk A70
    clear A70
    replace H := Option.bind_eq_some_iff.mp H
    obtain ⟨⟨t245, t246, t247⟩, A80, H⟩ := H
    replace H : (if t242 = true then (if t247 = true then ((impl_PointsOk.f k t235).bind fun t250 => (if t250 = true then (if t241 = (-1) then (if (t240.length : Int) = (t235.length : Int) then (if t241 ≥ 0 then (if (t240.length : Int) = t241 then (if t246 ≥ 0 then (if t246 < t241 then (laws_FnProfiles.j0 k t235 (Int.tmod t238 8) (Int.tmod t239 8) t240 t241 t245 true) else (laws_FnProfiles.j0 k t235 (Int.tmod t238 8) (Int.tmod t239 8) t240 t241 t245 (t246 != (-1)))) else (laws_FnProfiles.j0 k t235 (Int.tmod t238 8) (Int.tmod t239 8) t240 t241 t245 (t246 != (-1)))) else (laws_FnProfiles.j0 k t235 (Int.tmod t238 8) (Int.tmod t239 8) t240 t241 t245 true)) else (laws_FnProfiles.j0 k t235 (Int.tmod t238 8) (Int.tmod t239 8) t240 t241 t245 (t246 != (-1)))) else (laws_FnProfiles.j0 k t235 (Int.tmod t238 8) (Int.tmod t239 8) t240 t241 t245 true)) else (if t241 ≥ 0 then (if (t240.length : Int) = t241 then (if t246 ≥ 0 then (if t246 < t241 then (laws_FnProfiles.j0 k t235 (Int.tmod t238 8) (Int.tmod t239 8) t240 t241 t245 true) else (laws_FnProfiles.j0 k t235 (Int.tmod t238 8) (Int.tmod t239 8) t240 t241 t245 false)) else (laws_FnProfiles.j0 k t235 (Int.tmod t238 8) (Int.tmod t239 8) t240 t241 t245 false)) else (laws_FnProfiles.j0 k t235 (Int.tmod t238 8) (Int.tmod t239 8) t240 t241 t245 true)) else (laws_FnProfiles.j0 k t235 (Int.tmod t238 8) (Int.tmod t239 8) t240 t241 t245 false))) else (laws_FnProfiles.j0 k t235 (Int.tmod t238 8) (Int.tmod t239 8) t240 t241 t245 true))) else (laws_FnProfiles.j0 k t235 (Int.tmod t238 8) (Int.tmod t239 8) t240 t241 t245 true)) else (laws_FnProfiles.j0 k t235 (Int.tmod t238 8) (Int.tmod t239 8) t240 t241 t245 true)) = some r := H
    have A8 := Aside0.mk A80
    clear A80
    have HC9 := Aside0.mk H
    clear H
    go_enter Try.func6, Try.ntmps6
    go_upto_region 7 with (first | (go_at_call 20; (with_reducible refine (laws_big.calls _ _ l0 false _ ?side1 ?side2 A2.out).mono ?_); (case side1 => repeat (first | exact HR0.out | (with_reducible refine Kd.C_alloc ?_ _) | (with_reducible refine Kd.C_drewN ?_ _) | (with_reducible refine Kd.C_drew ?_))); (case side2 => exact HC0.out); rintro e w' ⟨rfl, ⟨nd, rfl⟩⟩; (try first | exact ⟨rfl, _, World.drewN_drewN _ _ _⟩ | exact ⟨rfl, _, Eq.trans (World.drewN_drewN _ _ _) (congrArg (World.drewN _) (Nat.add_assoc _ _ _))⟩)) | (go_at_call 21; (with_reducible refine (spec_DrawPoints.calls k _ _ l0 t235 _ ?side1 ?side2 A4.out).mono ?_); (case side1 => repeat (first | exact HR0.out | (with_reducible refine Kd.C_alloc ?_ _) | (with_reducible refine Kd.C_drewN ?_ _) | (with_reducible refine Kd.C_drew ?_))); (case side2 => exact HC0.out); rintro e w10 ⟨v236, rfl, ho0, hb⟩; have n0_ := Aside0.mk (Kd.R_lower ho0 (below_size (by repeat (first | (with_reducible first | exact HB.out | apply below_alloc | apply pw_below_drewN | apply below_drew1) | exact HB.out)))); have n1_ := Aside0.mk (below_step (by repeat (first | (with_reducible first | exact HB.out | apply below_alloc | apply pw_below_drewN | apply below_drew1) | exact HB.out)) hb); clear HB; have HO237 := n0_; have HB := n1_; clear n0_ n1_; (try clear hb); (try clear hb2); (try clear hk); (try clear hi); (try clear ho0)) | (go_at_call 22; (with_reducible refine (laws_at.calls _ _ l0 1 t238 _ ?side1 ?side2 A5.out).mono ?_); (case side1 => repeat (first | exact (Kd.C_below HR0.out HB.out) | (with_reducible refine Kd.C_alloc ?_ _) | (with_reducible refine Kd.C_drewN ?_ _) | (with_reducible refine Kd.C_drew ?_))); (case side2 => exact HC0.out); rintro e w' ⟨rfl, ⟨nd, rfl⟩⟩; (try first | exact ⟨rfl, _, World.drewN_drewN _ _ _⟩ | exact ⟨rfl, _, Eq.trans (World.drewN_drewN _ _ _) (congrArg (World.drewN _) (Nat.add_assoc _ _ _))⟩)) | (go_at_call 22; (with_reducible refine (laws_at.calls _ _ l0 2 t239 _ ?side1 ?side2 A6.out).mono ?_); (case side1 => repeat (first | exact (Kd.C_below HR0.out (by repeat (first | (with_reducible first | exact HB.out | apply below_alloc | apply pw_below_drewN | apply below_drew1) | exact HB.out))) | (with_reducible refine Kd.C_alloc ?_ _) | (with_reducible refine Kd.C_drewN ?_ _) | (with_reducible refine Kd.C_drew ?_))); (case side2 => exact HC0.out); rintro e w' ⟨rfl, ⟨nd, rfl⟩⟩; (try first | exact ⟨rfl, _, World.drewN_drewN _ _ _⟩ | exact ⟨rfl, _, Eq.trans (World.drewN_drewN _ _ _) (congrArg (World.drewN _) (Nat.add_assoc _ _ _))⟩); obtain ⟨Ao11, co11, eo11⟩ := Kd.R_slice HO237.out; subst eo11) | (go_at_call 17; (with_reducible refine (impl_Reach.calls k _ _ t235 (Int.tmod t238 8) (Int.tmod t239 8) t240 t241 t242 _ ?side1 ?side2 A7.out).mono ?_); (case side1 => repeat (first | exact (Kd.R_reads' HO237.out).2.2 | (with_reducible refine Kd.C_alloc ?_ _) | (with_reducible refine Kd.C_drewN ?_ _) | (with_reducible refine Kd.C_drew ?_))); (case side2 => exact (Kd.R_reads' HO237.out).2.1); rintro e w12 ⟨v243, rfl, ho0, hb⟩; have n0_ := Aside0.mk (Kd.R_elder' (by (with_reducible repeat (first | apply Kd.R_alloc | apply Kd.R_drewN | apply Kd.R_drew)); exact HO237.out) (Kd.R_base ho0) hb); have n1_ := Aside0.mk (Kd.R_lower (Kd.R_new' ho0 (Kd.R_lt (by (with_reducible repeat (first | apply Kd.R_alloc | apply Kd.R_drewN | apply Kd.R_drew)); exact HO237.out))) (below_size (by repeat (first | (with_reducible first | exact HB.out | apply below_alloc | apply pw_below_drewN | apply below_drew1) | exact HB.out)))); have n2_ := Aside0.mk (below_step (by repeat (first | (with_reducible first | exact HB.out | apply below_alloc | apply pw_below_drewN | apply below_drew1) | exact HB.out)) hb); clear HO237; clear HB; have HO237 := n0_; have HO244 := n1_; have HB := n2_; clear n0_ n1_ n2_; (try clear hb); (try clear hb2); (try clear hk); (try clear hi); (try clear ho0)) | (go_at_call 17; (with_reducible refine (impl_Reach.calls k _ _ t235 (wrap64 ((Int.tmod t238 8) + 1)) (wrap64 ((Int.tmod t239 8) + 2)) t245 t246 t247 _ ?side1 ?side2 A8.out).mono ?_); (case side1 => repeat (first | exact (Kd.R_reads' HO237.out).2.2 | (with_reducible refine Kd.C_alloc ?_ _) | (with_reducible refine Kd.C_drewN ?_ _) | (with_reducible refine Kd.C_drew ?_))); (case side2 => exact (Kd.R_reads' HO237.out).2.1); rintro e w13 ⟨v248, rfl, ho0, hb⟩; have n0_ := Aside0.mk (Kd.R_elder' (by (with_reducible repeat (first | apply Kd.R_alloc | apply Kd.R_drewN | apply Kd.R_drew)); exact HO237.out) (Kd.R_base ho0) hb); have n1_ := Aside0.mk (Kd.R_elder' (by (with_reducible repeat (first | apply Kd.R_alloc | apply Kd.R_drewN | apply Kd.R_drew)); exact HO244.out) (Kd.R_base ho0) hb); have n2_ := Aside0.mk (Kd.R_lower (Kd.R_new' (Kd.R_new' ho0 (Kd.R_lt (by (with_reducible repeat (first | apply Kd.R_alloc | apply Kd.R_drewN | apply Kd.R_drew)); exact HO237.out))) (Kd.R_lt (by (with_reducible repeat (first | apply Kd.R_alloc | apply Kd.R_drewN | apply Kd.R_drew)); exact HO244.out))) (below_size (by repeat (first | (with_reducible first | exact HB.out | apply below_alloc | apply pw_below_drewN | apply below_drew1) | exact HB.out)))); have n3_ := Aside0.mk (below_step (by repeat (first | (with_reducible first | exact HB.out | apply below_alloc | apply pw_below_drewN | apply below_drew1) | exact HB.out)) hb); clear HO237; clear HO244; clear HB; have HO237 := n0_; have HO244 := n1_; have HO249 := n2_; have HB := n3_; clear n0_ n1_ n2_ n3_; (try clear hb); (try clear hb2); (try clear hk); (try clear hi); (try clear ho0)))
    repeat (go_quiet (first | (go_at_call 20; (with_reducible refine (laws_big.calls _ _ l0 false _ ?side1 ?side2 A2.out).mono ?_); (case side1 => repeat (first | exact HR0.out | (with_reducible refine Kd.C_alloc ?_ _) | (with_reducible refine Kd.C_drewN ?_ _) | (with_reducible refine Kd.C_drew ?_))); (case side2 => exact HC0.out); rintro e w' ⟨rfl, ⟨nd, rfl⟩⟩; (try first | exact ⟨rfl, _, World.drewN_drewN _ _ _⟩ | exact ⟨rfl, _, Eq.trans (World.drewN_drewN _ _ _) (congrArg (World.drewN _) (Nat.add_assoc _ _ _))⟩)) | (go_at_call 21; (with_reducible refine (spec_DrawPoints.calls k _ _ l0 t235 _ ?side1 ?side2 A4.out).mono ?_); (case side1 => repeat (first | exact HR0.out | (with_reducible refine Kd.C_alloc ?_ _) | (with_reducible refine Kd.C_drewN ?_ _) | (with_reducible refine Kd.C_drew ?_))); (case side2 => exact HC0.out); rintro e w10 ⟨v236, rfl, ho0, hb⟩; have n0_ := Aside0.mk (Kd.R_lower ho0 (below_size (by repeat (first | (with_reducible first | exact HB.out | apply below_alloc | apply pw_below_drewN | apply below_drew1) | exact HB.out)))); have n1_ := Aside0.mk (below_step (by repeat (first | (with_reducible first | exact HB.out | apply below_alloc | apply pw_below_drewN | apply below_drew1) | exact HB.out)) hb); clear HB; have HO237 := n0_; have HB := n1_; clear n0_ n1_; (try clear hb); (try clear hb2); (try clear hk); (try clear hi); (try clear ho0)) | (go_at_call 22; (with_reducible refine (laws_at.calls _ _ l0 1 t238 _ ?side1 ?side2 A5.out).mono ?_); (case side1 => repeat (first | exact (Kd.C_below HR0.out HB.out) | (with_reducible refine Kd.C_alloc ?_ _) | (with_reducible refine Kd.C_drewN ?_ _) | (with_reducible refine Kd.C_drew ?_))); (case side2 => exact HC0.out); rintro e w' ⟨rfl, ⟨nd, rfl⟩⟩; (try first | exact ⟨rfl, _, World.drewN_drewN _ _ _⟩ | exact ⟨rfl, _, Eq.trans (World.drewN_drewN _ _ _) (congrArg (World.drewN _) (Nat.add_assoc _ _ _))⟩)) | (go_at_call 22; (with_reducible refine (laws_at.calls _ _ l0 2 t239 _ ?side1 ?side2 A6.out).mono ?_); (case side1 => repeat (first | exact (Kd.C_below HR0.out (by repeat (first | (with_reducible first | exact HB.out | apply below_alloc | apply pw_below_drewN | apply below_drew1) | exact HB.out))) | (with_reducible refine Kd.C_alloc ?_ _) | (with_reducible refine Kd.C_drewN ?_ _) | (with_reducible refine Kd.C_drew ?_))); (case side2 => exact HC0.out); rintro e w' ⟨rfl, ⟨nd, rfl⟩⟩; (try first | exact ⟨rfl, _, World.drewN_drewN _ _ _⟩ | exact ⟨rfl, _, Eq.trans (World.drewN_drewN _ _ _) (congrArg (World.drewN _) (Nat.add_assoc _ _ _))⟩); obtain ⟨Ao11, co11, eo11⟩ := Kd.R_slice HO237.out; subst eo11) | (go_at_call 17; (with_reducible refine (impl_Reach.calls k _ _ t235 (Int.tmod t238 8) (Int.tmod t239 8) t240 t241 t242 _ ?side1 ?side2 A7.out).mono ?_); (case side1 => repeat (first | exact (Kd.R_reads' HO237.out).2.2 | (with_reducible refine Kd.C_alloc ?_ _) | (with_reducible refine Kd.C_drewN ?_ _) | (with_reducible refine Kd.C_drew ?_))); (case side2 => exact (Kd.R_reads' HO237.out).2.1); rintro e w12 ⟨v243, rfl, ho0, hb⟩; have n0_ := Aside0.mk (Kd.R_elder' (by (with_reducible repeat (first | apply Kd.R_alloc | apply Kd.R_drewN | apply Kd.R_drew)); exact HO237.out) (Kd.R_base ho0) hb); have n1_ := Aside0.mk (Kd.R_lower (Kd.R_new' ho0 (Kd.R_lt (by (with_reducible repeat (first | apply Kd.R_alloc | apply Kd.R_drewN | apply Kd.R_drew)); exact HO237.out))) (below_size (by repeat (first | (with_reducible first | exact HB.out | apply below_alloc | apply pw_below_drewN | apply below_drew1) | exact HB.out)))); have n2_ := Aside0.mk (below_step (by repeat (first | (with_reducible first | exact HB.out | apply below_alloc | apply pw_below_drewN | apply below_drew1) | exact HB.out)) hb); clear HO237; clear HB; have HO237 := n0_; have HO244 := n1_; have HB := n2_; clear n0_ n1_ n2_; (try clear hb); (try clear hb2); (try clear hk); (try clear hi); (try clear ho0)) | (go_at_call 17; (with_reducible refine (impl_Reach.calls k _ _ t235 (wrap64 ((Int.tmod t238 8) + 1)) (wrap64 ((Int.tmod t239 8) + 2)) t245 t246 t247 _ ?side1 ?side2 A8.out).mono ?_); (case side1 => repeat (first | exact (Kd.R_reads' HO237.out).2.2 | (with_reducible refine Kd.C_alloc ?_ _) | (with_reducible refine Kd.C_drewN ?_ _) | (with_reducible refine Kd.C_drew ?_))); (case side2 => exact (Kd.R_reads' HO237.out).2.1); rintro e w13 ⟨v248, rfl, ho0, hb⟩; have n0_ := Aside0.mk (Kd.R_elder' (by (with_reducible repeat (first | apply Kd.R_alloc | apply Kd.R_drewN | apply Kd.R_drew)); exact HO237.out) (Kd.R_base ho0) hb); have n1_ := Aside0.mk (Kd.R_elder' (by (with_reducible repeat (first | apply Kd.R_alloc | apply Kd.R_drewN | apply Kd.R_drew)); exact HO244.out) (Kd.R_base ho0) hb); have n2_ := Aside0.mk (Kd.R_lower (Kd.R_new' (Kd.R_new' ho0 (Kd.R_lt (by (with_reducible repeat (first | apply Kd.R_alloc | apply Kd.R_drewN | apply Kd.R_drew)); exact HO237.out))) (Kd.R_lt (by (with_reducible repeat (first | apply Kd.R_alloc | apply Kd.R_drewN | apply Kd.R_drew)); exact HO244.out))) (below_size (by repeat (first | (with_reducible first | exact HB.out | apply below_alloc | apply pw_below_drewN | apply below_drew1) | exact HB.out)))); have n3_ := Aside0.mk (below_step (by repeat (first | (with_reducible first | exact HB.out | apply below_alloc | apply pw_below_drewN | apply below_drew1) | exact HB.out)) hb); clear HO237; clear HO244; clear HB; have HO237 := n0_; have HO244 := n1_; have HO249 := n2_; have HB := n3_; clear n0_ n1_ n2_ n3_; (try clear hb); (try clear hb2); (try clear hk); (try clear hi); (try clear ho0))); go_upto_region 7 with (first | (go_at_call 20; (with_reducible refine (laws_big.calls _ _ l0 false _ ?side1 ?side2 A2.out).mono ?_); (case side1 => repeat (first | exact HR0.out | (with_reducible refine Kd.C_alloc ?_ _) | (with_reducible refine Kd.C_drewN ?_ _) | (with_reducible refine Kd.C_drew ?_))); (case side2 => exact HC0.out); rintro e w' ⟨rfl, ⟨nd, rfl⟩⟩; (try first | exact ⟨rfl, _, World.drewN_drewN _ _ _⟩ | exact ⟨rfl, _, Eq.trans (World.drewN_drewN _ _ _) (congrArg (World.drewN _) (Nat.add_assoc _ _ _))⟩)) | (go_at_call 21; (with_reducible refine (spec_DrawPoints.calls k _ _ l0 t235 _ ?side1 ?side2 A4.out).mono ?_); (case side1 => repeat (first | exact HR0.out | (with_reducible refine Kd.C_alloc ?_ _) | (with_reducible refine Kd.C_drewN ?_ _) | (with_reducible refine Kd.C_drew ?_))); (case side2 => exact HC0.out); rintro e w10 ⟨v236, rfl, ho0, hb⟩; have n0_ := Aside0.mk (Kd.R_lower ho0 (below_size (by repeat (first | (with_reducible first | exact HB.out | apply below_alloc | apply pw_below_drewN | apply below_drew1) | exact HB.out)))); have n1_ := Aside0.mk (below_step (by repeat (first | (with_reducible first | exact HB.out | apply below_alloc | apply pw_below_drewN | apply below_drew1) | exact HB.out)) hb); clear HB; have HO237 := n0_; have HB := n1_; clear n0_ n1_; (try clear hb); (try clear hb2); (try clear hk); (try clear hi); (try clear ho0)) | (go_at_call 22; (with_reducible refine (laws_at.calls _ _ l0 1 t238 _ ?side1 ?side2 A5.out).mono ?_); (case side1 => repeat (first | exact (Kd.C_below HR0.out HB.out) | (with_reducible refine Kd.C_alloc ?_ _) | (with_reducible refine Kd.C_drewN ?_ _) | (with_reducible refine Kd.C_drew ?_))); (case side2 => exact HC0.out); rintro e w' ⟨rfl, ⟨nd, rfl⟩⟩; (try first | exact ⟨rfl, _, World.drewN_drewN _ _ _⟩ | exact ⟨rfl, _, Eq.trans (World.drewN_drewN _ _ _) (congrArg (World.drewN _) (Nat.add_assoc _ _ _))⟩)) | (go_at_call 22; (with_reducible refine (laws_at.calls _ _ l0 2 t239 _ ?side1 ?side2 A6.out).mono ?_); (case side1 => repeat (first | exact (Kd.C_below HR0.out (by repeat (first | (with_reducible first | exact HB.out | apply below_alloc | apply pw_below_drewN | apply below_drew1) | exact HB.out))) | (with_reducible refine Kd.C_alloc ?_ _) | (with_reducible refine Kd.C_drewN ?_ _) | (with_reducible refine Kd.C_drew ?_))); (case side2 => exact HC0.out); rintro e w' ⟨rfl, ⟨nd, rfl⟩⟩; (try first | exact ⟨rfl, _, World.drewN_drewN _ _ _⟩ | exact ⟨rfl, _, Eq.trans (World.drewN_drewN _ _ _) (congrArg (World.drewN _) (Nat.add_assoc _ _ _))⟩); obtain ⟨Ao11, co11, eo11⟩ := Kd.R_slice HO237.out; subst eo11) | (go_at_call 17; (with_reducible refine (impl_Reach.calls k _ _ t235 (Int.tmod t238 8) (Int.tmod t239 8) t240 t241 t242 _ ?side1 ?side2 A7.out).mono ?_); (case side1 => repeat (first | exact (Kd.R_reads' HO237.out).2.2 | (with_reducible refine Kd.C_alloc ?_ _) | (with_reducible refine Kd.C_drewN ?_ _) | (with_reducible refine Kd.C_drew ?_))); (case side2 => exact (Kd.R_reads' HO237.out).2.1); rintro e w12 ⟨v243, rfl, ho0, hb⟩; have n0_ := Aside0.mk (Kd.R_elder' (by (with_reducible repeat (first | apply Kd.R_alloc | apply Kd.R_drewN | apply Kd.R_drew)); exact HO237.out) (Kd.R_base ho0) hb); have n1_ := Aside0.mk (Kd.R_lower (Kd.R_new' ho0 (Kd.R_lt (by (with_reducible repeat (first | apply Kd.R_alloc | apply Kd.R_drewN | apply Kd.R_drew)); exact HO237.out))) (below_size (by repeat (first | (with_reducible first | exact HB.out | apply below_alloc | apply pw_below_drewN | apply below_drew1) | exact HB.out)))); have n2_ := Aside0.mk (below_step (by repeat (first | (with_reducible first | exact HB.out | apply below_alloc | apply pw_below_drewN | apply below_drew1) | exact HB.out)) hb); clear HO237; clear HB; have HO237 := n0_; have HO244 := n1_; have HB := n2_; clear n0_ n1_ n2_; (try clear hb); (try clear hb2); (try clear hk); (try clear hi); (try clear ho0)) | (go_at_call 17; (with_reducible refine (impl_Reach.calls k _ _ t235 (wrap64 ((Int.tmod t238 8) + 1)) (wrap64 ((Int.tmod t239 8) + 2)) t245 t246 t247 _ ?side1 ?side2 A8.out).mono ?_); (case side1 => repeat (first | exact (Kd.R_reads' HO237.out).2.2 | (with_reducible refine Kd.C_alloc ?_ _) | (with_reducible refine Kd.C_drewN ?_ _) | (with_reducible refine Kd.C_drew ?_))); (case side2 => exact (Kd.R_reads' HO237.out).2.1); rintro e w13 ⟨v248, rfl, ho0, hb⟩; have n0_ := Aside0.mk (Kd.R_elder' (by (with_reducible repeat (first | apply Kd.R_alloc | apply Kd.R_drewN | apply Kd.R_drew)); exact HO237.out) (Kd.R_base ho0) hb); have n1_ := Aside0.mk (Kd.R_elder' (by (with_reducible repeat (first | apply Kd.R_alloc | apply Kd.R_drewN | apply Kd.R_drew)); exact HO244.out) (Kd.R_base ho0) hb); have n2_ := Aside0.mk (Kd.R_lower (Kd.R_new' (Kd.R_new' ho0 (Kd.R_lt (by (with_reducible repeat (first | apply Kd.R_alloc | apply Kd.R_drewN | apply Kd.R_drew)); exact HO237.out))) (Kd.R_lt (by (with_reducible repeat (first | apply Kd.R_alloc | apply Kd.R_drewN | apply Kd.R_drew)); exact HO244.out))) (below_size (by repeat (first | (with_reducible first | exact HB.out | apply below_alloc | apply pw_below_drewN | apply below_drew1) | exact HB.out)))); have n3_ := Aside0.mk (below_step (by repeat (first | (with_reducible first | exact HB.out | apply below_alloc | apply pw_below_drewN | apply below_drew1) | exact HB.out)) hb); clear HO237; clear HO244; clear HB; have HO237 := n0_; have HO244 := n1_; have HO249 := n2_; have HB := n3_; clear n0_ n1_ n2_ n3_; (try clear hb); (try clear hb2); (try clear hk); (try clear hi); (try clear ho0))))
    (try simp only [Act.put, List.setIfInBounds_toArray, List.set_cons_zero, List.set_cons_succ])
    have H := HC9.out
    clear HC9
    have HC14 := Aside0.mk H
    clear H
    go_upto_region 7 with (fail)
    repeat (go_quiet (fail); go_upto_region 7 with (fail))
    go_cut [97] (fun v97 wc => ∃ (kq : Nat) (x97_13 : Bool), v97 = .bool x97_13 ∧ Aside0 (laws_FnProfiles.j0 kq t235 (Int.tmod t238 8) (Int.tmod t239 8) t240 t241 t245 x97_13 = some r) ∧ Aside0 (kq ≤ k) ∧ Aside0 (Kd.R k41 41 wc w.heap.size (fun k_ => some k_ ≠ (v243 : Value).ownBlock ∧ some k_ ≠ (v248 : Value).ownBlock) (.slice Ao11 t235.length co11) t235) ∧ Aside0 (Kd.R k41 41 wc w.heap.size (fun k_ => some k_ ≠ ((.slice Ao11 t235.length co11) : Value).ownBlock ∧ some k_ ≠ (v248 : Value).ownBlock) v243 t240) ∧ Aside0 (Kd.R k41 41 wc w.heap.size (fun k_ => some k_ ≠ ((.slice Ao11 t235.length co11) : Value).ownBlock ∧ some k_ ≠ (v243 : Value).ownBlock) v248 t245) ∧ Aside0 (Below w.heap.size w wc))
    case first => as_aux_lemma =>
      have H := HC14.out
      clear HC14
      by_cases c15 : t242 = true
      · as_aux_lemma =>
        subst c15
        have H1 : (if t247 = true then ((impl_PointsOk.f k t235).bind fun t250 => (if t250 = true then (if t241 = (-1) then (if (t240.length : Int) = (t235.length : Int) then (if t241 ≥ 0 then (if (t240.length : Int) = t241 then (if t246 ≥ 0 then (if t246 < t241 then (laws_FnProfiles.j0 k t235 (Int.tmod t238 8) (Int.tmod t239 8) t240 t241 t245 true) else (laws_FnProfiles.j0 k t235 (Int.tmod t238 8) (Int.tmod t239 8) t240 t241 t245 (t246 != (-1)))) else (laws_FnProfiles.j0 k t235 (Int.tmod t238 8) (Int.tmod t239 8) t240 t241 t245 (t246 != (-1)))) else (laws_FnProfiles.j0 k t235 (Int.tmod t238 8) (Int.tmod t239 8) t240 t241 t245 true)) else (laws_FnProfiles.j0 k t235 (Int.tmod t238 8) (Int.tmod t239 8) t240 t241 t245 (t246 != (-1)))) else (laws_FnProfiles.j0 k t235 (Int.tmod t238 8) (Int.tmod t239 8) t240 t241 t245 true)) else (if t241 ≥ 0 then (if (t240.length : Int) = t241 then (if t246 ≥ 0 then (if t246 < t241 then (laws_FnProfiles.j0 k t235 (Int.tmod t238 8) (Int.tmod t239 8) t240 t241 t245 true) else (laws_FnProfiles.j0 k t235 (Int.tmod t238 8) (Int.tmod t239 8) t240 t241 t245 false)) else (laws_FnProfiles.j0 k t235 (Int.tmod t238 8) (Int.tmod t239 8) t240 t241 t245 false)) else (laws_FnProfiles.j0 k t235 (Int.tmod t238 8) (Int.tmod t239 8) t240 t241 t245 true)) else (laws_FnProfiles.j0 k t235 (Int.tmod t238 8) (Int.tmod t239 8) t240 t241 t245 false))) else (laws_FnProfiles.j0 k t235 (Int.tmod t238 8) (Int.tmod t239 8) t240 t241 t245 true))) else (laws_FnProfiles.j0 k t235 (Int.tmod t238 8) (Int.tmod t239 8) t240 t241 t245 true)) = some r := by rw [if_pos rfl] at H; exact H
        clear H
        have H := H1
        clear H1
        by_cases c16 : t247 = true
        · as_aux_lemma =>
          subst c16
          have H1 : ((impl_PointsOk.f k t235).bind fun t250 => (if t250 = true then (if t241 = (-1) then (if (t240.length : Int) = (t235.length : Int) then (if t241 ≥ 0 then (if (t240.length : Int) = t241 then (if t246 ≥ 0 then (if t246 < t241 then (laws_FnProfiles.j0 k t235 (Int.tmod t238 8) (Int.tmod t239 8) t240 t241 t245 true) else (laws_FnProfiles.j0 k t235 (Int.tmod t238 8) (Int.tmod t239 8) t240 t241 t245 (t246 != (-1)))) else (laws_FnProfiles.j0 k t235 (Int.tmod t238 8) (Int.tmod t239 8) t240 t241 t245 (t246 != (-1)))) else (laws_FnProfiles.j0 k t235 (Int.tmod t238 8) (Int.tmod t239 8) t240 t241 t245 true)) else (laws_FnProfiles.j0 k t235 (Int.tmod t238 8) (Int.tmod t239 8) t240 t241 t245 (t246 != (-1)))) else (laws_FnProfiles.j0 k t235 (Int.tmod t238 8) (Int.tmod t239 8) t240 t241 t245 true)) else (if t241 ≥ 0 then (if (t240.length : Int) = t241 then (if t246 ≥ 0 then (if t246 < t241 then (laws_FnProfiles.j0 k t235 (Int.tmod t238 8) (Int.tmod t239 8) t240 t241 t245 true) else (laws_FnProfiles.j0 k t235 (Int.tmod t238 8) (Int.tmod t239 8) t240 t241 t245 false)) else (laws_FnProfiles.j0 k t235 (Int.tmod t238 8) (Int.tmod t239 8) t240 t241 t245 false)) else (laws_FnProfiles.j0 k t235 (Int.tmod t238 8) (Int.tmod t239 8) t240 t241 t245 true)) else (laws_FnProfiles.j0 k t235 (Int.tmod t238 8) (Int.tmod t239 8) t240 t241 t245 false))) else (laws_FnProfiles.j0 k t235 (Int.tmod t238 8) (Int.tmod t239 8) t240 t241 t245 true))) = some r := by rw [if_pos rfl] at H; exact H
          clear H
          have H := H1
          clear H1
          replace H := Option.bind_eq_some_iff.mp H
          obtain ⟨t250, A170, H⟩ := H
          replace H : (if t250 = true then (if t241 = (-1) then (if (t240.length : Int) = (t235.length : Int) then (if t241 ≥ 0 then (if (t240.length : Int) = t241 then (if t246 ≥ 0 then (if t246 < t241 then (laws_FnProfiles.j0 k t235 (Int.tmod t238 8) (Int.tmod t239 8) t240 t241 t245 true) else (laws_FnProfiles.j0 k t235 (Int.tmod t238 8) (Int.tmod t239 8) t240 t241 t245 (t246 != (-1)))) else (laws_FnProfiles.j0 k t235 (Int.tmod t238 8) (Int.tmod t239 8) t240 t241 t245 (t246 != (-1)))) else (laws_FnProfiles.j0 k t235 (Int.tmod t238 8) (Int.tmod t239 8) t240 t241 t245 true)) else (laws_FnProfiles.j0 k t235 (Int.tmod t238 8) (Int.tmod t239 8) t240 t241 t245 (t246 != (-1)))) else (laws_FnProfiles.j0 k t235 (Int.tmod t238 8) (Int.tmod t239 8) t240 t241 t245 true)) else (if t241 ≥ 0 then (if (t240.length : Int) = t241 then (if t246 ≥ 0 then (if t246 < t241 then (laws_FnProfiles.j0 k t235 (Int.tmod t238 8) (Int.tmod t239 8) t240 t241 t245 true) else (laws_FnProfiles.j0 k t235 (Int.tmod t238 8) (Int.tmod t239 8) t240 t241 t245 false)) else (laws_FnProfiles.j0 k t235 (Int.tmod t238 8) (Int.tmod t239 8) t240 t241 t245 false)) else (laws_FnProfiles.j0 k t235 (Int.tmod t238 8) (Int.tmod t239 8) t240 t241 t245 true)) else (laws_FnProfiles.j0 k t235 (Int.tmod t238 8) (Int.tmod t239 8) t240 t241 t245 false))) else (laws_FnProfiles.j0 k t235 (Int.tmod t238 8) (Int.tmod t239 8) t240 t241 t245 true)) = some r := H
          have A17 := Aside0.mk A170
          clear A170
          by_cases c18 : t250 = true
          · as_aux_lemma =>
            subst c18
            have H1 : (if t241 = (-1) then (if (t240.length : Int) = (t235.length : Int) then (if t241 ≥ 0 then (if (t240.length : Int) = t241 then (if t246 ≥ 0 then (if t246 < t241 then (laws_FnProfiles.j0 k t235 (Int.tmod t238 8) (Int.tmod t239 8) t240 t241 t245 true) else (laws_FnProfiles.j0 k t235 (Int.tmod t238 8) (Int.tmod t239 8) t240 t241 t245 (t246 != (-1)))) else (laws_FnProfiles.j0 k t235 (Int.tmod t238 8) (Int.tmod t239 8) t240 t241 t245 (t246 != (-1)))) else (laws_FnProfiles.j0 k t235 (Int.tmod t238 8) (Int.tmod t239 8) t240 t241 t245 true)) else (laws_FnProfiles.j0 k t235 (Int.tmod t238 8) (Int.tmod t239 8) t240 t241 t245 (t246 != (-1)))) else (laws_FnProfiles.j0 k t235 (Int.tmod t238 8) (Int.tmod t239 8) t240 t241 t245 true)) else (if t241 ≥ 0 then (if (t240.length : Int) = t241 then (if t246 ≥ 0 then (if t246 < t241 then (laws_FnProfiles.j0 k t235 (Int.tmod t238 8) (Int.tmod t239 8) t240 t241 t245 true) else (laws_FnProfiles.j0 k t235 (Int.tmod t238 8) (Int.tmod t239 8) t240 t241 t245 false)) else (laws_FnProfiles.j0 k t235 (Int.tmod t238 8) (Int.tmod t239 8) t240 t241 t245 false)) else (laws_FnProfiles.j0 k t235 (Int.tmod t238 8) (Int.tmod t239 8) t240 t241 t245 true)) else (laws_FnProfiles.j0 k t235 (Int.tmod t238 8) (Int.tmod t239 8) t240 t241 t245 false))) = some r := by rw [if_pos rfl] at H; exact H
            clear H
            have H := H1
            clear H1
            by_cases c19 : t241 = (-1)
            · as_aux_lemma =>
              rw [if_pos c19] at H
              have c19b0 : (t241 == (-1)) = true := beq_iff_eq.mpr c19
              have c19b1 : (t241 != (-1)) = false := bne_eq_false_iff_eq.mpr c19
              clear c19
              (first | rw [c19b0] | (simp only [i64_w, i32_w]; rw [c19b0]) | skip)
              by_cases c20 : (t240.length : Int) = (t235.length : Int)
              · as_aux_lemma =>
                rw [if_pos c20] at H
                have c20b0 : ((t240.length : Int) == (t235.length : Int)) = true := beq_iff_eq.mpr c20
                have c20b1 : ((t240.length : Int) != (t235.length : Int)) = false := bne_eq_false_iff_eq.mpr c20
                have c20b2 : (t240.length == t235.length) = true := by first | simpa using c20 | (simp at c20 ⊢; omega)
                clear c20
                by_cases c21 : t241 ≥ 0
                · as_aux_lemma =>
                  rw [if_pos c21] at H
                  have c21b0 : decide (0 ≤ t241) = true := decide_eq_true c21
                  clear c21
                  by_cases c22 : (t240.length : Int) = t241
                  · as_aux_lemma =>
                    rw [if_pos c22] at H
                    have c22b0 : ((t240.length : Int) == t241) = true := beq_iff_eq.mpr c22
                    have c22b1 : ((t240.length : Int) != t241) = false := bne_eq_false_iff_eq.mpr c22
                    clear c22
                    by_cases c23 : t246 ≥ 0
                    · as_aux_lemma =>
                      rw [if_pos c23] at H
                      have c23b0 : decide (0 ≤ t246) = true := decide_eq_true c23
                      clear c23
                      by_cases c24 : t246 < t241
                      · as_aux_lemma =>
                        rw [if_pos c24] at H
                        have c24b0 : decide (t246 < t241) = true := decide_eq_true c24
                        clear c24
                        have H' := Aside0.mk H
                        clear H
                        go_wp2_with (first | (go_at_call 14; (with_reducible refine (impl_PointsOk.calls k _ _ t235 true _ ?side1 ?side2 A17.out).mono ?_); (case side1 => repeat (first | exact (Kd.R_reads' HO237.out).2.2 | (with_reducible refine Kd.C_alloc ?_ _) | (with_reducible refine Kd.C_drewN ?_ _) | (with_reducible refine Kd.C_drew ?_))); (case side2 => exact (Kd.R_reads' HO237.out).2.1); rintro e w25 ⟨rfl, hb⟩; have n0_ := Aside0.mk (Kd.R_below (by (with_reducible repeat (first | apply Kd.R_alloc | apply Kd.R_drewN | apply Kd.R_drew)); exact HO237.out) hb); have n1_ := Aside0.mk (Kd.R_below (by (with_reducible repeat (first | apply Kd.R_alloc | apply Kd.R_drewN | apply Kd.R_drew)); exact HO244.out) hb); have n2_ := Aside0.mk (Kd.R_below (by (with_reducible repeat (first | apply Kd.R_alloc | apply Kd.R_drewN | apply Kd.R_drew)); exact HO249.out) hb); have n3_ := Aside0.mk (below_step (by repeat (first | (with_reducible first | exact HB.out | apply below_alloc | apply pw_below_drewN | apply below_drew1) | exact HB.out)) hb); clear HO237; clear HO244; clear HO249; clear HB; have HO237 := n0_; have HO244 := n1_; have HO249 := n2_; have HB := n3_; clear n0_ n1_ n2_ n3_; (try clear hb); (try clear hb2); (try clear hk); (try clear hi); obtain ⟨Ao26, co26, eo26⟩ := Kd.R_slice HO244.out; subst eo26))
                        repeat (go_quiet (first | (go_at_call 14; (with_reducible refine (impl_PointsOk.calls k _ _ t235 true _ ?side1 ?side2 A17.out).mono ?_); (case side1 => repeat (first | exact (Kd.R_reads' HO237.out).2.2 | (with_reducible refine Kd.C_alloc ?_ _) | (with_reducible refine Kd.C_drewN ?_ _) | (with_reducible refine Kd.C_drew ?_))); (case side2 => exact (Kd.R_reads' HO237.out).2.1); rintro e w25 ⟨rfl, hb⟩; have n0_ := Aside0.mk (Kd.R_below (by (with_reducible repeat (first | apply Kd.R_alloc | apply Kd.R_drewN | apply Kd.R_drew)); exact HO237.out) hb); have n1_ := Aside0.mk (Kd.R_below (by (with_reducible repeat (first | apply Kd.R_alloc | apply Kd.R_drewN | apply Kd.R_drew)); exact HO244.out) hb); have n2_ := Aside0.mk (Kd.R_below (by (with_reducible repeat (first | apply Kd.R_alloc | apply Kd.R_drewN | apply Kd.R_drew)); exact HO249.out) hb); have n3_ := Aside0.mk (below_step (by repeat (first | (with_reducible first | exact HB.out | apply below_alloc | apply pw_below_drewN | apply below_drew1) | exact HB.out)) hb); clear HO237; clear HO244; clear HO249; clear HB; have HO237 := n0_; have HO244 := n1_; have HO249 := n2_; have HB := n3_; clear n0_ n1_ n2_ n3_; (try clear hb); (try clear hb2); (try clear hk); (try clear hi); obtain ⟨Ao26, co26, eo26⟩ := Kd.R_slice HO244.out; subst eo26)); try go_wp2_with (first | (go_at_call 14; (with_reducible refine (impl_PointsOk.calls k _ _ t235 true _ ?side1 ?side2 A17.out).mono ?_); (case side1 => repeat (first | exact (Kd.R_reads' HO237.out).2.2 | (with_reducible refine Kd.C_alloc ?_ _) | (with_reducible refine Kd.C_drewN ?_ _) | (with_reducible refine Kd.C_drew ?_))); (case side2 => exact (Kd.R_reads' HO237.out).2.1); rintro e w25 ⟨rfl, hb⟩; have n0_ := Aside0.mk (Kd.R_below (by (with_reducible repeat (first | apply Kd.R_alloc | apply Kd.R_drewN | apply Kd.R_drew)); exact HO237.out) hb); have n1_ := Aside0.mk (Kd.R_below (by (with_reducible repeat (first | apply Kd.R_alloc | apply Kd.R_drewN | apply Kd.R_drew)); exact HO244.out) hb); have n2_ := Aside0.mk (Kd.R_below (by (with_reducible repeat (first | apply Kd.R_alloc | apply Kd.R_drewN | apply Kd.R_drew)); exact HO249.out) hb); have n3_ := Aside0.mk (below_step (by repeat (first | (with_reducible first | exact HB.out | apply below_alloc | apply pw_below_drewN | apply below_drew1) | exact HB.out)) hb); clear HO237; clear HO244; clear HO249; clear HB; have HO237 := n0_; have HO244 := n1_; have HO249 := n2_; have HB := n3_; clear n0_ n1_ n2_ n3_; (try clear hb); (try clear hb2); (try clear hk); (try clear hi); obtain ⟨Ao26, co26, eo26⟩ := Kd.R_slice HO244.out; subst eo26)))
                        go_meet
                        case rel => exact ⟨_, (true), (by first | rfl | (simp; done) | (simp [*]; done)), H', ⟨by first | omega | exact Nat.le_refl _⟩, ⟨by (with_reducible repeat (first | apply Kd.R_alloc | apply Kd.R_drewN | apply Kd.R_drew)); exact Kd.R_mono HO237.out (fun _ hk => ⟨hk.1.2, hk.2⟩)⟩, ⟨by (with_reducible repeat (first | apply Kd.R_alloc | apply Kd.R_drewN | apply Kd.R_drew)); exact Kd.R_mono HO244.out (fun _ hk => ⟨hk.1.2, hk.2⟩)⟩, ⟨by (with_reducible repeat (first | apply Kd.R_alloc | apply Kd.R_drewN | apply Kd.R_drew)); exact Kd.R_mono HO249.out (fun _ hk => ⟨hk.1.2, hk.2⟩)⟩, ⟨by repeat (first | (with_reducible first | exact HB.out | apply below_alloc | apply pw_below_drewN | apply below_drew1) | exact HB.out)⟩⟩
                      · as_aux_lemma =>
                        rw [if_neg c24] at H
                        have c24b0 : decide (t246 < t241) = false := decide_eq_false c24
                        clear c24
                        have H' := Aside0.mk H
                        clear H
                        go_wp2_with (first | (go_at_call 14; (with_reducible refine (impl_PointsOk.calls k _ _ t235 true _ ?side1 ?side2 A17.out).mono ?_); (case side1 => repeat (first | exact (Kd.R_reads' HO237.out).2.2 | (with_reducible refine Kd.C_alloc ?_ _) | (with_reducible refine Kd.C_drewN ?_ _) | (with_reducible refine Kd.C_drew ?_))); (case side2 => exact (Kd.R_reads' HO237.out).2.1); rintro e w27 ⟨rfl, hb⟩; have n0_ := Aside0.mk (Kd.R_below (by (with_reducible repeat (first | apply Kd.R_alloc | apply Kd.R_drewN | apply Kd.R_drew)); exact HO237.out) hb); have n1_ := Aside0.mk (Kd.R_below (by (with_reducible repeat (first | apply Kd.R_alloc | apply Kd.R_drewN | apply Kd.R_drew)); exact HO244.out) hb); have n2_ := Aside0.mk (Kd.R_below (by (with_reducible repeat (first | apply Kd.R_alloc | apply Kd.R_drewN | apply Kd.R_drew)); exact HO249.out) hb); have n3_ := Aside0.mk (below_step (by repeat (first | (with_reducible first | exact HB.out | apply below_alloc | apply pw_below_drewN | apply below_drew1) | exact HB.out)) hb); clear HO237; clear HO244; clear HO249; clear HB; have HO237 := n0_; have HO244 := n1_; have HO249 := n2_; have HB := n3_; clear n0_ n1_ n2_ n3_; (try clear hb); (try clear hb2); (try clear hk); (try clear hi); obtain ⟨Ao28, co28, eo28⟩ := Kd.R_slice HO244.out; subst eo28))
                        repeat (go_quiet (first | (go_at_call 14; (with_reducible refine (impl_PointsOk.calls k _ _ t235 true _ ?side1 ?side2 A17.out).mono ?_); (case side1 => repeat (first | exact (Kd.R_reads' HO237.out).2.2 | (with_reducible refine Kd.C_alloc ?_ _) | (with_reducible refine Kd.C_drewN ?_ _) | (with_reducible refine Kd.C_drew ?_))); (case side2 => exact (Kd.R_reads' HO237.out).2.1); rintro e w27 ⟨rfl, hb⟩; have n0_ := Aside0.mk (Kd.R_below (by (with_reducible repeat (first | apply Kd.R_alloc | apply Kd.R_drewN | apply Kd.R_drew)); exact HO237.out) hb); have n1_ := Aside0.mk (Kd.R_below (by (with_reducible repeat (first | apply Kd.R_alloc | apply Kd.R_drewN | apply Kd.R_drew)); exact HO244.out) hb); have n2_ := Aside0.mk (Kd.R_below (by (with_reducible repeat (first | apply Kd.R_alloc | apply Kd.R_drewN | apply Kd.R_drew)); exact HO249.out) hb); have n3_ := Aside0.mk (below_step (by repeat (first | (with_reducible first | exact HB.out | apply below_alloc | apply pw_below_drewN | apply below_drew1) | exact HB.out)) hb); clear HO237; clear HO244; clear HO249; clear HB; have HO237 := n0_; have HO244 := n1_; have HO249 := n2_; have HB := n3_; clear n0_ n1_ n2_ n3_; (try clear hb); (try clear hb2); (try clear hk); (try clear hi); obtain ⟨Ao28, co28, eo28⟩ := Kd.R_slice HO244.out; subst eo28)); try go_wp2_with (first | (go_at_call 14; (with_reducible refine (impl_PointsOk.calls k _ _ t235 true _ ?side1 ?side2 A17.out).mono ?_); (case side1 => repeat (first | exact (Kd.R_reads' HO237.out).2.2 | (with_reducible refine Kd.C_alloc ?_ _) | (with_reducible refine Kd.C_drewN ?_ _) | (with_reducible refine Kd.C_drew ?_))); (case side2 => exact (Kd.R_reads' HO237.out).2.1); rintro e w27 ⟨rfl, hb⟩; have n0_ := Aside0.mk (Kd.R_below (by (with_reducible repeat (first | apply Kd.R_alloc | apply Kd.R_drewN | apply Kd.R_drew)); exact HO237.out) hb); have n1_ := Aside0.mk (Kd.R_below (by (with_reducible repeat (first | apply Kd.R_alloc | apply Kd.R_drewN | apply Kd.R_drew)); exact HO244.out) hb); have n2_ := Aside0.mk (Kd.R_below (by (with_reducible repeat (first | apply Kd.R_alloc | apply Kd.R_drewN | apply Kd.R_drew)); exact HO249.out) hb); have n3_ := Aside0.mk (below_step (by repeat (first | (with_reducible first | exact HB.out | apply below_alloc | apply pw_below_drewN | apply below_drew1) | exact HB.out)) hb); clear HO237; clear HO244; clear HO249; clear HB; have HO237 := n0_; have HO244 := n1_; have HO249 := n2_; have HB := n3_; clear n0_ n1_ n2_ n3_; (try clear hb); (try clear hb2); (try clear hk); (try clear hi); obtain ⟨Ao28, co28, eo28⟩ := Kd.R_slice HO244.out; subst eo28)))
                        go_meet
                        case rel => exact ⟨_, ((t246 != (-1))), (by first | rfl | (simp; done) | (simp [*]; done)), H', ⟨by first | omega | exact Nat.le_refl _⟩, ⟨by (with_reducible repeat (first | apply Kd.R_alloc | apply Kd.R_drewN | apply Kd.R_drew)); exact Kd.R_mono HO237.out (fun _ hk => ⟨hk.1.2, hk.2⟩)⟩, ⟨by (with_reducible repeat (first | apply Kd.R_alloc | apply Kd.R_drewN | apply Kd.R_drew)); exact Kd.R_mono HO244.out (fun _ hk => ⟨hk.1.2, hk.2⟩)⟩, ⟨by (with_reducible repeat (first | apply Kd.R_alloc | apply Kd.R_drewN | apply Kd.R_drew)); exact Kd.R_mono HO249.out (fun _ hk => ⟨hk.1.2, hk.2⟩)⟩, ⟨by repeat (first | (with_reducible first | exact HB.out | apply below_alloc | apply pw_below_drewN | apply below_drew1) | exact HB.out)⟩⟩
                    · as_aux_lemma =>
                      rw [if_neg c23] at H
                      have c23b0 : decide (0 ≤ t246) = false := decide_eq_false c23
                      clear c23
                      have H' := Aside0.mk H
                      clear H
                      go_wp2_with (first | (go_at_call 14; (with_reducible refine (impl_PointsOk.calls k _ _ t235 true _ ?side1 ?side2 A17.out).mono ?_); (case side1 => repeat (first | exact (Kd.R_reads' HO237.out).2.2 | (with_reducible refine Kd.C_alloc ?_ _) | (with_reducible refine Kd.C_drewN ?_ _) | (with_reducible refine Kd.C_drew ?_))); (case side2 => exact (Kd.R_reads' HO237.out).2.1); rintro e w29 ⟨rfl, hb⟩; have n0_ := Aside0.mk (Kd.R_below (by (with_reducible repeat (first | apply Kd.R_alloc | apply Kd.R_drewN | apply Kd.R_drew)); exact HO237.out) hb); have n1_ := Aside0.mk (Kd.R_below (by (with_reducible repeat (first | apply Kd.R_alloc | apply Kd.R_drewN | apply Kd.R_drew)); exact HO244.out) hb); have n2_ := Aside0.mk (Kd.R_below (by (with_reducible repeat (first | apply Kd.R_alloc | apply Kd.R_drewN | apply Kd.R_drew)); exact HO249.out) hb); have n3_ := Aside0.mk (below_step (by repeat (first | (with_reducible first | exact HB.out | apply below_alloc | apply pw_below_drewN | apply below_drew1) | exact HB.out)) hb); clear HO237; clear HO244; clear HO249; clear HB; have HO237 := n0_; have HO244 := n1_; have HO249 := n2_; have HB := n3_; clear n0_ n1_ n2_ n3_; (try clear hb); (try clear hb2); (try clear hk); (try clear hi); obtain ⟨Ao30, co30, eo30⟩ := Kd.R_slice HO244.out; subst eo30))
                      repeat (go_quiet (first | (go_at_call 14; (with_reducible refine (impl_PointsOk.calls k _ _ t235 true _ ?side1 ?side2 A17.out).mono ?_); (case side1 => repeat (first | exact (Kd.R_reads' HO237.out).2.2 | (with_reducible refine Kd.C_alloc ?_ _) | (with_reducible refine Kd.C_drewN ?_ _) | (with_reducible refine Kd.C_drew ?_))); (case side2 => exact (Kd.R_reads' HO237.out).2.1); rintro e w29 ⟨rfl, hb⟩; have n0_ := Aside0.mk (Kd.R_below (by (with_reducible repeat (first | apply Kd.R_alloc | apply Kd.R_drewN | apply Kd.R_drew)); exact HO237.out) hb); have n1_ := Aside0.mk (Kd.R_below (by (with_reducible repeat (first | apply Kd.R_alloc | apply Kd.R_drewN | apply Kd.R_drew)); exact HO244.out) hb); have n2_ := Aside0.mk (Kd.R_below (by (with_reducible repeat (first | apply Kd.R_alloc | apply Kd.R_drewN | apply Kd.R_drew)); exact HO249.out) hb); have n3_ := Aside0.mk (below_step (by repeat (first | (with_reducible first | exact HB.out | apply below_alloc | apply pw_below_drewN | apply below_drew1) | exact HB.out)) hb); clear HO237; clear HO244; clear HO249; clear HB; have HO237 := n0_; have HO244 := n1_; have HO249 := n2_; have HB := n3_; clear n0_ n1_ n2_ n3_; (try clear hb); (try clear hb2); (try clear hk); (try clear hi); obtain ⟨Ao30, co30, eo30⟩ := Kd.R_slice HO244.out; subst eo30)); try go_wp2_with (first | (go_at_call 14; (with_reducible refine (impl_PointsOk.calls k _ _ t235 true _ ?side1 ?side2 A17.out).mono ?_); (case side1 => repeat (first | exact (Kd.R_reads' HO237.out).2.2 | (with_reducible refine Kd.C_alloc ?_ _) | (with_reducible refine Kd.C_drewN ?_ _) | (with_reducible refine Kd.C_drew ?_))); (case side2 => exact (Kd.R_reads' HO237.out).2.1); rintro e w29 ⟨rfl, hb⟩; have n0_ := Aside0.mk (Kd.R_below (by (with_reducible repeat (first | apply Kd.R_alloc | apply Kd.R_drewN | apply Kd.R_drew)); exact HO237.out) hb); have n1_ := Aside0.mk (Kd.R_below (by (with_reducible repeat (first | apply Kd.R_alloc | apply Kd.R_drewN | apply Kd.R_drew)); exact HO244.out) hb); have n2_ := Aside0.mk (Kd.R_below (by (with_reducible repeat (first | apply Kd.R_alloc | apply Kd.R_drewN | apply Kd.R_drew)); exact HO249.out) hb); have n3_ := Aside0.mk (below_step (by repeat (first | (with_reducible first | exact HB.out | apply below_alloc | apply pw_below_drewN | apply below_drew1) | exact HB.out)) hb); clear HO237; clear HO244; clear HO249; clear HB; have HO237 := n0_; have HO244 := n1_; have HO249 := n2_; have HB := n3_; clear n0_ n1_ n2_ n3_; (try clear hb); (try clear hb2); (try clear hk); (try clear hi); obtain ⟨Ao30, co30, eo30⟩ := Kd.R_slice HO244.out; subst eo30)))
                      go_meet
                      case rel => exact ⟨_, ((t246 != (-1))), (by first | rfl | (simp; done) | (simp [*]; done)), H', ⟨by first | omega | exact Nat.le_refl _⟩, ⟨by (with_reducible repeat (first | apply Kd.R_alloc | apply Kd.R_drewN | apply Kd.R_drew)); exact Kd.R_mono HO237.out (fun _ hk => ⟨hk.1.2, hk.2⟩)⟩, ⟨by (with_reducible repeat (first | apply Kd.R_alloc | apply Kd.R_drewN | apply Kd.R_drew)); exact Kd.R_mono HO244.out (fun _ hk => ⟨hk.1.2, hk.2⟩)⟩, ⟨by (with_reducible repeat (first | apply Kd.R_alloc | apply Kd.R_drewN | apply Kd.R_drew)); exact Kd.R_mono HO249.out (fun _ hk => ⟨hk.1.2, hk.2⟩)⟩, ⟨by repeat (first | (with_reducible first | exact HB.out | apply below_alloc | apply pw_below_drewN | apply below_drew1) | exact HB.out)⟩⟩
                  · as_aux_lemma =>
                    rw [if_neg c22] at H
                    have c22b0 : ((t240.length : Int) == t241) = false := beq_eq_false_iff_ne.mpr c22
                    have c22b1 : ((t240.length : Int) != t241) = true := bne_iff_ne.mpr c22
                    have H' := Aside0.mk H
                    clear H
                    go_wp2_with (first | (go_at_call 14; (with_reducible refine (impl_PointsOk.calls k _ _ t235 true _ ?side1 ?side2 A17.out).mono ?_); (case side1 => repeat (first | exact (Kd.R_reads' HO237.out).2.2 | (with_reducible refine Kd.C_alloc ?_ _) | (with_reducible refine Kd.C_drewN ?_ _) | (with_reducible refine Kd.C_drew ?_))); (case side2 => exact (Kd.R_reads' HO237.out).2.1); rintro e w31 ⟨rfl, hb⟩; have n0_ := Aside0.mk (Kd.R_below (by (with_reducible repeat (first | apply Kd.R_alloc | apply Kd.R_drewN | apply Kd.R_drew)); exact HO237.out) hb); have n1_ := Aside0.mk (Kd.R_below (by (with_reducible repeat (first | apply Kd.R_alloc | apply Kd.R_drewN | apply Kd.R_drew)); exact HO244.out) hb); have n2_ := Aside0.mk (Kd.R_below (by (with_reducible repeat (first | apply Kd.R_alloc | apply Kd.R_drewN | apply Kd.R_drew)); exact HO249.out) hb); have n3_ := Aside0.mk (below_step (by repeat (first | (with_reducible first | exact HB.out | apply below_alloc | apply pw_below_drewN | apply below_drew1) | exact HB.out)) hb); clear HO237; clear HO244; clear HO249; clear HB; have HO237 := n0_; have HO244 := n1_; have HO249 := n2_; have HB := n3_; clear n0_ n1_ n2_ n3_; (try clear hb); (try clear hb2); (try clear hk); (try clear hi); obtain ⟨Ao32, co32, eo32⟩ := Kd.R_slice HO244.out; subst eo32))
                    repeat (go_quiet (first | (go_at_call 14; (with_reducible refine (impl_PointsOk.calls k _ _ t235 true _ ?side1 ?side2 A17.out).mono ?_); (case side1 => repeat (first | exact (Kd.R_reads' HO237.out).2.2 | (with_reducible refine Kd.C_alloc ?_ _) | (with_reducible refine Kd.C_drewN ?_ _) | (with_reducible refine Kd.C_drew ?_))); (case side2 => exact (Kd.R_reads' HO237.out).2.1); rintro e w31 ⟨rfl, hb⟩; have n0_ := Aside0.mk (Kd.R_below (by (with_reducible repeat (first | apply Kd.R_alloc | apply Kd.R_drewN | apply Kd.R_drew)); exact HO237.out) hb); have n1_ := Aside0.mk (Kd.R_below (by (with_reducible repeat (first | apply Kd.R_alloc | apply Kd.R_drewN | apply Kd.R_drew)); exact HO244.out) hb); have n2_ := Aside0.mk (Kd.R_below (by (with_reducible repeat (first | apply Kd.R_alloc | apply Kd.R_drewN | apply Kd.R_drew)); exact HO249.out) hb); have n3_ := Aside0.mk (below_step (by repeat (first | (with_reducible first | exact HB.out | apply below_alloc | apply pw_below_drewN | apply below_drew1) | exact HB.out)) hb); clear HO237; clear HO244; clear HO249; clear HB; have HO237 := n0_; have HO244 := n1_; have HO249 := n2_; have HB := n3_; clear n0_ n1_ n2_ n3_; (try clear hb); (try clear hb2); (try clear hk); (try clear hi); obtain ⟨Ao32, co32, eo32⟩ := Kd.R_slice HO244.out; subst eo32)); try go_wp2_with (first | (go_at_call 14; (with_reducible refine (impl_PointsOk.calls k _ _ t235 true _ ?side1 ?side2 A17.out).mono ?_); (case side1 => repeat (first | exact (Kd.R_reads' HO237.out).2.2 | (with_reducible refine Kd.C_alloc ?_ _) | (with_reducible refine Kd.C_drewN ?_ _) | (with_reducible refine Kd.C_drew ?_))); (case side2 => exact (Kd.R_reads' HO237.out).2.1); rintro e w31 ⟨rfl, hb⟩; have n0_ := Aside0.mk (Kd.R_below (by (with_reducible repeat (first | apply Kd.R_alloc | apply Kd.R_drewN | apply Kd.R_drew)); exact HO237.out) hb); have n1_ := Aside0.mk (Kd.R_below (by (with_reducible repeat (first | apply Kd.R_alloc | apply Kd.R_drewN | apply Kd.R_drew)); exact HO244.out) hb); have n2_ := Aside0.mk (Kd.R_below (by (with_reducible repeat (first | apply Kd.R_alloc | apply Kd.R_drewN | apply Kd.R_drew)); exact HO249.out) hb); have n3_ := Aside0.mk (below_step (by repeat (first | (with_reducible first | exact HB.out | apply below_alloc | apply pw_below_drewN | apply below_drew1) | exact HB.out)) hb); clear HO237; clear HO244; clear HO249; clear HB; have HO237 := n0_; have HO244 := n1_; have HO249 := n2_; have HB := n3_; clear n0_ n1_ n2_ n3_; (try clear hb); (try clear hb2); (try clear hk); (try clear hi); obtain ⟨Ao32, co32, eo32⟩ := Kd.R_slice HO244.out; subst eo32)))
                    go_meet
                    case rel => exact ⟨_, (true), (by first | rfl | (simp; done) | (simp [*]; done)), H', ⟨by first | omega | exact Nat.le_refl _⟩, ⟨by (with_reducible repeat (first | apply Kd.R_alloc | apply Kd.R_drewN | apply Kd.R_drew)); exact Kd.R_mono HO237.out (fun _ hk => ⟨hk.1.2, hk.2⟩)⟩, ⟨by (with_reducible repeat (first | apply Kd.R_alloc | apply Kd.R_drewN | apply Kd.R_drew)); exact Kd.R_mono HO244.out (fun _ hk => ⟨hk.1.2, hk.2⟩)⟩, ⟨by (with_reducible repeat (first | apply Kd.R_alloc | apply Kd.R_drewN | apply Kd.R_drew)); exact Kd.R_mono HO249.out (fun _ hk => ⟨hk.1.2, hk.2⟩)⟩, ⟨by repeat (first | (with_reducible first | exact HB.out | apply below_alloc | apply pw_below_drewN | apply below_drew1) | exact HB.out)⟩⟩
                · as_aux_lemma =>
                  rw [if_neg c21] at H
                  have c21b0 : decide (0 ≤ t241) = false := decide_eq_false c21
                  clear c21
                  have H' := Aside0.mk H
                  clear H
                  go_wp2_with (first | (go_at_call 14; (with_reducible refine (impl_PointsOk.calls k _ _ t235 true _ ?side1 ?side2 A17.out).mono ?_); (case side1 => repeat (first | exact (Kd.R_reads' HO237.out).2.2 | (with_reducible refine Kd.C_alloc ?_ _) | (with_reducible refine Kd.C_drewN ?_ _) | (with_reducible refine Kd.C_drew ?_))); (case side2 => exact (Kd.R_reads' HO237.out).2.1); rintro e w33 ⟨rfl, hb⟩; have n0_ := Aside0.mk (Kd.R_below (by (with_reducible repeat (first | apply Kd.R_alloc | apply Kd.R_drewN | apply Kd.R_drew)); exact HO237.out) hb); have n1_ := Aside0.mk (Kd.R_below (by (with_reducible repeat (first | apply Kd.R_alloc | apply Kd.R_drewN | apply Kd.R_drew)); exact HO244.out) hb); have n2_ := Aside0.mk (Kd.R_below (by (with_reducible repeat (first | apply Kd.R_alloc | apply Kd.R_drewN | apply Kd.R_drew)); exact HO249.out) hb); have n3_ := Aside0.mk (below_step (by repeat (first | (with_reducible first | exact HB.out | apply below_alloc | apply pw_below_drewN | apply below_drew1) | exact HB.out)) hb); clear HO237; clear HO244; clear HO249; clear HB; have HO237 := n0_; have HO244 := n1_; have HO249 := n2_; have HB := n3_; clear n0_ n1_ n2_ n3_; (try clear hb); (try clear hb2); (try clear hk); (try clear hi); obtain ⟨Ao34, co34, eo34⟩ := Kd.R_slice HO244.out; subst eo34))
                  repeat (go_quiet (first | (go_at_call 14; (with_reducible refine (impl_PointsOk.calls k _ _ t235 true _ ?side1 ?side2 A17.out).mono ?_); (case side1 => repeat (first | exact (Kd.R_reads' HO237.out).2.2 | (with_reducible refine Kd.C_alloc ?_ _) | (with_reducible refine Kd.C_drewN ?_ _) | (with_reducible refine Kd.C_drew ?_))); (case side2 => exact (Kd.R_reads' HO237.out).2.1); rintro e w33 ⟨rfl, hb⟩; have n0_ := Aside0.mk (Kd.R_below (by (with_reducible repeat (first | apply Kd.R_alloc | apply Kd.R_drewN | apply Kd.R_drew)); exact HO237.out) hb); have n1_ := Aside0.mk (Kd.R_below (by (with_reducible repeat (first | apply Kd.R_alloc | apply Kd.R_drewN | apply Kd.R_drew)); exact HO244.out) hb); have n2_ := Aside0.mk (Kd.R_below (by (with_reducible repeat (first | apply Kd.R_alloc | apply Kd.R_drewN | apply Kd.R_drew)); exact HO249.out) hb); have n3_ := Aside0.mk (below_step (by repeat (first | (with_reducible first | exact HB.out | apply below_alloc | apply pw_below_drewN | apply below_drew1) | exact HB.out)) hb); clear HO237; clear HO244; clear HO249; clear HB; have HO237 := n0_; have HO244 := n1_; have HO249 := n2_; have HB := n3_; clear n0_ n1_ n2_ n3_; (try clear hb); (try clear hb2); (try clear hk); (try clear hi); obtain ⟨Ao34, co34, eo34⟩ := Kd.R_slice HO244.out; subst eo34)); try go_wp2_with (first | (go_at_call 14; (with_reducible refine (impl_PointsOk.calls k _ _ t235 true _ ?side1 ?side2 A17.out).mono ?_); (case side1 => repeat (first | exact (Kd.R_reads' HO237.out).2.2 | (with_reducible refine Kd.C_alloc ?_ _) | (with_reducible refine Kd.C_drewN ?_ _) | (with_reducible refine Kd.C_drew ?_))); (case side2 => exact (Kd.R_reads' HO237.out).2.1); rintro e w33 ⟨rfl, hb⟩; have n0_ := Aside0.mk (Kd.R_below (by (with_reducible repeat (first | apply Kd.R_alloc | apply Kd.R_drewN | apply Kd.R_drew)); exact HO237.out) hb); have n1_ := Aside0.mk (Kd.R_below (by (with_reducible repeat (first | apply Kd.R_alloc | apply Kd.R_drewN | apply Kd.R_drew)); exact HO244.out) hb); have n2_ := Aside0.mk (Kd.R_below (by (with_reducible repeat (first | apply Kd.R_alloc | apply Kd.R_drewN | apply Kd.R_drew)); exact HO249.out) hb); have n3_ := Aside0.mk (below_step (by repeat (first | (with_reducible first | exact HB.out | apply below_alloc | apply pw_below_drewN | apply below_drew1) | exact HB.out)) hb); clear HO237; clear HO244; clear HO249; clear HB; have HO237 := n0_; have HO244 := n1_; have HO249 := n2_; have HB := n3_; clear n0_ n1_ n2_ n3_; (try clear hb); (try clear hb2); (try clear hk); (try clear hi); obtain ⟨Ao34, co34, eo34⟩ := Kd.R_slice HO244.out; subst eo34)))
                  go_meet
                  case rel => exact ⟨_, ((t246 != (-1))), (by first | rfl | (simp; done) | (simp [*]; done)), H', ⟨by first | omega | exact Nat.le_refl _⟩, ⟨by (with_reducible repeat (first | apply Kd.R_alloc | apply Kd.R_drewN | apply Kd.R_drew)); exact Kd.R_mono HO237.out (fun _ hk => ⟨hk.1.2, hk.2⟩)⟩, ⟨by (with_reducible repeat (first | apply Kd.R_alloc | apply Kd.R_drewN | apply Kd.R_drew)); exact Kd.R_mono HO244.out (fun _ hk => ⟨hk.1.2, hk.2⟩)⟩, ⟨by (with_reducible repeat (first | apply Kd.R_alloc | apply Kd.R_drewN | apply Kd.R_drew)); exact Kd.R_mono HO249.out (fun _ hk => ⟨hk.1.2, hk.2⟩)⟩, ⟨by repeat (first | (with_reducible first | exact HB.out | apply below_alloc | apply pw_below_drewN | apply below_drew1) | exact HB.out)⟩⟩
              · as_aux_lemma =>
                rw [if_neg c20] at H
                have c20b0 : ((t240.length : Int) == (t235.length : Int)) = false := beq_eq_false_iff_ne.mpr c20
                have c20b1 : ((t240.length : Int) != (t235.length : Int)) = true := bne_iff_ne.mpr c20
                have c20b2 : (t240.length == t235.length) = false := by first | simpa using c20 | (simp at c20 ⊢; omega)
                have H' := Aside0.mk H
                clear H
                go_wp2_with (first | (go_at_call 14; (with_reducible refine (impl_PointsOk.calls k _ _ t235 true _ ?side1 ?side2 A17.out).mono ?_); (case side1 => repeat (first | exact (Kd.R_reads' HO237.out).2.2 | (with_reducible refine Kd.C_alloc ?_ _) | (with_reducible refine Kd.C_drewN ?_ _) | (with_reducible refine Kd.C_drew ?_))); (case side2 => exact (Kd.R_reads' HO237.out).2.1); rintro e w35 ⟨rfl, hb⟩; have n0_ := Aside0.mk (Kd.R_below (by (with_reducible repeat (first | apply Kd.R_alloc | apply Kd.R_drewN | apply Kd.R_drew)); exact HO237.out) hb); have n1_ := Aside0.mk (Kd.R_below (by (with_reducible repeat (first | apply Kd.R_alloc | apply Kd.R_drewN | apply Kd.R_drew)); exact HO244.out) hb); have n2_ := Aside0.mk (Kd.R_below (by (with_reducible repeat (first | apply Kd.R_alloc | apply Kd.R_drewN | apply Kd.R_drew)); exact HO249.out) hb); have n3_ := Aside0.mk (below_step (by repeat (first | (with_reducible first | exact HB.out | apply below_alloc | apply pw_below_drewN | apply below_drew1) | exact HB.out)) hb); clear HO237; clear HO244; clear HO249; clear HB; have HO237 := n0_; have HO244 := n1_; have HO249 := n2_; have HB := n3_; clear n0_ n1_ n2_ n3_; (try clear hb); (try clear hb2); (try clear hk); (try clear hi); obtain ⟨Ao36, co36, eo36⟩ := Kd.R_slice HO244.out; subst eo36))
                repeat (go_quiet (first | (go_at_call 14; (with_reducible refine (impl_PointsOk.calls k _ _ t235 true _ ?side1 ?side2 A17.out).mono ?_); (case side1 => repeat (first | exact (Kd.R_reads' HO237.out).2.2 | (with_reducible refine Kd.C_alloc ?_ _) | (with_reducible refine Kd.C_drewN ?_ _) | (with_reducible refine Kd.C_drew ?_))); (case side2 => exact (Kd.R_reads' HO237.out).2.1); rintro e w35 ⟨rfl, hb⟩; have n0_ := Aside0.mk (Kd.R_below (by (with_reducible repeat (first | apply Kd.R_alloc | apply Kd.R_drewN | apply Kd.R_drew)); exact HO237.out) hb); have n1_ := Aside0.mk (Kd.R_below (by (with_reducible repeat (first | apply Kd.R_alloc | apply Kd.R_drewN | apply Kd.R_drew)); exact HO244.out) hb); have n2_ := Aside0.mk (Kd.R_below (by (with_reducible repeat (first | apply Kd.R_alloc | apply Kd.R_drewN | apply Kd.R_drew)); exact HO249.out) hb); have n3_ := Aside0.mk (below_step (by repeat (first | (with_reducible first | exact HB.out | apply below_alloc | apply pw_below_drewN | apply below_drew1) | exact HB.out)) hb); clear HO237; clear HO244; clear HO249; clear HB; have HO237 := n0_; have HO244 := n1_; have HO249 := n2_; have HB := n3_; clear n0_ n1_ n2_ n3_; (try clear hb); (try clear hb2); (try clear hk); (try clear hi); obtain ⟨Ao36, co36, eo36⟩ := Kd.R_slice HO244.out; subst eo36)); try go_wp2_with (first | (go_at_call 14; (with_reducible refine (impl_PointsOk.calls k _ _ t235 true _ ?side1 ?side2 A17.out).mono ?_); (case side1 => repeat (first | exact (Kd.R_reads' HO237.out).2.2 | (with_reducible refine Kd.C_alloc ?_ _) | (with_reducible refine Kd.C_drewN ?_ _) | (with_reducible refine Kd.C_drew ?_))); (case side2 => exact (Kd.R_reads' HO237.out).2.1); rintro e w35 ⟨rfl, hb⟩; have n0_ := Aside0.mk (Kd.R_below (by (with_reducible repeat (first | apply Kd.R_alloc | apply Kd.R_drewN | apply Kd.R_drew)); exact HO237.out) hb); have n1_ := Aside0.mk (Kd.R_below (by (with_reducible repeat (first | apply Kd.R_alloc | apply Kd.R_drewN | apply Kd.R_drew)); exact HO244.out) hb); have n2_ := Aside0.mk (Kd.R_below (by (with_reducible repeat (first | apply Kd.R_alloc | apply Kd.R_drewN | apply Kd.R_drew)); exact HO249.out) hb); have n3_ := Aside0.mk (below_step (by repeat (first | (with_reducible first | exact HB.out | apply below_alloc | apply pw_below_drewN | apply below_drew1) | exact HB.out)) hb); clear HO237; clear HO244; clear HO249; clear HB; have HO237 := n0_; have HO244 := n1_; have HO249 := n2_; have HB := n3_; clear n0_ n1_ n2_ n3_; (try clear hb); (try clear hb2); (try clear hk); (try clear hi); obtain ⟨Ao36, co36, eo36⟩ := Kd.R_slice HO244.out; subst eo36)))
                go_meet
                case rel => exact ⟨_, (true), (by first | rfl | (simp; done) | (simp [*]; done)), H', ⟨by first | omega | exact Nat.le_refl _⟩, ⟨by (with_reducible repeat (first | apply Kd.R_alloc | apply Kd.R_drewN | apply Kd.R_drew)); exact Kd.R_mono HO237.out (fun _ hk => ⟨hk.1.2, hk.2⟩)⟩, ⟨by (with_reducible repeat (first | apply Kd.R_alloc | apply Kd.R_drewN | apply Kd.R_drew)); exact Kd.R_mono HO244.out (fun _ hk => ⟨hk.1.2, hk.2⟩)⟩, ⟨by (with_reducible repeat (first | apply Kd.R_alloc | apply Kd.R_drewN | apply Kd.R_drew)); exact Kd.R_mono HO249.out (fun _ hk => ⟨hk.1.2, hk.2⟩)⟩, ⟨by repeat (first | (with_reducible first | exact HB.out | apply below_alloc | apply pw_below_drewN | apply below_drew1) | exact HB.out)⟩⟩
            · as_aux_lemma =>
              rw [if_neg c19] at H
              have c19b0 : (t241 == (-1)) = false := beq_eq_false_iff_ne.mpr c19
              have c19b1 : (t241 != (-1)) = true := bne_iff_ne.mpr c19
              (first | rw [c19b0] | (simp only [i64_w, i32_w]; rw [c19b0]) | skip)
              by_cases c37 : t241 ≥ 0
              · as_aux_lemma =>
                rw [if_pos c37] at H
                have c37b0 : decide (0 ≤ t241) = true := decide_eq_true c37
                clear c37
                by_cases c38 : (t240.length : Int) = t241
                · as_aux_lemma =>
                  rw [if_pos c38] at H
                  have c38b0 : ((t240.length : Int) == t241) = true := beq_iff_eq.mpr c38
                  have c38b1 : ((t240.length : Int) != t241) = false := bne_eq_false_iff_eq.mpr c38
                  clear c38
                  by_cases c39 : t246 ≥ 0
                  · as_aux_lemma =>
                    rw [if_pos c39] at H
                    have c39b0 : decide (0 ≤ t246) = true := decide_eq_true c39
                    clear c39
                    by_cases c40 : t246 < t241
                    · as_aux_lemma =>
                      rw [if_pos c40] at H
                      have c40b0 : decide (t246 < t241) = true := decide_eq_true c40
                      clear c40
                      have H' := Aside0.mk H
                      clear H
                      go_wp2_with (first | (go_at_call 14; (with_reducible refine (impl_PointsOk.calls k _ _ t235 true _ ?side1 ?side2 A17.out).mono ?_); (case side1 => repeat (first | exact (Kd.R_reads' HO237.out).2.2 | (with_reducible refine Kd.C_alloc ?_ _) | (with_reducible refine Kd.C_drewN ?_ _) | (with_reducible refine Kd.C_drew ?_))); (case side2 => exact (Kd.R_reads' HO237.out).2.1); rintro e w41 ⟨rfl, hb⟩; have n0_ := Aside0.mk (Kd.R_below (by (with_reducible repeat (first | apply Kd.R_alloc | apply Kd.R_drewN | apply Kd.R_drew)); exact HO237.out) hb); have n1_ := Aside0.mk (Kd.R_below (by (with_reducible repeat (first | apply Kd.R_alloc | apply Kd.R_drewN | apply Kd.R_drew)); exact HO244.out) hb); have n2_ := Aside0.mk (Kd.R_below (by (with_reducible repeat (first | apply Kd.R_alloc | apply Kd.R_drewN | apply Kd.R_drew)); exact HO249.out) hb); have n3_ := Aside0.mk (below_step (by repeat (first | (with_reducible first | exact HB.out | apply below_alloc | apply pw_below_drewN | apply below_drew1) | exact HB.out)) hb); clear HO237; clear HO244; clear HO249; clear HB; have HO237 := n0_; have HO244 := n1_; have HO249 := n2_; have HB := n3_; clear n0_ n1_ n2_ n3_; (try clear hb); (try clear hb2); (try clear hk); (try clear hi); obtain ⟨Ao42, co42, eo42⟩ := Kd.R_slice HO244.out; subst eo42))
                      repeat (go_quiet (first | (go_at_call 14; (with_reducible refine (impl_PointsOk.calls k _ _ t235 true _ ?side1 ?side2 A17.out).mono ?_); (case side1 => repeat (first | exact (Kd.R_reads' HO237.out).2.2 | (with_reducible refine Kd.C_alloc ?_ _) | (with_reducible refine Kd.C_drewN ?_ _) | (with_reducible refine Kd.C_drew ?_))); (case side2 => exact (Kd.R_reads' HO237.out).2.1); rintro e w41 ⟨rfl, hb⟩; have n0_ := Aside0.mk (Kd.R_below (by (with_reducible repeat (first | apply Kd.R_alloc | apply Kd.R_drewN | apply Kd.R_drew)); exact HO237.out) hb); have n1_ := Aside0.mk (Kd.R_below (by (with_reducible repeat (first | apply Kd.R_alloc | apply Kd.R_drewN | apply Kd.R_drew)); exact HO244.out) hb); have n2_ := Aside0.mk (Kd.R_below (by (with_reducible repeat (first | apply Kd.R_alloc | apply Kd.R_drewN | apply Kd.R_drew)); exact HO249.out) hb); have n3_ := Aside0.mk (below_step (by repeat (first | (with_reducible first | exact HB.out | apply below_alloc | apply pw_below_drewN | apply below_drew1) | exact HB.out)) hb); clear HO237; clear HO244; clear HO249; clear HB; have HO237 := n0_; have HO244 := n1_; have HO249 := n2_; have HB := n3_; clear n0_ n1_ n2_ n3_; (try clear hb); (try clear hb2); (try clear hk); (try clear hi); obtain ⟨Ao42, co42, eo42⟩ := Kd.R_slice HO244.out; subst eo42)); try go_wp2_with (first | (go_at_call 14; (with_reducible refine (impl_PointsOk.calls k _ _ t235 true _ ?side1 ?side2 A17.out).mono ?_); (case side1 => repeat (first | exact (Kd.R_reads' HO237.out).2.2 | (with_reducible refine Kd.C_alloc ?_ _) | (with_reducible refine Kd.C_drewN ?_ _) | (with_reducible refine Kd.C_drew ?_))); (case side2 => exact (Kd.R_reads' HO237.out).2.1); rintro e w41 ⟨rfl, hb⟩; have n0_ := Aside0.mk (Kd.R_below (by (with_reducible repeat (first | apply Kd.R_alloc | apply Kd.R_drewN | apply Kd.R_drew)); exact HO237.out) hb); have n1_ := Aside0.mk (Kd.R_below (by (with_reducible repeat (first | apply Kd.R_alloc | apply Kd.R_drewN | apply Kd.R_drew)); exact HO244.out) hb); have n2_ := Aside0.mk (Kd.R_below (by (with_reducible repeat (first | apply Kd.R_alloc | apply Kd.R_drewN | apply Kd.R_drew)); exact HO249.out) hb); have n3_ := Aside0.mk (below_step (by repeat (first | (with_reducible first | exact HB.out | apply below_alloc | apply pw_below_drewN | apply below_drew1) | exact HB.out)) hb); clear HO237; clear HO244; clear HO249; clear HB; have HO237 := n0_; have HO244 := n1_; have HO249 := n2_; have HB := n3_; clear n0_ n1_ n2_ n3_; (try clear hb); (try clear hb2); (try clear hk); (try clear hi); obtain ⟨Ao42, co42, eo42⟩ := Kd.R_slice HO244.out; subst eo42)))
                      go_meet
                      case rel => exact ⟨_, (true), (by first | rfl | (simp; done) | (simp [*]; done)), H', ⟨by first | omega | exact Nat.le_refl _⟩, ⟨by (with_reducible repeat (first | apply Kd.R_alloc | apply Kd.R_drewN | apply Kd.R_drew)); exact Kd.R_mono HO237.out (fun _ hk => ⟨hk.1.2, hk.2⟩)⟩, ⟨by (with_reducible repeat (first | apply Kd.R_alloc | apply Kd.R_drewN | apply Kd.R_drew)); exact Kd.R_mono HO244.out (fun _ hk => ⟨hk.1.2, hk.2⟩)⟩, ⟨by (with_reducible repeat (first | apply Kd.R_alloc | apply Kd.R_drewN | apply Kd.R_drew)); exact Kd.R_mono HO249.out (fun _ hk => ⟨hk.1.2, hk.2⟩)⟩, ⟨by repeat (first | (with_reducible first | exact HB.out | apply below_alloc | apply pw_below_drewN | apply below_drew1) | exact HB.out)⟩⟩
                    · as_aux_lemma =>
                      rw [if_neg c40] at H
                      have c40b0 : decide (t246 < t241) = false := decide_eq_false c40
                      clear c40
                      have H' := Aside0.mk H
                      clear H
                      go_wp2_with (first | (go_at_call 14; (with_reducible refine (impl_PointsOk.calls k _ _ t235 true _ ?side1 ?side2 A17.out).mono ?_); (case side1 => repeat (first | exact (Kd.R_reads' HO237.out).2.2 | (with_reducible refine Kd.C_alloc ?_ _) | (with_reducible refine Kd.C_drewN ?_ _) | (with_reducible refine Kd.C_drew ?_))); (case side2 => exact (Kd.R_reads' HO237.out).2.1); rintro e w43 ⟨rfl, hb⟩; have n0_ := Aside0.mk (Kd.R_below (by (with_reducible repeat (first | apply Kd.R_alloc | apply Kd.R_drewN | apply Kd.R_drew)); exact HO237.out) hb); have n1_ := Aside0.mk (Kd.R_below (by (with_reducible repeat (first | apply Kd.R_alloc | apply Kd.R_drewN | apply Kd.R_drew)); exact HO244.out) hb); have n2_ := Aside0.mk (Kd.R_below (by (with_reducible repeat (first | apply Kd.R_alloc | apply Kd.R_drewN | apply Kd.R_drew)); exact HO249.out) hb); have n3_ := Aside0.mk (below_step (by repeat (first | (with_reducible first | exact HB.out | apply below_alloc | apply pw_below_drewN | apply below_drew1) | exact HB.out)) hb); clear HO237; clear HO244; clear HO249; clear HB; have HO237 := n0_; have HO244 := n1_; have HO249 := n2_; have HB := n3_; clear n0_ n1_ n2_ n3_; (try clear hb); (try clear hb2); (try clear hk); (try clear hi); obtain ⟨Ao44, co44, eo44⟩ := Kd.R_slice HO244.out; subst eo44))
                      repeat (go_quiet (first | (go_at_call 14; (with_reducible refine (impl_PointsOk.calls k _ _ t235 true _ ?side1 ?side2 A17.out).mono ?_); (case side1 => repeat (first | exact (Kd.R_reads' HO237.out).2.2 | (with_reducible refine Kd.C_alloc ?_ _) | (with_reducible refine Kd.C_drewN ?_ _) | (with_reducible refine Kd.C_drew ?_))); (case side2 => exact (Kd.R_reads' HO237.out).2.1); rintro e w43 ⟨rfl, hb⟩; have n0_ := Aside0.mk (Kd.R_below (by (with_reducible repeat (first | apply Kd.R_alloc | apply Kd.R_drewN | apply Kd.R_drew)); exact HO237.out) hb); have n1_ := Aside0.mk (Kd.R_below (by (with_reducible repeat (first | apply Kd.R_alloc | apply Kd.R_drewN | apply Kd.R_drew)); exact HO244.out) hb); have n2_ := Aside0.mk (Kd.R_below (by (with_reducible repeat (first | apply Kd.R_alloc | apply Kd.R_drewN | apply Kd.R_drew)); exact HO249.out) hb); have n3_ := Aside0.mk (below_step (by repeat (first | (with_reducible first | exact HB.out | apply below_alloc | apply pw_below_drewN | apply below_drew1) | exact HB.out)) hb); clear HO237; clear HO244; clear HO249; clear HB; have HO237 := n0_; have HO244 := n1_; have HO249 := n2_; have HB := n3_; clear n0_ n1_ n2_ n3_; (try clear hb); (try clear hb2); (try clear hk); (try clear hi); obtain ⟨Ao44, co44, eo44⟩ := Kd.R_slice HO244.out; subst eo44)); try go_wp2_with (first | (go_at_call 14; (with_reducible refine (impl_PointsOk.calls k _ _ t235 true _ ?side1 ?side2 A17.out).mono ?_); (case side1 => repeat (first | exact (Kd.R_reads' HO237.out).2.2 | (with_reducible refine Kd.C_alloc ?_ _) | (with_reducible refine Kd.C_drewN ?_ _) | (with_reducible refine Kd.C_drew ?_))); (case side2 => exact (Kd.R_reads' HO237.out).2.1); rintro e w43 ⟨rfl, hb⟩; have n0_ := Aside0.mk (Kd.R_below (by (with_reducible repeat (first | apply Kd.R_alloc | apply Kd.R_drewN | apply Kd.R_drew)); exact HO237.out) hb); have n1_ := Aside0.mk (Kd.R_below (by (with_reducible repeat (first | apply Kd.R_alloc | apply Kd.R_drewN | apply Kd.R_drew)); exact HO244.out) hb); have n2_ := Aside0.mk (Kd.R_below (by (with_reducible repeat (first | apply Kd.R_alloc | apply Kd.R_drewN | apply Kd.R_drew)); exact HO249.out) hb); have n3_ := Aside0.mk (below_step (by repeat (first | (with_reducible first | exact HB.out | apply below_alloc | apply pw_below_drewN | apply below_drew1) | exact HB.out)) hb); clear HO237; clear HO244; clear HO249; clear HB; have HO237 := n0_; have HO244 := n1_; have HO249 := n2_; have HB := n3_; clear n0_ n1_ n2_ n3_; (try clear hb); (try clear hb2); (try clear hk); (try clear hi); obtain ⟨Ao44, co44, eo44⟩ := Kd.R_slice HO244.out; subst eo44)))
                      go_meet
                      case rel => exact ⟨_, (false), (by first | rfl | (simp; done) | (simp [*]; done)), H', ⟨by first | omega | exact Nat.le_refl _⟩, ⟨by (with_reducible repeat (first | apply Kd.R_alloc | apply Kd.R_drewN | apply Kd.R_drew)); exact Kd.R_mono HO237.out (fun _ hk => ⟨hk.1.2, hk.2⟩)⟩, ⟨by (with_reducible repeat (first | apply Kd.R_alloc | apply Kd.R_drewN | apply Kd.R_drew)); exact Kd.R_mono HO244.out (fun _ hk => ⟨hk.1.2, hk.2⟩)⟩, ⟨by (with_reducible repeat (first | apply Kd.R_alloc | apply Kd.R_drewN | apply Kd.R_drew)); exact Kd.R_mono HO249.out (fun _ hk => ⟨hk.1.2, hk.2⟩)⟩, ⟨by repeat (first | (with_reducible first | exact HB.out | apply below_alloc | apply pw_below_drewN | apply below_drew1) | exact HB.out)⟩⟩
                  · as_aux_lemma =>
                    rw [if_neg c39] at H
                    have c39b0 : decide (0 ≤ t246) = false := decide_eq_false c39
                    clear c39
                    have H' := Aside0.mk H
                    clear H
                    go_wp2_with (first | (go_at_call 14; (with_reducible refine (impl_PointsOk.calls k _ _ t235 true _ ?side1 ?side2 A17.out).mono ?_); (case side1 => repeat (first | exact (Kd.R_reads' HO237.out).2.2 | (with_reducible refine Kd.C_alloc ?_ _) | (with_reducible refine Kd.C_drewN ?_ _) | (with_reducible refine Kd.C_drew ?_))); (case side2 => exact (Kd.R_reads' HO237.out).2.1); rintro e w45 ⟨rfl, hb⟩; have n0_ := Aside0.mk (Kd.R_below (by (with_reducible repeat (first | apply Kd.R_alloc | apply Kd.R_drewN | apply Kd.R_drew)); exact HO237.out) hb); have n1_ := Aside0.mk (Kd.R_below (by (with_reducible repeat (first | apply Kd.R_alloc | apply Kd.R_drewN | apply Kd.R_drew)); exact HO244.out) hb); have n2_ := Aside0.mk (Kd.R_below (by (with_reducible repeat (first | apply Kd.R_alloc | apply Kd.R_drewN | apply Kd.R_drew)); exact HO249.out) hb); have n3_ := Aside0.mk (below_step (by repeat (first | (with_reducible first | exact HB.out | apply below_alloc | apply pw_below_drewN | apply below_drew1) | exact HB.out)) hb); clear HO237; clear HO244; clear HO249; clear HB; have HO237 := n0_; have HO244 := n1_; have HO249 := n2_; have HB := n3_; clear n0_ n1_ n2_ n3_; (try clear hb); (try clear hb2); (try clear hk); (try clear hi); obtain ⟨Ao46, co46, eo46⟩ := Kd.R_slice HO244.out; subst eo46))
                    repeat (go_quiet (first | (go_at_call 14; (with_reducible refine (impl_PointsOk.calls k _ _ t235 true _ ?side1 ?side2 A17.out).mono ?_); (case side1 => repeat (first | exact (Kd.R_reads' HO237.out).2.2 | (with_reducible refine Kd.C_alloc ?_ _) | (with_reducible refine Kd.C_drewN ?_ _) | (with_reducible refine Kd.C_drew ?_))); (case side2 => exact (Kd.R_reads' HO237.out).2.1); rintro e w45 ⟨rfl, hb⟩; have n0_ := Aside0.mk (Kd.R_below (by (with_reducible repeat (first | apply Kd.R_alloc | apply Kd.R_drewN | apply Kd.R_drew)); exact HO237.out) hb); have n1_ := Aside0.mk (Kd.R_below (by (with_reducible repeat (first | apply Kd.R_alloc | apply Kd.R_drewN | apply Kd.R_drew)); exact HO244.out) hb); have n2_ := Aside0.mk (Kd.R_below (by (with_reducible repeat (first | apply Kd.R_alloc | apply Kd.R_drewN | apply Kd.R_drew)); exact HO249.out) hb); have n3_ := Aside0.mk (below_step (by repeat (first | (with_reducible first | exact HB.out | apply below_alloc | apply pw_below_drewN | apply below_drew1) | exact HB.out)) hb); clear HO237; clear HO244; clear HO249; clear HB; have HO237 := n0_; have HO244 := n1_; have HO249 := n2_; have HB := n3_; clear n0_ n1_ n2_ n3_; (try clear hb); (try clear hb2); (try clear hk); (try clear hi); obtain ⟨Ao46, co46, eo46⟩ := Kd.R_slice HO244.out; subst eo46)); try go_wp2_with (first | (go_at_call 14; (with_reducible refine (impl_PointsOk.calls k _ _ t235 true _ ?side1 ?side2 A17.out).mono ?_); (case side1 => repeat (first | exact (Kd.R_reads' HO237.out).2.2 | (with_reducible refine Kd.C_alloc ?_ _) | (with_reducible refine Kd.C_drewN ?_ _) | (with_reducible refine Kd.C_drew ?_))); (case side2 => exact (Kd.R_reads' HO237.out).2.1); rintro e w45 ⟨rfl, hb⟩; have n0_ := Aside0.mk (Kd.R_below (by (with_reducible repeat (first | apply Kd.R_alloc | apply Kd.R_drewN | apply Kd.R_drew)); exact HO237.out) hb); have n1_ := Aside0.mk (Kd.R_below (by (with_reducible repeat (first | apply Kd.R_alloc | apply Kd.R_drewN | apply Kd.R_drew)); exact HO244.out) hb); have n2_ := Aside0.mk (Kd.R_below (by (with_reducible repeat (first | apply Kd.R_alloc | apply Kd.R_drewN | apply Kd.R_drew)); exact HO249.out) hb); have n3_ := Aside0.mk (below_step (by repeat (first | (with_reducible first | exact HB.out | apply below_alloc | apply pw_below_drewN | apply below_drew1) | exact HB.out)) hb); clear HO237; clear HO244; clear HO249; clear HB; have HO237 := n0_; have HO244 := n1_; have HO249 := n2_; have HB := n3_; clear n0_ n1_ n2_ n3_; (try clear hb); (try clear hb2); (try clear hk); (try clear hi); obtain ⟨Ao46, co46, eo46⟩ := Kd.R_slice HO244.out; subst eo46)))
                    go_meet
                    case rel => exact ⟨_, (false), (by first | rfl | (simp; done) | (simp [*]; done)), H', ⟨by first | omega | exact Nat.le_refl _⟩, ⟨by (with_reducible repeat (first | apply Kd.R_alloc | apply Kd.R_drewN | apply Kd.R_drew)); exact Kd.R_mono HO237.out (fun _ hk => ⟨hk.1.2, hk.2⟩)⟩, ⟨by (with_reducible repeat (first | apply Kd.R_alloc | apply Kd.R_drewN | apply Kd.R_drew)); exact Kd.R_mono HO244.out (fun _ hk => ⟨hk.1.2, hk.2⟩)⟩, ⟨by (with_reducible repeat (first | apply Kd.R_alloc | apply Kd.R_drewN | apply Kd.R_drew)); exact Kd.R_mono HO249.out (fun _ hk => ⟨hk.1.2, hk.2⟩)⟩, ⟨by repeat (first | (with_reducible first | exact HB.out | apply below_alloc | apply pw_below_drewN | apply below_drew1) | exact HB.out)⟩⟩
                · as_aux_lemma =>
                  rw [if_neg c38] at H
                  have c38b0 : ((t240.length : Int) == t241) = false := beq_eq_false_iff_ne.mpr c38
                  have c38b1 : ((t240.length : Int) != t241) = true := bne_iff_ne.mpr c38
                  have H' := Aside0.mk H
                  clear H
                  go_wp2_with (first | (go_at_call 14; (with_reducible refine (impl_PointsOk.calls k _ _ t235 true _ ?side1 ?side2 A17.out).mono ?_); (case side1 => repeat (first | exact (Kd.R_reads' HO237.out).2.2 | (with_reducible refine Kd.C_alloc ?_ _) | (with_reducible refine Kd.C_drewN ?_ _) | (with_reducible refine Kd.C_drew ?_))); (case side2 => exact (Kd.R_reads' HO237.out).2.1); rintro e w47 ⟨rfl, hb⟩; have n0_ := Aside0.mk (Kd.R_below (by (with_reducible repeat (first | apply Kd.R_alloc | apply Kd.R_drewN | apply Kd.R_drew)); exact HO237.out) hb); have n1_ := Aside0.mk (Kd.R_below (by (with_reducible repeat (first | apply Kd.R_alloc | apply Kd.R_drewN | apply Kd.R_drew)); exact HO244.out) hb); have n2_ := Aside0.mk (Kd.R_below (by (with_reducible repeat (first | apply Kd.R_alloc | apply Kd.R_drewN | apply Kd.R_drew)); exact HO249.out) hb); have n3_ := Aside0.mk (below_step (by repeat (first | (with_reducible first | exact HB.out | apply below_alloc | apply pw_below_drewN | apply below_drew1) | exact HB.out)) hb); clear HO237; clear HO244; clear HO249; clear HB; have HO237 := n0_; have HO244 := n1_; have HO249 := n2_; have HB := n3_; clear n0_ n1_ n2_ n3_; (try clear hb); (try clear hb2); (try clear hk); (try clear hi); obtain ⟨Ao48, co48, eo48⟩ := Kd.R_slice HO244.out; subst eo48))
                  repeat (go_quiet (first | (go_at_call 14; (with_reducible refine (impl_PointsOk.calls k _ _ t235 true _ ?side1 ?side2 A17.out).mono ?_); (case side1 => repeat (first | exact (Kd.R_reads' HO237.out).2.2 | (with_reducible refine Kd.C_alloc ?_ _) | (with_reducible refine Kd.C_drewN ?_ _) | (with_reducible refine Kd.C_drew ?_))); (case side2 => exact (Kd.R_reads' HO237.out).2.1); rintro e w47 ⟨rfl, hb⟩; have n0_ := Aside0.mk (Kd.R_below (by (with_reducible repeat (first | apply Kd.R_alloc | apply Kd.R_drewN | apply Kd.R_drew)); exact HO237.out) hb); have n1_ := Aside0.mk (Kd.R_below (by (with_reducible repeat (first | apply Kd.R_alloc | apply Kd.R_drewN | apply Kd.R_drew)); exact HO244.out) hb); have n2_ := Aside0.mk (Kd.R_below (by (with_reducible repeat (first | apply Kd.R_alloc | apply Kd.R_drewN | apply Kd.R_drew)); exact HO249.out) hb); have n3_ := Aside0.mk (below_step (by repeat (first | (with_reducible first | exact HB.out | apply below_alloc | apply pw_below_drewN | apply below_drew1) | exact HB.out)) hb); clear HO237; clear HO244; clear HO249; clear HB; have HO237 := n0_; have HO244 := n1_; have HO249 := n2_; have HB := n3_; clear n0_ n1_ n2_ n3_; (try clear hb); (try clear hb2); (try clear hk); (try clear hi); obtain ⟨Ao48, co48, eo48⟩ := Kd.R_slice HO244.out; subst eo48)); try go_wp2_with (first | (go_at_call 14; (with_reducible refine (impl_PointsOk.calls k _ _ t235 true _ ?side1 ?side2 A17.out).mono ?_); (case side1 => repeat (first | exact (Kd.R_reads' HO237.out).2.2 | (with_reducible refine Kd.C_alloc ?_ _) | (with_reducible refine Kd.C_drewN ?_ _) | (with_reducible refine Kd.C_drew ?_))); (case side2 => exact (Kd.R_reads' HO237.out).2.1); rintro e w47 ⟨rfl, hb⟩; have n0_ := Aside0.mk (Kd.R_below (by (with_reducible repeat (first | apply Kd.R_alloc | apply Kd.R_drewN | apply Kd.R_drew)); exact HO237.out) hb); have n1_ := Aside0.mk (Kd.R_below (by (with_reducible repeat (first | apply Kd.R_alloc | apply Kd.R_drewN | apply Kd.R_drew)); exact HO244.out) hb); have n2_ := Aside0.mk (Kd.R_below (by (with_reducible repeat (first | apply Kd.R_alloc | apply Kd.R_drewN | apply Kd.R_drew)); exact HO249.out) hb); have n3_ := Aside0.mk (below_step (by repeat (first | (with_reducible first | exact HB.out | apply below_alloc | apply pw_below_drewN | apply below_drew1) | exact HB.out)) hb); clear HO237; clear HO244; clear HO249; clear HB; have HO237 := n0_; have HO244 := n1_; have HO249 := n2_; have HB := n3_; clear n0_ n1_ n2_ n3_; (try clear hb); (try clear hb2); (try clear hk); (try clear hi); obtain ⟨Ao48, co48, eo48⟩ := Kd.R_slice HO244.out; subst eo48)))
                  go_meet
                  case rel => exact ⟨_, (true), (by first | rfl | (simp; done) | (simp [*]; done)), H', ⟨by first | omega | exact Nat.le_refl _⟩, ⟨by (with_reducible repeat (first | apply Kd.R_alloc | apply Kd.R_drewN | apply Kd.R_drew)); exact Kd.R_mono HO237.out (fun _ hk => ⟨hk.1.2, hk.2⟩)⟩, ⟨by (with_reducible repeat (first | apply Kd.R_alloc | apply Kd.R_drewN | apply Kd.R_drew)); exact Kd.R_mono HO244.out (fun _ hk => ⟨hk.1.2, hk.2⟩)⟩, ⟨by (with_reducible repeat (first | apply Kd.R_alloc | apply Kd.R_drewN | apply Kd.R_drew)); exact Kd.R_mono HO249.out (fun _ hk => ⟨hk.1.2, hk.2⟩)⟩, ⟨by repeat (first | (with_reducible first | exact HB.out | apply below_alloc | apply pw_below_drewN | apply below_drew1) | exact HB.out)⟩⟩
              · as_aux_lemma =>
                rw [if_neg c37] at H
                have c37b0 : decide (0 ≤ t241) = false := decide_eq_false c37
                clear c37
                have H' := Aside0.mk H
                clear H
                go_wp2_with (first | (go_at_call 14; (with_reducible refine (impl_PointsOk.calls k _ _ t235 true _ ?side1 ?side2 A17.out).mono ?_); (case side1 => repeat (first | exact (Kd.R_reads' HO237.out).2.2 | (with_reducible refine Kd.C_alloc ?_ _) | (with_reducible refine Kd.C_drewN ?_ _) | (with_reducible refine Kd.C_drew ?_))); (case side2 => exact (Kd.R_reads' HO237.out).2.1); rintro e w49 ⟨rfl, hb⟩; have n0_ := Aside0.mk (Kd.R_below (by (with_reducible repeat (first | apply Kd.R_alloc | apply Kd.R_drewN | apply Kd.R_drew)); exact HO237.out) hb); have n1_ := Aside0.mk (Kd.R_below (by (with_reducible repeat (first | apply Kd.R_alloc | apply Kd.R_drewN | apply Kd.R_drew)); exact HO244.out) hb); have n2_ := Aside0.mk (Kd.R_below (by (with_reducible repeat (first | apply Kd.R_alloc | apply Kd.R_drewN | apply Kd.R_drew)); exact HO249.out) hb); have n3_ := Aside0.mk (below_step (by repeat (first | (with_reducible first | exact HB.out | apply below_alloc | apply pw_below_drewN | apply below_drew1) | exact HB.out)) hb); clear HO237; clear HO244; clear HO249; clear HB; have HO237 := n0_; have HO244 := n1_; have HO249 := n2_; have HB := n3_; clear n0_ n1_ n2_ n3_; (try clear hb); (try clear hb2); (try clear hk); (try clear hi)))
                repeat (go_quiet (first | (go_at_call 14; (with_reducible refine (impl_PointsOk.calls k _ _ t235 true _ ?side1 ?side2 A17.out).mono ?_); (case side1 => repeat (first | exact (Kd.R_reads' HO237.out).2.2 | (with_reducible refine Kd.C_alloc ?_ _) | (with_reducible refine Kd.C_drewN ?_ _) | (with_reducible refine Kd.C_drew ?_))); (case side2 => exact (Kd.R_reads' HO237.out).2.1); rintro e w49 ⟨rfl, hb⟩; have n0_ := Aside0.mk (Kd.R_below (by (with_reducible repeat (first | apply Kd.R_alloc | apply Kd.R_drewN | apply Kd.R_drew)); exact HO237.out) hb); have n1_ := Aside0.mk (Kd.R_below (by (with_reducible repeat (first | apply Kd.R_alloc | apply Kd.R_drewN | apply Kd.R_drew)); exact HO244.out) hb); have n2_ := Aside0.mk (Kd.R_below (by (with_reducible repeat (first | apply Kd.R_alloc | apply Kd.R_drewN | apply Kd.R_drew)); exact HO249.out) hb); have n3_ := Aside0.mk (below_step (by repeat (first | (with_reducible first | exact HB.out | apply below_alloc | apply pw_below_drewN | apply below_drew1) | exact HB.out)) hb); clear HO237; clear HO244; clear HO249; clear HB; have HO237 := n0_; have HO244 := n1_; have HO249 := n2_; have HB := n3_; clear n0_ n1_ n2_ n3_; (try clear hb); (try clear hb2); (try clear hk); (try clear hi))); try go_wp2_with (first | (go_at_call 14; (with_reducible refine (impl_PointsOk.calls k _ _ t235 true _ ?side1 ?side2 A17.out).mono ?_); (case side1 => repeat (first | exact (Kd.R_reads' HO237.out).2.2 | (with_reducible refine Kd.C_alloc ?_ _) | (with_reducible refine Kd.C_drewN ?_ _) | (with_reducible refine Kd.C_drew ?_))); (case side2 => exact (Kd.R_reads' HO237.out).2.1); rintro e w49 ⟨rfl, hb⟩; have n0_ := Aside0.mk (Kd.R_below (by (with_reducible repeat (first | apply Kd.R_alloc | apply Kd.R_drewN | apply Kd.R_drew)); exact HO237.out) hb); have n1_ := Aside0.mk (Kd.R_below (by (with_reducible repeat (first | apply Kd.R_alloc | apply Kd.R_drewN | apply Kd.R_drew)); exact HO244.out) hb); have n2_ := Aside0.mk (Kd.R_below (by (with_reducible repeat (first | apply Kd.R_alloc | apply Kd.R_drewN | apply Kd.R_drew)); exact HO249.out) hb); have n3_ := Aside0.mk (below_step (by repeat (first | (with_reducible first | exact HB.out | apply below_alloc | apply pw_below_drewN | apply below_drew1) | exact HB.out)) hb); clear HO237; clear HO244; clear HO249; clear HB; have HO237 := n0_; have HO244 := n1_; have HO249 := n2_; have HB := n3_; clear n0_ n1_ n2_ n3_; (try clear hb); (try clear hb2); (try clear hk); (try clear hi))))
                go_meet
                case rel => exact ⟨_, (false), (by first | rfl | (simp; done) | (simp [*]; done)), H', ⟨by first | omega | exact Nat.le_refl _⟩, ⟨by (with_reducible repeat (first | apply Kd.R_alloc | apply Kd.R_drewN | apply Kd.R_drew)); exact Kd.R_mono HO237.out (fun _ hk => ⟨hk.1.2, hk.2⟩)⟩, ⟨by (with_reducible repeat (first | apply Kd.R_alloc | apply Kd.R_drewN | apply Kd.R_drew)); exact Kd.R_mono HO244.out (fun _ hk => ⟨hk.1.2, hk.2⟩)⟩, ⟨by (with_reducible repeat (first | apply Kd.R_alloc | apply Kd.R_drewN | apply Kd.R_drew)); exact Kd.R_mono HO249.out (fun _ hk => ⟨hk.1.2, hk.2⟩)⟩, ⟨by repeat (first | (with_reducible first | exact HB.out | apply below_alloc | apply pw_below_drewN | apply below_drew1) | exact HB.out)⟩⟩
          · as_aux_lemma =>
            replace c18 := Bool.eq_false_iff.mpr c18
            subst c18
            have H1 : (laws_FnProfiles.j0 k t235 (Int.tmod t238 8) (Int.tmod t239 8) t240 t241 t245 true) = some r := by rw [if_neg (show ¬ (false = true) by decide)] at H; exact H
            clear H
            have H := H1
            clear H1
            have H' := Aside0.mk H
            clear H
            go_wp2_with (first | (go_at_call 14; (with_reducible refine (impl_PointsOk.calls k _ _ t235 false _ ?side1 ?side2 A17.out).mono ?_); (case side1 => repeat (first | exact (Kd.R_reads' HO237.out).2.2 | (with_reducible refine Kd.C_alloc ?_ _) | (with_reducible refine Kd.C_drewN ?_ _) | (with_reducible refine Kd.C_drew ?_))); (case side2 => exact (Kd.R_reads' HO237.out).2.1); rintro e w50 ⟨rfl, hb⟩; have n0_ := Aside0.mk (Kd.R_below (by (with_reducible repeat (first | apply Kd.R_alloc | apply Kd.R_drewN | apply Kd.R_drew)); exact HO237.out) hb); have n1_ := Aside0.mk (Kd.R_below (by (with_reducible repeat (first | apply Kd.R_alloc | apply Kd.R_drewN | apply Kd.R_drew)); exact HO244.out) hb); have n2_ := Aside0.mk (Kd.R_below (by (with_reducible repeat (first | apply Kd.R_alloc | apply Kd.R_drewN | apply Kd.R_drew)); exact HO249.out) hb); have n3_ := Aside0.mk (below_step (by repeat (first | (with_reducible first | exact HB.out | apply below_alloc | apply pw_below_drewN | apply below_drew1) | exact HB.out)) hb); clear HO237; clear HO244; clear HO249; clear HB; have HO237 := n0_; have HO244 := n1_; have HO249 := n2_; have HB := n3_; clear n0_ n1_ n2_ n3_; (try clear hb); (try clear hb2); (try clear hk); (try clear hi)))
            repeat (go_quiet (first | (go_at_call 14; (with_reducible refine (impl_PointsOk.calls k _ _ t235 false _ ?side1 ?side2 A17.out).mono ?_); (case side1 => repeat (first | exact (Kd.R_reads' HO237.out).2.2 | (with_reducible refine Kd.C_alloc ?_ _) | (with_reducible refine Kd.C_drewN ?_ _) | (with_reducible refine Kd.C_drew ?_))); (case side2 => exact (Kd.R_reads' HO237.out).2.1); rintro e w50 ⟨rfl, hb⟩; have n0_ := Aside0.mk (Kd.R_below (by (with_reducible repeat (first | apply Kd.R_alloc | apply Kd.R_drewN | apply Kd.R_drew)); exact HO237.out) hb); have n1_ := Aside0.mk (Kd.R_below (by (with_reducible repeat (first | apply Kd.R_alloc | apply Kd.R_drewN | apply Kd.R_drew)); exact HO244.out) hb); have n2_ := Aside0.mk (Kd.R_below (by (with_reducible repeat (first | apply Kd.R_alloc | apply Kd.R_drewN | apply Kd.R_drew)); exact HO249.out) hb); have n3_ := Aside0.mk (below_step (by repeat (first | (with_reducible first | exact HB.out | apply below_alloc | apply pw_below_drewN | apply below_drew1) | exact HB.out)) hb); clear HO237; clear HO244; clear HO249; clear HB; have HO237 := n0_; have HO244 := n1_; have HO249 := n2_; have HB := n3_; clear n0_ n1_ n2_ n3_; (try clear hb); (try clear hb2); (try clear hk); (try clear hi))); try go_wp2_with (first | (go_at_call 14; (with_reducible refine (impl_PointsOk.calls k _ _ t235 false _ ?side1 ?side2 A17.out).mono ?_); (case side1 => repeat (first | exact (Kd.R_reads' HO237.out).2.2 | (with_reducible refine Kd.C_alloc ?_ _) | (with_reducible refine Kd.C_drewN ?_ _) | (with_reducible refine Kd.C_drew ?_))); (case side2 => exact (Kd.R_reads' HO237.out).2.1); rintro e w50 ⟨rfl, hb⟩; have n0_ := Aside0.mk (Kd.R_below (by (with_reducible repeat (first | apply Kd.R_alloc | apply Kd.R_drewN | apply Kd.R_drew)); exact HO237.out) hb); have n1_ := Aside0.mk (Kd.R_below (by (with_reducible repeat (first | apply Kd.R_alloc | apply Kd.R_drewN | apply Kd.R_drew)); exact HO244.out) hb); have n2_ := Aside0.mk (Kd.R_below (by (with_reducible repeat (first | apply Kd.R_alloc | apply Kd.R_drewN | apply Kd.R_drew)); exact HO249.out) hb); have n3_ := Aside0.mk (below_step (by repeat (first | (with_reducible first | exact HB.out | apply below_alloc | apply pw_below_drewN | apply below_drew1) | exact HB.out)) hb); clear HO237; clear HO244; clear HO249; clear HB; have HO237 := n0_; have HO244 := n1_; have HO249 := n2_; have HB := n3_; clear n0_ n1_ n2_ n3_; (try clear hb); (try clear hb2); (try clear hk); (try clear hi))))
            go_meet
            case rel => exact ⟨_, (true), (by first | rfl | (simp; done) | (simp [*]; done)), H', ⟨by first | omega | exact Nat.le_refl _⟩, ⟨by (with_reducible repeat (first | apply Kd.R_alloc | apply Kd.R_drewN | apply Kd.R_drew)); exact Kd.R_mono HO237.out (fun _ hk => ⟨hk.1.2, hk.2⟩)⟩, ⟨by (with_reducible repeat (first | apply Kd.R_alloc | apply Kd.R_drewN | apply Kd.R_drew)); exact Kd.R_mono HO244.out (fun _ hk => ⟨hk.1.2, hk.2⟩)⟩, ⟨by (with_reducible repeat (first | apply Kd.R_alloc | apply Kd.R_drewN | apply Kd.R_drew)); exact Kd.R_mono HO249.out (fun _ hk => ⟨hk.1.2, hk.2⟩)⟩, ⟨by repeat (first | (with_reducible first | exact HB.out | apply below_alloc | apply pw_below_drewN | apply below_drew1) | exact HB.out)⟩⟩
        · as_aux_lemma =>
          replace c16 := Bool.eq_false_iff.mpr c16
          subst c16
          have H1 : (laws_FnProfiles.j0 k t235 (Int.tmod t238 8) (Int.tmod t239 8) t240 t241 t245 true) = some r := by rw [if_neg (show ¬ (false = true) by decide)] at H; exact H
          clear H
          have H := H1
          clear H1
          have H' := Aside0.mk H
          clear H
          go_wp2
          repeat (go_quiet (fail); try go_wp2)
          go_meet
          case rel => exact ⟨_, (true), (by first | rfl | (simp; done) | (simp [*]; done)), H', ⟨by first | omega | exact Nat.le_refl _⟩, ⟨by (with_reducible repeat (first | apply Kd.R_alloc | apply Kd.R_drewN | apply Kd.R_drew)); exact Kd.R_mono HO237.out (fun _ hk => ⟨hk.1.2, hk.2⟩)⟩, ⟨by (with_reducible repeat (first | apply Kd.R_alloc | apply Kd.R_drewN | apply Kd.R_drew)); exact Kd.R_mono HO244.out (fun _ hk => ⟨hk.1.2, hk.2⟩)⟩, ⟨by (with_reducible repeat (first | apply Kd.R_alloc | apply Kd.R_drewN | apply Kd.R_drew)); exact Kd.R_mono HO249.out (fun _ hk => ⟨hk.1.2, hk.2⟩)⟩, ⟨by repeat (first | (with_reducible first | exact HB.out | apply below_alloc | apply pw_below_drewN | apply below_drew1) | exact HB.out)⟩⟩
      · as_aux_lemma =>
        replace c15 := Bool.eq_false_iff.mpr c15
        subst c15
        have H1 : (laws_FnProfiles.j0 k t235 (Int.tmod t238 8) (Int.tmod t239 8) t240 t241 t245 true) = some r := by rw [if_neg (show ¬ (false = true) by decide)] at H; exact H
        clear H
        have H := H1
        clear H1
        have H' := Aside0.mk H
        clear H
        go_wp2
        repeat (go_quiet (fail); try go_wp2)
        go_meet
        case rel => exact ⟨_, (true), (by first | rfl | (simp; done) | (simp [*]; done)), H', ⟨by first | omega | exact Nat.le_refl _⟩, ⟨by (with_reducible repeat (first | apply Kd.R_alloc | apply Kd.R_drewN | apply Kd.R_drew)); exact Kd.R_mono HO237.out (fun _ hk => ⟨hk.1.2, hk.2⟩)⟩, ⟨by (with_reducible repeat (first | apply Kd.R_alloc | apply Kd.R_drewN | apply Kd.R_drew)); exact Kd.R_mono HO244.out (fun _ hk => ⟨hk.1.2, hk.2⟩)⟩, ⟨by (with_reducible repeat (first | apply Kd.R_alloc | apply Kd.R_drewN | apply Kd.R_drew)); exact Kd.R_mono HO249.out (fun _ hk => ⟨hk.1.2, hk.2⟩)⟩, ⟨by repeat (first | (with_reducible first | exact HB.out | apply below_alloc | apply pw_below_drewN | apply below_drew1) | exact HB.out)⟩⟩
    case rest => as_aux_lemma =>
      clear HC14
      try clear c1
      try clear c2
      try clear p2
      try clear c3
      try clear c4
      try clear c6
      try clear p6
      try clear c15
      try clear c16
      try clear c18
      try clear c19
      try clear c19b0
      try clear c19b1
      try clear c20
      try clear c20b0
      try clear c20b1
      try clear c20b2
      try clear c21
      try clear c21b0
      try clear c22
      try clear c22b0
      try clear c22b1
      try clear c23
      try clear c23b0
      try clear c24
      try clear c24b0
      try clear c37
      try clear c37b0
      try clear c38
      try clear c38b0
      try clear c38b1
      try clear c39
      try clear c39b0
      try clear c40
      try clear c40b0
      obtain ⟨kq, x97_13, rfl, HA, HJ13, HO_3, HO_6, HO_9, HB⟩ := hcut
      cases kq with
      | zero => exact absurd HA.out (by simp [laws_FnProfiles.j0])
      | succ kj13 =>
        have H := HA.out
        clear HA
        simp only [laws_FnProfiles.j0] at H
        by_cases c51 : x97_13 = true
        · subst c51
          have H1 : (some false) = some r := by rw [if_pos rfl] at H; exact H
          clear H
          have H := H1
          clear H1
          obtain rfl := Option.some.inj H
          go_wp2
          repeat (go_quiet (fail); try go_wp2)
          go_ret
          exact ⟨by first | rfl | (simp [errW_none, errW_some] <;> rfl) | (simp [*, errW_none, errW_some] <;> rfl), by repeat (first | (with_reducible first | exact HB.out | apply below_alloc | apply pw_below_drewN | apply below_drew1) | exact HB.out)⟩
        · replace c51 := Bool.eq_false_iff.mpr c51
          subst c51
          have H1 : (laws_FnProfiles.l0 kj13 t235 (Int.tmod t238 8) (Int.tmod t239 8) t240 t241 t245 0) = some r := by rw [if_neg (show ¬ (false = true) by decide)] at H; exact H
          clear H
          have H := H1
          clear H1
          have H' := Aside0.mk H
          clear H
          go_wp2
          repeat (go_quiet (fail); try go_wp2)
          go_loopg [12] kj13 (fun kq v12 w' => ∃ (x12_2 : Int), v12 = .int .i64 x12_2 ∧ Aside0 (laws_FnProfiles.l0 kq t235 (Int.tmod t238 8) (Int.tmod t239 8) t240 t241 t245 x12_2 = some r) ∧ Aside0 (kq ≤ kj13) ∧ Aside0 (Kd.R k41 41 w' w.heap.size (fun k_ => some k_ ≠ (v243 : Value).ownBlock ∧ some k_ ≠ (v248 : Value).ownBlock) (.slice Ao11 t235.length co11) t235) ∧ Aside0 (Kd.R k41 41 w' w.heap.size (fun k_ => some k_ ≠ ((.slice Ao11 t235.length co11) : Value).ownBlock ∧ some k_ ≠ (v248 : Value).ownBlock) v243 t240) ∧ Aside0 (Kd.R k41 41 w' w.heap.size (fun k_ => some k_ ≠ ((.slice Ao11 t235.length co11) : Value).ownBlock ∧ some k_ ≠ (v243 : Value).ownBlock) v248 t245) ∧ Aside0 (Below w.heap.size w w'))
          case atStart => exact ⟨(0), (by first | rfl | (simp; done) | (simp [*]; done)), H', ⟨Nat.le_refl _⟩, ⟨by (with_reducible repeat (first | apply Kd.R_alloc | apply Kd.R_drewN | apply Kd.R_drew)); exact HO_3.out⟩, ⟨by (with_reducible repeat (first | apply Kd.R_alloc | apply Kd.R_drewN | apply Kd.R_drew)); exact HO_6.out⟩, ⟨by (with_reducible repeat (first | apply Kd.R_alloc | apply Kd.R_drewN | apply Kd.R_drew)); exact HO_9.out⟩, ⟨by repeat (first | (with_reducible first | exact HB.out | apply below_alloc | apply pw_below_drewN | apply below_drew1) | exact HB.out)⟩⟩
          case round => as_aux_lemma =>
            clear H'
            try clear c1
            try clear c2
            try clear p2
            try clear c3
            try clear c4
            try clear c5
            try clear c6
            try clear p6
            try clear c15
            try clear c16
            try clear c18
            try clear c19
            try clear c19b0
            try clear c19b1
            try clear c20
            try clear c20b0
            try clear c20b1
            try clear c20b2
            try clear c21
            try clear c21b0
            try clear c22
            try clear c22b0
            try clear c22b1
            try clear c23
            try clear c23b0
            try clear c24
            try clear c24b0
            try clear c37
            try clear c37b0
            try clear c38
            try clear c38b0
            try clear c38b1
            try clear c39
            try clear c39b0
            try clear c40
            try clear c40b0
            try clear c51
            try clear p2
            try clear p6
            obtain ⟨x12_2, rfl, HA, HK2, HO_3, HO_6, HO_9, HB⟩ := hrel
            cases gk with
            | zero => exact absurd HA.out (by simp [laws_FnProfiles.l0])
            | succ k2 =>
              have H := HA.out
              clear HA
              simp only [laws_FnProfiles.l0] at H
              by_cases c52 : x12_2 < (t240.length : Int)
              · rw [if_pos c52] at H
                have c52b0 : decide (x12_2 < (t240.length : Int)) = true := decide_eq_true c52
                clear c52
                by_cases c53 : 0 ≤ x12_2
                · rw [if_pos c53] at H
                  have c53b0 : decide (0 ≤ x12_2) = true := decide_eq_true c53
                  clear c53
                  by_cases c54 : ((rd_T41 t240 x12_2).f1) > ((rd_T41 t240 x12_2).f2)
                  · rw [if_pos c54] at H
                    have c54b0 : decide (((rd_T41 t240 x12_2).f2) < ((rd_T41 t240 x12_2).f1)) = true := decide_eq_true c54
                    clear c54
                    obtain rfl := Option.some.inj H
                    obtain ⟨Ao55, co55, eo55⟩ := Kd.R_slice HO_6.out
                    subst eo55
                    have p251 : 0 ≤ (x12_2 : Int) := of_decide_eq_true (by first | (with_reducible assumption) | assumption)
                    have q251 : x12_2 < (t240.length : Int) := of_decide_eq_true (by first | (with_reducible assumption) | assumption)
                    obtain ⟨ad251, e251, hx251_0, hx251_1, hx251_2⟩ := at_T41 (Kd.R_reads' HO_6.out).2.2 x12_2 p251 q251
                    cases e251
                    replace p251 := eq_true p251
                    replace q251 := eq_true q251
                    have p252 : 0 ≤ (x12_2 : Int) := of_decide_eq_true (by first | (with_reducible assumption) | assumption)
                    have q252 : x12_2 < (t240.length : Int) := of_decide_eq_true (by first | (with_reducible assumption) | assumption)
                    obtain ⟨ad252, e252, hx252_0, hx252_1, hx252_2⟩ := at_T41 (Kd.R_reads' HO_6.out).2.2 x12_2 p252 q252
                    obtain rfl : ad251 = ad252 := (by injection e252)
                    replace p252 := eq_true p252
                    replace q252 := eq_true q252
                    go_wp2
                    repeat (go_quiet (fail); try go_wp2)
                    go_ret
                    exact ⟨by first | rfl | (simp [errW_none, errW_some] <;> rfl) | (simp [*, errW_none, errW_some] <;> rfl), by repeat (first | (with_reducible first | exact HB.out | apply below_alloc | apply pw_below_drewN | apply below_drew1) | exact HB.out)⟩
                  · rw [if_neg c54] at H
                    have c54b0 : decide (((rd_T41 t240 x12_2).f2) < ((rd_T41 t240 x12_2).f1)) = false := decide_eq_false c54
                    clear c54
                    by_cases c56 : x12_2 < (t235.length : Int)
                    · rw [if_pos c56] at H
                      have c56b0 : decide (x12_2 < (t235.length : Int)) = true := decide_eq_true c56
                      clear c56
                      by_cases c57 : ((rd_T41 t240 x12_2).f1) < ((rd_T41 t235 x12_2).f1)
                      · rw [if_pos c57] at H
                        have c57b0 : decide (((rd_T41 t240 x12_2).f1) < ((rd_T41 t235 x12_2).f1)) = true := decide_eq_true c57
                        clear c57
                        obtain rfl := Option.some.inj H
                        obtain ⟨Ao58, co58, eo58⟩ := Kd.R_slice HO_6.out
                        subst eo58
                        have p251 : 0 ≤ (x12_2 : Int) := of_decide_eq_true (by first | (with_reducible assumption) | assumption)
                        have q251 : x12_2 < (t240.length : Int) := of_decide_eq_true (by first | (with_reducible assumption) | assumption)
                        obtain ⟨ad251, e251, hx251_0, hx251_1, hx251_2⟩ := at_T41 (Kd.R_reads' HO_6.out).2.2 x12_2 p251 q251
                        cases e251
                        replace p251 := eq_true p251
                        replace q251 := eq_true q251
                        have p252 : 0 ≤ (x12_2 : Int) := of_decide_eq_true (by first | (with_reducible assumption) | assumption)
                        have q252 : x12_2 < (t240.length : Int) := of_decide_eq_true (by first | (with_reducible assumption) | assumption)
                        obtain ⟨ad252, e252, hx252_0, hx252_1, hx252_2⟩ := at_T41 (Kd.R_reads' HO_6.out).2.2 x12_2 p252 q252
                        obtain rfl : ad251 = ad252 := (by injection e252)
                        replace p252 := eq_true p252
                        replace q252 := eq_true q252
                        have p253 : 0 ≤ (x12_2 : Int) := of_decide_eq_true (by first | (with_reducible assumption) | assumption)
                        have q253 : x12_2 < (t240.length : Int) := of_decide_eq_true (by first | (with_reducible assumption) | assumption)
                        obtain ⟨ad253, e253, hx253_0, hx253_1, hx253_2⟩ := at_T41 (Kd.R_reads' HO_6.out).2.2 x12_2 p253 q253
                        obtain rfl : ad251 = ad253 := (by injection e253)
                        replace p253 := eq_true p253
                        replace q253 := eq_true q253
                        have p254 : 0 ≤ (x12_2 : Int) := of_decide_eq_true (by first | (with_reducible assumption) | assumption)
                        have q254 : x12_2 < (t235.length : Int) := of_decide_eq_true (by first | (with_reducible assumption) | assumption)
                        obtain ⟨ad254, e254, hx254_0, hx254_1, hx254_2⟩ := at_T41 (Kd.R_reads' HO_3.out).2.2 x12_2 p254 q254
                        cases e254
                        replace p254 := eq_true p254
                        replace q254 := eq_true q254
                        go_wp2
                        repeat (go_quiet (fail); try go_wp2)
                        go_ret
                        exact ⟨by first | rfl | (simp [errW_none, errW_some] <;> rfl) | (simp [*, errW_none, errW_some] <;> rfl), by repeat (first | (with_reducible first | exact HB.out | apply below_alloc | apply pw_below_drewN | apply below_drew1) | exact HB.out)⟩
                      · rw [if_neg c57] at H
                        have c57b0 : decide (((rd_T41 t240 x12_2).f1) < ((rd_T41 t235 x12_2).f1)) = false := decide_eq_false c57
                        clear c57
                        by_cases c59 : ((rd_T41 t240 x12_2).f2) > ((rd_T41 t235 x12_2).f2)
                        · rw [if_pos c59] at H
                          have c59b0 : decide (((rd_T41 t235 x12_2).f2) < ((rd_T41 t240 x12_2).f2)) = true := decide_eq_true c59
                          clear c59
                          obtain rfl := Option.some.inj H
                          obtain ⟨Ao60, co60, eo60⟩ := Kd.R_slice HO_6.out
                          subst eo60
                          have p251 : 0 ≤ (x12_2 : Int) := of_decide_eq_true (by first | (with_reducible assumption) | assumption)
                          have q251 : x12_2 < (t240.length : Int) := of_decide_eq_true (by first | (with_reducible assumption) | assumption)
                          obtain ⟨ad251, e251, hx251_0, hx251_1, hx251_2⟩ := at_T41 (Kd.R_reads' HO_6.out).2.2 x12_2 p251 q251
                          cases e251
                          replace p251 := eq_true p251
                          replace q251 := eq_true q251
                          have p252 : 0 ≤ (x12_2 : Int) := of_decide_eq_true (by first | (with_reducible assumption) | assumption)
                          have q252 : x12_2 < (t240.length : Int) := of_decide_eq_true (by first | (with_reducible assumption) | assumption)
                          obtain ⟨ad252, e252, hx252_0, hx252_1, hx252_2⟩ := at_T41 (Kd.R_reads' HO_6.out).2.2 x12_2 p252 q252
                          obtain rfl : ad251 = ad252 := (by injection e252)
                          replace p252 := eq_true p252
                          replace q252 := eq_true q252
                          have p253 : 0 ≤ (x12_2 : Int) := of_decide_eq_true (by first | (with_reducible assumption) | assumption)
                          have q253 : x12_2 < (t240.length : Int) := of_decide_eq_true (by first | (with_reducible assumption) | assumption)
                          obtain ⟨ad253, e253, hx253_0, hx253_1, hx253_2⟩ := at_T41 (Kd.R_reads' HO_6.out).2.2 x12_2 p253 q253
                          obtain rfl : ad251 = ad253 := (by injection e253)
                          replace p253 := eq_true p253
                          replace q253 := eq_true q253
                          have p254 : 0 ≤ (x12_2 : Int) := of_decide_eq_true (by first | (with_reducible assumption) | assumption)
                          have q254 : x12_2 < (t235.length : Int) := of_decide_eq_true (by first | (with_reducible assumption) | assumption)
                          obtain ⟨ad254, e254, hx254_0, hx254_1, hx254_2⟩ := at_T41 (Kd.R_reads' HO_3.out).2.2 x12_2 p254 q254
                          cases e254
                          replace p254 := eq_true p254
                          replace q254 := eq_true q254
                          have p255 : 0 ≤ (x12_2 : Int) := of_decide_eq_true (by first | (with_reducible assumption) | assumption)
                          have q255 : x12_2 < (t240.length : Int) := of_decide_eq_true (by first | (with_reducible assumption) | assumption)
                          obtain ⟨ad255, e255, hx255_0, hx255_1, hx255_2⟩ := at_T41 (Kd.R_reads' HO_6.out).2.2 x12_2 p255 q255
                          obtain rfl : ad251 = ad255 := (by injection e255)
                          replace p255 := eq_true p255
                          replace q255 := eq_true q255
                          have p256 : 0 ≤ (x12_2 : Int) := of_decide_eq_true (by first | (with_reducible assumption) | assumption)
                          have q256 : x12_2 < (t235.length : Int) := of_decide_eq_true (by first | (with_reducible assumption) | assumption)
                          obtain ⟨ad256, e256, hx256_0, hx256_1, hx256_2⟩ := at_T41 (Kd.R_reads' HO_3.out).2.2 x12_2 p256 q256
                          obtain rfl : ad254 = ad256 := (by injection e256)
                          replace p256 := eq_true p256
                          replace q256 := eq_true q256
                          go_wp2
                          repeat (go_quiet (fail); try go_wp2)
                          go_ret
                          exact ⟨by first | rfl | (simp [errW_none, errW_some] <;> rfl) | (simp [*, errW_none, errW_some] <;> rfl), by repeat (first | (with_reducible first | exact HB.out | apply below_alloc | apply pw_below_drewN | apply below_drew1) | exact HB.out)⟩
                        · rw [if_neg c59] at H
                          have c59b0 : decide (((rd_T41 t235 x12_2).f2) < ((rd_T41 t240 x12_2).f2)) = false := decide_eq_false c59
                          clear c59
                          by_cases c61 : x12_2 < (t245.length : Int)
                          · rw [if_pos c61] at H
                            have c61b0 : decide (x12_2 < (t245.length : Int)) = true := decide_eq_true c61
                            clear c61
                            by_cases c62 : ((rd_T41 t245 x12_2).f1) > ((rd_T41 t240 x12_2).f1)
                            · rw [if_pos c62] at H
                              have c62b0 : decide (((rd_T41 t240 x12_2).f1) < ((rd_T41 t245 x12_2).f1)) = true := decide_eq_true c62
                              clear c62
                              obtain rfl := Option.some.inj H
                              obtain ⟨Ao63, co63, eo63⟩ := Kd.R_slice HO_6.out
                              subst eo63
                              have p251 : 0 ≤ (x12_2 : Int) := of_decide_eq_true (by first | (with_reducible assumption) | assumption)
                              have q251 : x12_2 < (t240.length : Int) := of_decide_eq_true (by first | (with_reducible assumption) | assumption)
                              obtain ⟨ad251, e251, hx251_0, hx251_1, hx251_2⟩ := at_T41 (Kd.R_reads' HO_6.out).2.2 x12_2 p251 q251
                              cases e251
                              replace p251 := eq_true p251
                              replace q251 := eq_true q251
                              have p252 : 0 ≤ (x12_2 : Int) := of_decide_eq_true (by first | (with_reducible assumption) | assumption)
                              have q252 : x12_2 < (t240.length : Int) := of_decide_eq_true (by first | (with_reducible assumption) | assumption)
                              obtain ⟨ad252, e252, hx252_0, hx252_1, hx252_2⟩ := at_T41 (Kd.R_reads' HO_6.out).2.2 x12_2 p252 q252
                              obtain rfl : ad251 = ad252 := (by injection e252)
                              replace p252 := eq_true p252
                              replace q252 := eq_true q252
                              have p253 : 0 ≤ (x12_2 : Int) := of_decide_eq_true (by first | (with_reducible assumption) | assumption)
                              have q253 : x12_2 < (t240.length : Int) := of_decide_eq_true (by first | (with_reducible assumption) | assumption)
                              obtain ⟨ad253, e253, hx253_0, hx253_1, hx253_2⟩ := at_T41 (Kd.R_reads' HO_6.out).2.2 x12_2 p253 q253
                              obtain rfl : ad251 = ad253 := (by injection e253)
                              replace p253 := eq_true p253
                              replace q253 := eq_true q253
                              have p254 : 0 ≤ (x12_2 : Int) := of_decide_eq_true (by first | (with_reducible assumption) | assumption)
                              have q254 : x12_2 < (t235.length : Int) := of_decide_eq_true (by first | (with_reducible assumption) | assumption)
                              obtain ⟨ad254, e254, hx254_0, hx254_1, hx254_2⟩ := at_T41 (Kd.R_reads' HO_3.out).2.2 x12_2 p254 q254
                              cases e254
                              replace p254 := eq_true p254
                              replace q254 := eq_true q254
                              have p255 : 0 ≤ (x12_2 : Int) := of_decide_eq_true (by first | (with_reducible assumption) | assumption)
                              have q255 : x12_2 < (t240.length : Int) := of_decide_eq_true (by first | (with_reducible assumption) | assumption)
                              obtain ⟨ad255, e255, hx255_0, hx255_1, hx255_2⟩ := at_T41 (Kd.R_reads' HO_6.out).2.2 x12_2 p255 q255
                              obtain rfl : ad251 = ad255 := (by injection e255)
                              replace p255 := eq_true p255
                              replace q255 := eq_true q255
                              have p256 : 0 ≤ (x12_2 : Int) := of_decide_eq_true (by first | (with_reducible assumption) | assumption)
                              have q256 : x12_2 < (t235.length : Int) := of_decide_eq_true (by first | (with_reducible assumption) | assumption)
                              obtain ⟨ad256, e256, hx256_0, hx256_1, hx256_2⟩ := at_T41 (Kd.R_reads' HO_3.out).2.2 x12_2 p256 q256
                              obtain rfl : ad254 = ad256 := (by injection e256)
                              replace p256 := eq_true p256
                              replace q256 := eq_true q256
                              obtain ⟨Ao64, co64, eo64⟩ := Kd.R_slice HO_9.out
                              subst eo64
                              have p257 : 0 ≤ (x12_2 : Int) := of_decide_eq_true (by first | (with_reducible assumption) | assumption)
                              have q257 : x12_2 < (t245.length : Int) := of_decide_eq_true (by first | (with_reducible assumption) | assumption)
                              obtain ⟨ad257, e257, hx257_0, hx257_1, hx257_2⟩ := at_T41 (Kd.R_reads' HO_9.out).2.2 x12_2 p257 q257
                              cases e257
                              replace p257 := eq_true p257
                              replace q257 := eq_true q257
                              have p258 : 0 ≤ (x12_2 : Int) := of_decide_eq_true (by first | (with_reducible assumption) | assumption)
                              have q258 : x12_2 < (t240.length : Int) := of_decide_eq_true (by first | (with_reducible assumption) | assumption)
                              obtain ⟨ad258, e258, hx258_0, hx258_1, hx258_2⟩ := at_T41 (Kd.R_reads' HO_6.out).2.2 x12_2 p258 q258
                              obtain rfl : ad251 = ad258 := (by injection e258)
                              replace p258 := eq_true p258
                              replace q258 := eq_true q258
                              go_wp2
                              repeat (go_quiet (fail); try go_wp2)
                              go_ret
                              exact ⟨by first | rfl | (simp [errW_none, errW_some] <;> rfl) | (simp [*, errW_none, errW_some] <;> rfl), by repeat (first | (with_reducible first | exact HB.out | apply below_alloc | apply pw_below_drewN | apply below_drew1) | exact HB.out)⟩
                            · rw [if_neg c62] at H
                              have c62b0 : decide (((rd_T41 t240 x12_2).f1) < ((rd_T41 t245 x12_2).f1)) = false := decide_eq_false c62
                              clear c62
                              by_cases c65 : ((rd_T41 t245 x12_2).f2) < ((rd_T41 t240 x12_2).f2)
                              · rw [if_pos c65] at H
                                have c65b0 : decide (((rd_T41 t245 x12_2).f2) < ((rd_T41 t240 x12_2).f2)) = true := decide_eq_true c65
                                clear c65
                                obtain rfl := Option.some.inj H
                                obtain ⟨Ao66, co66, eo66⟩ := Kd.R_slice HO_6.out
                                subst eo66
                                have p251 : 0 ≤ (x12_2 : Int) := of_decide_eq_true (by first | (with_reducible assumption) | assumption)
                                have q251 : x12_2 < (t240.length : Int) := of_decide_eq_true (by first | (with_reducible assumption) | assumption)
                                obtain ⟨ad251, e251, hx251_0, hx251_1, hx251_2⟩ := at_T41 (Kd.R_reads' HO_6.out).2.2 x12_2 p251 q251
                                cases e251
                                replace p251 := eq_true p251
                                replace q251 := eq_true q251
                                have p252 : 0 ≤ (x12_2 : Int) := of_decide_eq_true (by first | (with_reducible assumption) | assumption)
                                have q252 : x12_2 < (t240.length : Int) := of_decide_eq_true (by first | (with_reducible assumption) | assumption)
                                obtain ⟨ad252, e252, hx252_0, hx252_1, hx252_2⟩ := at_T41 (Kd.R_reads' HO_6.out).2.2 x12_2 p252 q252
                                obtain rfl : ad251 = ad252 := (by injection e252)
                                replace p252 := eq_true p252
                                replace q252 := eq_true q252
                                have p253 : 0 ≤ (x12_2 : Int) := of_decide_eq_true (by first | (with_reducible assumption) | assumption)
                                have q253 : x12_2 < (t240.length : Int) := of_decide_eq_true (by first | (with_reducible assumption) | assumption)
                                obtain ⟨ad253, e253, hx253_0, hx253_1, hx253_2⟩ := at_T41 (Kd.R_reads' HO_6.out).2.2 x12_2 p253 q253
                                obtain rfl : ad251 = ad253 := (by injection e253)
                                replace p253 := eq_true p253
                                replace q253 := eq_true q253
                                have p254 : 0 ≤ (x12_2 : Int) := of_decide_eq_true (by first | (with_reducible assumption) | assumption)
                                have q254 : x12_2 < (t235.length : Int) := of_decide_eq_true (by first | (with_reducible assumption) | assumption)
                                obtain ⟨ad254, e254, hx254_0, hx254_1, hx254_2⟩ := at_T41 (Kd.R_reads' HO_3.out).2.2 x12_2 p254 q254
                                cases e254
                                replace p254 := eq_true p254
                                replace q254 := eq_true q254
                                have p255 : 0 ≤ (x12_2 : Int) := of_decide_eq_true (by first | (with_reducible assumption) | assumption)
                                have q255 : x12_2 < (t240.length : Int) := of_decide_eq_true (by first | (with_reducible assumption) | assumption)
                                obtain ⟨ad255, e255, hx255_0, hx255_1, hx255_2⟩ := at_T41 (Kd.R_reads' HO_6.out).2.2 x12_2 p255 q255
                                obtain rfl : ad251 = ad255 := (by injection e255)
                                replace p255 := eq_true p255
                                replace q255 := eq_true q255
                                have p256 : 0 ≤ (x12_2 : Int) := of_decide_eq_true (by first | (with_reducible assumption) | assumption)
                                have q256 : x12_2 < (t235.length : Int) := of_decide_eq_true (by first | (with_reducible assumption) | assumption)
                                obtain ⟨ad256, e256, hx256_0, hx256_1, hx256_2⟩ := at_T41 (Kd.R_reads' HO_3.out).2.2 x12_2 p256 q256
                                obtain rfl : ad254 = ad256 := (by injection e256)
                                replace p256 := eq_true p256
                                replace q256 := eq_true q256
                                obtain ⟨Ao67, co67, eo67⟩ := Kd.R_slice HO_9.out
                                subst eo67
                                have p257 : 0 ≤ (x12_2 : Int) := of_decide_eq_true (by first | (with_reducible assumption) | assumption)
                                have q257 : x12_2 < (t245.length : Int) := of_decide_eq_true (by first | (with_reducible assumption) | assumption)
                                obtain ⟨ad257, e257, hx257_0, hx257_1, hx257_2⟩ := at_T41 (Kd.R_reads' HO_9.out).2.2 x12_2 p257 q257
                                cases e257
                                replace p257 := eq_true p257
                                replace q257 := eq_true q257
                                have p258 : 0 ≤ (x12_2 : Int) := of_decide_eq_true (by first | (with_reducible assumption) | assumption)
                                have q258 : x12_2 < (t240.length : Int) := of_decide_eq_true (by first | (with_reducible assumption) | assumption)
                                obtain ⟨ad258, e258, hx258_0, hx258_1, hx258_2⟩ := at_T41 (Kd.R_reads' HO_6.out).2.2 x12_2 p258 q258
                                obtain rfl : ad251 = ad258 := (by injection e258)
                                replace p258 := eq_true p258
                                replace q258 := eq_true q258
                                have p259 : 0 ≤ (x12_2 : Int) := of_decide_eq_true (by first | (with_reducible assumption) | assumption)
                                have q259 : x12_2 < (t245.length : Int) := of_decide_eq_true (by first | (with_reducible assumption) | assumption)
                                obtain ⟨ad259, e259, hx259_0, hx259_1, hx259_2⟩ := at_T41 (Kd.R_reads' HO_9.out).2.2 x12_2 p259 q259
                                obtain rfl : ad257 = ad259 := (by injection e259)
                                replace p259 := eq_true p259
                                replace q259 := eq_true q259
                                have p260 : 0 ≤ (x12_2 : Int) := of_decide_eq_true (by first | (with_reducible assumption) | assumption)
                                have q260 : x12_2 < (t240.length : Int) := of_decide_eq_true (by first | (with_reducible assumption) | assumption)
                                obtain ⟨ad260, e260, hx260_0, hx260_1, hx260_2⟩ := at_T41 (Kd.R_reads' HO_6.out).2.2 x12_2 p260 q260
                                obtain rfl : ad251 = ad260 := (by injection e260)
                                replace p260 := eq_true p260
                                replace q260 := eq_true q260
                                go_wp2
                                repeat (go_quiet (fail); try go_wp2)
                                go_ret
                                exact ⟨by first | rfl | (simp [errW_none, errW_some] <;> rfl) | (simp [*, errW_none, errW_some] <;> rfl), by repeat (first | (with_reducible first | exact HB.out | apply below_alloc | apply pw_below_drewN | apply below_drew1) | exact HB.out)⟩
                              · rw [if_neg c65] at H
                                have c65b0 : decide (((rd_T41 t245 x12_2).f2) < ((rd_T41 t240 x12_2).f2)) = false := decide_eq_false c65
                                clear c65
                                have H' := Aside0.mk H
                                clear H
                                obtain ⟨Ao68, co68, eo68⟩ := Kd.R_slice HO_6.out
                                subst eo68
                                have p251 : 0 ≤ (x12_2 : Int) := of_decide_eq_true (by first | (with_reducible assumption) | assumption)
                                have q251 : x12_2 < (t240.length : Int) := of_decide_eq_true (by first | (with_reducible assumption) | assumption)
                                obtain ⟨ad251, e251, hx251_0, hx251_1, hx251_2⟩ := at_T41 (Kd.R_reads' HO_6.out).2.2 x12_2 p251 q251
                                cases e251
                                replace p251 := eq_true p251
                                replace q251 := eq_true q251
                                have p252 : 0 ≤ (x12_2 : Int) := of_decide_eq_true (by first | (with_reducible assumption) | assumption)
                                have q252 : x12_2 < (t240.length : Int) := of_decide_eq_true (by first | (with_reducible assumption) | assumption)
                                obtain ⟨ad252, e252, hx252_0, hx252_1, hx252_2⟩ := at_T41 (Kd.R_reads' HO_6.out).2.2 x12_2 p252 q252
                                obtain rfl : ad251 = ad252 := (by injection e252)
                                replace p252 := eq_true p252
                                replace q252 := eq_true q252
                                have p253 : 0 ≤ (x12_2 : Int) := of_decide_eq_true (by first | (with_reducible assumption) | assumption)
                                have q253 : x12_2 < (t240.length : Int) := of_decide_eq_true (by first | (with_reducible assumption) | assumption)
                                obtain ⟨ad253, e253, hx253_0, hx253_1, hx253_2⟩ := at_T41 (Kd.R_reads' HO_6.out).2.2 x12_2 p253 q253
                                obtain rfl : ad251 = ad253 := (by injection e253)
                                replace p253 := eq_true p253
                                replace q253 := eq_true q253
                                have p254 : 0 ≤ (x12_2 : Int) := of_decide_eq_true (by first | (with_reducible assumption) | assumption)
                                have q254 : x12_2 < (t235.length : Int) := of_decide_eq_true (by first | (with_reducible assumption) | assumption)
                                obtain ⟨ad254, e254, hx254_0, hx254_1, hx254_2⟩ := at_T41 (Kd.R_reads' HO_3.out).2.2 x12_2 p254 q254
                                cases e254
                                replace p254 := eq_true p254
                                replace q254 := eq_true q254
                                have p255 : 0 ≤ (x12_2 : Int) := of_decide_eq_true (by first | (with_reducible assumption) | assumption)
                                have q255 : x12_2 < (t240.length : Int) := of_decide_eq_true (by first | (with_reducible assumption) | assumption)
                                obtain ⟨ad255, e255, hx255_0, hx255_1, hx255_2⟩ := at_T41 (Kd.R_reads' HO_6.out).2.2 x12_2 p255 q255
                                obtain rfl : ad251 = ad255 := (by injection e255)
                                replace p255 := eq_true p255
                                replace q255 := eq_true q255
                                have p256 : 0 ≤ (x12_2 : Int) := of_decide_eq_true (by first | (with_reducible assumption) | assumption)
                                have q256 : x12_2 < (t235.length : Int) := of_decide_eq_true (by first | (with_reducible assumption) | assumption)
                                obtain ⟨ad256, e256, hx256_0, hx256_1, hx256_2⟩ := at_T41 (Kd.R_reads' HO_3.out).2.2 x12_2 p256 q256
                                obtain rfl : ad254 = ad256 := (by injection e256)
                                replace p256 := eq_true p256
                                replace q256 := eq_true q256
                                obtain ⟨Ao69, co69, eo69⟩ := Kd.R_slice HO_9.out
                                subst eo69
                                have p257 : 0 ≤ (x12_2 : Int) := of_decide_eq_true (by first | (with_reducible assumption) | assumption)
                                have q257 : x12_2 < (t245.length : Int) := of_decide_eq_true (by first | (with_reducible assumption) | assumption)
                                obtain ⟨ad257, e257, hx257_0, hx257_1, hx257_2⟩ := at_T41 (Kd.R_reads' HO_9.out).2.2 x12_2 p257 q257
                                cases e257
                                replace p257 := eq_true p257
                                replace q257 := eq_true q257
                                have p258 : 0 ≤ (x12_2 : Int) := of_decide_eq_true (by first | (with_reducible assumption) | assumption)
                                have q258 : x12_2 < (t240.length : Int) := of_decide_eq_true (by first | (with_reducible assumption) | assumption)
                                obtain ⟨ad258, e258, hx258_0, hx258_1, hx258_2⟩ := at_T41 (Kd.R_reads' HO_6.out).2.2 x12_2 p258 q258
                                obtain rfl : ad251 = ad258 := (by injection e258)
                                replace p258 := eq_true p258
                                replace q258 := eq_true q258
                                have p259 : 0 ≤ (x12_2 : Int) := of_decide_eq_true (by first | (with_reducible assumption) | assumption)
                                have q259 : x12_2 < (t245.length : Int) := of_decide_eq_true (by first | (with_reducible assumption) | assumption)
                                obtain ⟨ad259, e259, hx259_0, hx259_1, hx259_2⟩ := at_T41 (Kd.R_reads' HO_9.out).2.2 x12_2 p259 q259
                                obtain rfl : ad257 = ad259 := (by injection e259)
                                replace p259 := eq_true p259
                                replace q259 := eq_true q259
                                have p260 : 0 ≤ (x12_2 : Int) := of_decide_eq_true (by first | (with_reducible assumption) | assumption)
                                have q260 : x12_2 < (t240.length : Int) := of_decide_eq_true (by first | (with_reducible assumption) | assumption)
                                obtain ⟨ad260, e260, hx260_0, hx260_1, hx260_2⟩ := at_T41 (Kd.R_reads' HO_6.out).2.2 x12_2 p260 q260
                                obtain rfl : ad251 = ad260 := (by injection e260)
                                replace p260 := eq_true p260
                                replace q260 := eq_true q260
                                go_wp2
                                repeat (go_quiet (fail); try go_wp2)
                                go_roundg k2
                                case measure => have := HJ13.out; have := HK2.out; omega
                                case rel => exact ⟨(wrap64 (x12_2 + 1)), (by first | rfl | (simp; done) | (simp [*]; done)), H', ⟨by have := HJ13.out; have := HK2.out; omega⟩, ⟨by (with_reducible repeat (first | apply Kd.R_alloc | apply Kd.R_drewN | apply Kd.R_drew)); exact HO_3.out⟩, ⟨by (with_reducible repeat (first | apply Kd.R_alloc | apply Kd.R_drewN | apply Kd.R_drew)); exact HO_6.out⟩, ⟨by (with_reducible repeat (first | apply Kd.R_alloc | apply Kd.R_drewN | apply Kd.R_drew)); exact HO_9.out⟩, ⟨by repeat (first | (with_reducible first | exact HB.out | apply below_alloc | apply pw_below_drewN | apply below_drew1) | exact HB.out)⟩⟩
                          · rw [if_neg c61] at H
                            have c61b0 : decide (x12_2 < (t245.length : Int)) = false := decide_eq_false c61
                            clear c61
                            have H' := Aside0.mk H
                            clear H
                            obtain ⟨Ao70, co70, eo70⟩ := Kd.R_slice HO_6.out
                            subst eo70
                            have p251 : 0 ≤ (x12_2 : Int) := of_decide_eq_true (by first | (with_reducible assumption) | assumption)
                            have q251 : x12_2 < (t240.length : Int) := of_decide_eq_true (by first | (with_reducible assumption) | assumption)
                            obtain ⟨ad251, e251, hx251_0, hx251_1, hx251_2⟩ := at_T41 (Kd.R_reads' HO_6.out).2.2 x12_2 p251 q251
                            cases e251
                            replace p251 := eq_true p251
                            replace q251 := eq_true q251
                            have p252 : 0 ≤ (x12_2 : Int) := of_decide_eq_true (by first | (with_reducible assumption) | assumption)
                            have q252 : x12_2 < (t240.length : Int) := of_decide_eq_true (by first | (with_reducible assumption) | assumption)
                            obtain ⟨ad252, e252, hx252_0, hx252_1, hx252_2⟩ := at_T41 (Kd.R_reads' HO_6.out).2.2 x12_2 p252 q252
                            obtain rfl : ad251 = ad252 := (by injection e252)
                            replace p252 := eq_true p252
                            replace q252 := eq_true q252
                            have p253 : 0 ≤ (x12_2 : Int) := of_decide_eq_true (by first | (with_reducible assumption) | assumption)
                            have q253 : x12_2 < (t240.length : Int) := of_decide_eq_true (by first | (with_reducible assumption) | assumption)
                            obtain ⟨ad253, e253, hx253_0, hx253_1, hx253_2⟩ := at_T41 (Kd.R_reads' HO_6.out).2.2 x12_2 p253 q253
                            obtain rfl : ad251 = ad253 := (by injection e253)
                            replace p253 := eq_true p253
                            replace q253 := eq_true q253
                            have p254 : 0 ≤ (x12_2 : Int) := of_decide_eq_true (by first | (with_reducible assumption) | assumption)
                            have q254 : x12_2 < (t235.length : Int) := of_decide_eq_true (by first | (with_reducible assumption) | assumption)
                            obtain ⟨ad254, e254, hx254_0, hx254_1, hx254_2⟩ := at_T41 (Kd.R_reads' HO_3.out).2.2 x12_2 p254 q254
                            cases e254
                            replace p254 := eq_true p254
                            replace q254 := eq_true q254
                            have p255 : 0 ≤ (x12_2 : Int) := of_decide_eq_true (by first | (with_reducible assumption) | assumption)
                            have q255 : x12_2 < (t240.length : Int) := of_decide_eq_true (by first | (with_reducible assumption) | assumption)
                            obtain ⟨ad255, e255, hx255_0, hx255_1, hx255_2⟩ := at_T41 (Kd.R_reads' HO_6.out).2.2 x12_2 p255 q255
                            obtain rfl : ad251 = ad255 := (by injection e255)
                            replace p255 := eq_true p255
                            replace q255 := eq_true q255
                            have p256 : 0 ≤ (x12_2 : Int) := of_decide_eq_true (by first | (with_reducible assumption) | assumption)
                            have q256 : x12_2 < (t235.length : Int) := of_decide_eq_true (by first | (with_reducible assumption) | assumption)
                            obtain ⟨ad256, e256, hx256_0, hx256_1, hx256_2⟩ := at_T41 (Kd.R_reads' HO_3.out).2.2 x12_2 p256 q256
                            obtain rfl : ad254 = ad256 := (by injection e256)
                            replace p256 := eq_true p256
                            replace q256 := eq_true q256
                            obtain ⟨Ao71, co71, eo71⟩ := Kd.R_slice HO_9.out
                            subst eo71
                            go_wp2
                            repeat (go_quiet (fail); try go_wp2)
                            go_roundg k2
                            case measure => have := HJ13.out; have := HK2.out; omega
                            case rel => exact ⟨(wrap64 (x12_2 + 1)), (by first | rfl | (simp; done) | (simp [*]; done)), H', ⟨by have := HJ13.out; have := HK2.out; omega⟩, ⟨by (with_reducible repeat (first | apply Kd.R_alloc | apply Kd.R_drewN | apply Kd.R_drew)); exact HO_3.out⟩, ⟨by (with_reducible repeat (first | apply Kd.R_alloc | apply Kd.R_drewN | apply Kd.R_drew)); exact HO_6.out⟩, ⟨by (with_reducible repeat (first | apply Kd.R_alloc | apply Kd.R_drewN | apply Kd.R_drew)); exact HO_9.out⟩, ⟨by repeat (first | (with_reducible first | exact HB.out | apply below_alloc | apply pw_below_drewN | apply below_drew1) | exact HB.out)⟩⟩
                    · rw [if_neg c56] at H
                      exact absurd H (by simp)
                · rw [if_neg c53] at H
                  exact absurd H (by simp)
              · rw [if_neg c52] at H
                have c52b0 : decide (x12_2 < (t240.length : Int)) = false := decide_eq_false c52
                clear c52
                have HC72 := Aside0.mk H
                clear H
                obtain ⟨Ao73, co73, eo73⟩ := Kd.R_slice HO_6.out
                subst eo73
                go_upto_region 14 with (fail)
                repeat (go_quiet (fail); go_upto_region 14 with (fail))
                go_cut [13, 14, 101] (fun v13 v14 v101 wc => ∃ (kq : Nat) (x13_71 : Int) (x14_71 : Bool), v13 = .int .i64 x13_71 ∧ v14 = .bool x14_71 ∧ Aside0 (laws_FnProfiles.j2 kq t235 (Int.tmod t238 8) (Int.tmod t239 8) t240 t241 x13_71 x14_71 = some r) ∧ Aside0 (kq ≤ k2) ∧ Aside0 (Kd.R k41 41 wc w.heap.size (fun k_ => some k_ ≠ ((.slice Ao73 t240.length co73) : Value).ownBlock) (.slice Ao11 t235.length co11) t235) ∧ Aside0 (Kd.R k41 41 wc w.heap.size (fun k_ => some k_ ≠ ((.slice Ao11 t235.length co11) : Value).ownBlock) (.slice Ao73 t240.length co73) t240) ∧ Aside0 (Below w.heap.size w wc))
                case first => as_aux_lemma =>
                  have H := HC72.out
                  clear HC72
                  replace H := Option.bind_eq_some_iff.mp H
                  obtain ⟨⟨t261, t262⟩, A740, H⟩ := H
                  replace H : (laws_FnProfiles.j2 k2 t235 (Int.tmod t238 8) (Int.tmod t239 8) t240 t241 t261 t262) = some r := H
                  have A74 := Aside0.mk A740
                  clear A740
                  have H' := Aside0.mk H
                  clear H
                  go_wp2_with (first | (go_at_call 23; (with_reducible refine (impl_Best.calls k2 _ _ t235 (Int.tmod t238 8) (Int.tmod t239 8) t261 t262 _ ?side1 ?side2 A74.out).mono ?_); (case side1 => repeat (first | exact (Kd.R_reads' HO_3.out).2.2 | (with_reducible refine Kd.C_alloc ?_ _) | (with_reducible refine Kd.C_drewN ?_ _) | (with_reducible refine Kd.C_drew ?_))); (case side2 => exact (Kd.R_reads' HO_3.out).2.1); rintro e w75 ⟨rfl, hb⟩; have n0_ := Aside0.mk (Kd.R_below (by (with_reducible repeat (first | apply Kd.R_alloc | apply Kd.R_drewN | apply Kd.R_drew)); exact HO_3.out) hb); have n1_ := Aside0.mk (Kd.R_below (by (with_reducible repeat (first | apply Kd.R_alloc | apply Kd.R_drewN | apply Kd.R_drew)); exact HO_6.out) hb); have n2_ := Aside0.mk (Kd.R_below (by (with_reducible repeat (first | apply Kd.R_alloc | apply Kd.R_drewN | apply Kd.R_drew)); exact HO_9.out) hb); have n3_ := Aside0.mk (below_step (by repeat (first | (with_reducible first | exact HB.out | apply below_alloc | apply pw_below_drewN | apply below_drew1) | exact HB.out)) hb); clear HO_3; clear HO_6; clear HO_9; clear HB; have HO_3 := n0_; have HO_6 := n1_; have HO_9 := n2_; have HB := n3_; clear n0_ n1_ n2_ n3_; (try clear hb); (try clear hb2); (try clear hk); (try clear hi)))
                  repeat (go_quiet (first | (go_at_call 23; (with_reducible refine (impl_Best.calls k2 _ _ t235 (Int.tmod t238 8) (Int.tmod t239 8) t261 t262 _ ?side1 ?side2 A74.out).mono ?_); (case side1 => repeat (first | exact (Kd.R_reads' HO_3.out).2.2 | (with_reducible refine Kd.C_alloc ?_ _) | (with_reducible refine Kd.C_drewN ?_ _) | (with_reducible refine Kd.C_drew ?_))); (case side2 => exact (Kd.R_reads' HO_3.out).2.1); rintro e w75 ⟨rfl, hb⟩; have n0_ := Aside0.mk (Kd.R_below (by (with_reducible repeat (first | apply Kd.R_alloc | apply Kd.R_drewN | apply Kd.R_drew)); exact HO_3.out) hb); have n1_ := Aside0.mk (Kd.R_below (by (with_reducible repeat (first | apply Kd.R_alloc | apply Kd.R_drewN | apply Kd.R_drew)); exact HO_6.out) hb); have n2_ := Aside0.mk (Kd.R_below (by (with_reducible repeat (first | apply Kd.R_alloc | apply Kd.R_drewN | apply Kd.R_drew)); exact HO_9.out) hb); have n3_ := Aside0.mk (below_step (by repeat (first | (with_reducible first | exact HB.out | apply below_alloc | apply pw_below_drewN | apply below_drew1) | exact HB.out)) hb); clear HO_3; clear HO_6; clear HO_9; clear HB; have HO_3 := n0_; have HO_6 := n1_; have HO_9 := n2_; have HB := n3_; clear n0_ n1_ n2_ n3_; (try clear hb); (try clear hb2); (try clear hk); (try clear hi))); try go_wp2_with (first | (go_at_call 23; (with_reducible refine (impl_Best.calls k2 _ _ t235 (Int.tmod t238 8) (Int.tmod t239 8) t261 t262 _ ?side1 ?side2 A74.out).mono ?_); (case side1 => repeat (first | exact (Kd.R_reads' HO_3.out).2.2 | (with_reducible refine Kd.C_alloc ?_ _) | (with_reducible refine Kd.C_drewN ?_ _) | (with_reducible refine Kd.C_drew ?_))); (case side2 => exact (Kd.R_reads' HO_3.out).2.1); rintro e w75 ⟨rfl, hb⟩; have n0_ := Aside0.mk (Kd.R_below (by (with_reducible repeat (first | apply Kd.R_alloc | apply Kd.R_drewN | apply Kd.R_drew)); exact HO_3.out) hb); have n1_ := Aside0.mk (Kd.R_below (by (with_reducible repeat (first | apply Kd.R_alloc | apply Kd.R_drewN | apply Kd.R_drew)); exact HO_6.out) hb); have n2_ := Aside0.mk (Kd.R_below (by (with_reducible repeat (first | apply Kd.R_alloc | apply Kd.R_drewN | apply Kd.R_drew)); exact HO_9.out) hb); have n3_ := Aside0.mk (below_step (by repeat (first | (with_reducible first | exact HB.out | apply below_alloc | apply pw_below_drewN | apply below_drew1) | exact HB.out)) hb); clear HO_3; clear HO_6; clear HO_9; clear HB; have HO_3 := n0_; have HO_6 := n1_; have HO_9 := n2_; have HB := n3_; clear n0_ n1_ n2_ n3_; (try clear hb); (try clear hb2); (try clear hk); (try clear hi))))
                  go_meet
                  case rel => exact ⟨_, (t261), (t262), (by first | rfl | (simp; done) | (simp [*]; done)), (by first | rfl | (simp; done) | (simp [*]; done)), H', ⟨by have := HJ13.out; have := HK2.out; first | omega | exact Nat.le_refl _⟩, ⟨by (with_reducible repeat (first | apply Kd.R_alloc | apply Kd.R_drewN | apply Kd.R_drew)); exact Kd.R_mono HO_3.out (fun _ hk => hk.1)⟩, ⟨by (with_reducible repeat (first | apply Kd.R_alloc | apply Kd.R_drewN | apply Kd.R_drew)); exact Kd.R_mono HO_6.out (fun _ hk => hk.1)⟩, ⟨by repeat (first | (with_reducible first | exact HB.out | apply below_alloc | apply pw_below_drewN | apply below_drew1) | exact HB.out)⟩⟩
                case rest => as_aux_lemma =>
                  clear HC72
                  try clear c1
                  try clear c2
                  try clear p2
                  try clear q2
                  try clear hx2
                  try clear c3
                  try clear c4
                  try clear c5
                  try clear c6
                  try clear p6
                  try clear c15
                  try clear c16
                  try clear c18
                  try clear c19
                  try clear c19b0
                  try clear c19b1
                  try clear c20
                  try clear c20b0
                  try clear c20b1
                  try clear c20b2
                  try clear c21
                  try clear c21b0
                  try clear c22
                  try clear c22b0
                  try clear c22b1
                  try clear c23
                  try clear c23b0
                  try clear c24
                  try clear c24b0
                  try clear p25
                  try clear q25
                  try clear hx25
                  try clear p26
                  try clear q26
                  try clear hx26
                  try clear c37
                  try clear c37b0
                  try clear c38
                  try clear c38b0
                  try clear c38b1
                  try clear c39
                  try clear c39b0
                  try clear c40
                  try clear c40b0
                  try clear c51
                  try clear c52
                  try clear c52b0
                  try clear c53
                  try clear c53b0
                  try clear c54
                  try clear c54b0
                  try clear c56
                  try clear c56b0
                  try clear c57
                  try clear c57b0
                  try clear c59
                  try clear c59b0
                  try clear c61
                  try clear c61b0
                  try clear c62
                  try clear c62b0
                  try clear p64
                  try clear c65
                  try clear c65b0
                  try clear hx251_0
                  try clear hx251_1
                  try clear hx251_2
                  try clear hx252_0
                  try clear hx252_1
                  try clear hx252_2
                  try clear hx253_0
                  try clear hx253_1
                  try clear hx253_2
                  try clear hx254_0
                  try clear hx254_1
                  try clear hx254_2
                  try clear hx255_0
                  try clear hx255_1
                  try clear hx255_2
                  try clear hx256_0
                  try clear hx256_1
                  try clear hx256_2
                  try clear hx257_0
                  try clear hx257_1
                  try clear hx257_2
                  try clear hx258_0
                  try clear hx258_1
                  try clear hx258_2
                  try clear hx259_0
                  try clear hx259_1
                  try clear hx259_2
                  try clear hx260_0
                  try clear hx260_1
                  try clear hx260_2
                  try clear p2
                  try clear p251
                  try clear p252
                  try clear p253
                  try clear p254
                  try clear p255
                  try clear p256
                  try clear p257
                  try clear p258
                  try clear p259
                  try clear p260
                  try clear p6
                  try clear q251
                  try clear q252
                  try clear q253
                  try clear q254
                  try clear q255
                  try clear q256
                  try clear q257
                  try clear q258
                  try clear q259
                  try clear q260
                  obtain ⟨kq, x13_71, x14_71, rfl, rfl, HA, HJ71, HO_3, HO_6, HB⟩ := hcut
                  cases kq with
                  | zero => exact absurd HA.out (by simp [laws_FnProfiles.j2])
                  | succ kj71 =>
                    have H := HA.out
                    clear HA
                    simp only [laws_FnProfiles.j2] at H
                    by_cases c76 : (x14_71 != (t241 == (-1))) = true
                    · rw [if_pos c76] at H
                      have c76b0 : (x14_71 != (t241 == (-1))) = true := c76
                      (try (have c76b1 : decide (x14_71 = (t241 == (-1))) = false := by simpa using c76))
                      (try (have c76b2 : (x14_71 == (t241 == (-1))) = false := by simpa using c76))
                      (try (have c76b3 : ¬ (x14_71 = (t241 == (-1))) := by simpa using c76))
                      clear c76
                      by_cases c77 : 0 < (t235.length : Int)
                      · rw [if_pos c77] at H
                        have c77b0 : decide (0 < (t235.length : Int)) = true := decide_eq_true c77
                        have c77b1 : decide (0 < t235.length) = true := decide_eq_true (by omega)
                        clear c77
                        obtain rfl := Option.some.inj H
                        have p263 : 0 ≤ (0 : Int) := (by omega)
                        have q263 : 0 < (t235.length : Int) := of_decide_eq_true (by first | (with_reducible assumption) | assumption)
                        obtain ⟨ad263, e263, hx263_0, hx263_1, hx263_2⟩ := at_T41 (Kd.R_reads' HO_3.out).2.2 0 p263 q263
                        cases e263
                        have qi263 : (0 < t235.length) = True := eq_true (by omega)
                        (try rw [show ((0 : Int)).toNat = 0 from rfl] at hx263_0)
                        (try rw [show 0 * 3 = 0 from rfl] at hx263_0)
                        (try rw [Addr.add_zero'] at hx263_0)
                        (try rw [show ((0 : Int)).toNat = 0 from rfl] at hx263_1)
                        (try rw [show 0 * 3 = 0 from rfl] at hx263_1)
                        (try rw [Addr.add_zero'] at hx263_1)
                        (try rw [show ((0 : Int)).toNat = 0 from rfl] at hx263_2)
                        (try rw [show 0 * 3 = 0 from rfl] at hx263_2)
                        (try rw [Addr.add_zero'] at hx263_2)
                        replace p263 := eq_true p263
                        replace q263 := eq_true q263
                        go_wp2
                        repeat (go_quiet (fail); try go_wp2)
                        go_ret
                        exact ⟨by first | rfl | (simp [errW_none, errW_some] <;> rfl) | (simp [*, errW_none, errW_some] <;> rfl), by repeat (first | (with_reducible first | exact HB.out | apply below_alloc | apply pw_below_drewN | apply below_drew1) | exact HB.out)⟩
                      · rw [if_neg c77] at H
                        exact absurd H (by simp)
                    · rw [if_neg c76] at H
                      have c76b0 : (x14_71 != (t241 == (-1))) = false := by simpa using c76
                      (try (have c76b1 : decide (x14_71 = (t241 == (-1))) = true := by simpa using c76))
                      (try (have c76b2 : (x14_71 == (t241 == (-1))) = true := by simpa using c76))
                      clear c76
                      by_cases c78 : x14_71 = true
                      · subst c78
                        have H1 : ((impl_Profile.f kj71 t235 (Int.tmod t238 8) (Int.tmod t239 8) x13_71).bind fun bt264 => (laws_FnProfiles.j3 kj71 t235 (Int.tmod t238 8) (Int.tmod t239 8) t240 x13_71 bt264.1 bt264.2)) = some r := by rw [if_pos rfl] at H; exact H
                        clear H
                        have H := H1
                        clear H1
                        have HC79 := Aside0.mk H
                        clear H
                        go_upto_region 19 with (fail)
                        repeat (go_quiet (fail); go_upto_region 19 with (fail))
                        go_cut [15, 16, 182, 183, 190] (fun v15 v16 v182 v183 v190 wc => ∃ (kq : Nat) (x15_78 : List Int) (x16_78 : Bool), v16 = .bool x16_78 ∧ Aside0 (laws_FnProfiles.j3 kq t235 (Int.tmod t238 8) (Int.tmod t239 8) t240 x13_71 x15_78 x16_78 = some r) ∧ Aside0 (kq ≤ kj71) ∧ Aside0 (Kd.R k41 41 wc w.heap.size (fun k_ => some k_ ≠ ((.slice Ao73 t240.length co73) : Value).ownBlock) (.slice Ao11 t235.length co11) t235) ∧ Aside0 (Kd.R k41 41 wc w.heap.size (fun k_ => some k_ ≠ ((.slice Ao11 t235.length co11) : Value).ownBlock) (.slice Ao73 t240.length co73) t240) ∧ Aside0 (Kd.R (Kd.int .i64) 3 wc w.heap.size (fun _ => True) v15 x15_78) ∧ Aside0 (Below w.heap.size w wc))
                        case first => as_aux_lemma =>
                          have H := HC79.out
                          clear HC79
                          replace H := Option.bind_eq_some_iff.mp H
                          obtain ⟨⟨t264, t265⟩, A800, H⟩ := H
                          replace H : (laws_FnProfiles.j3 kj71 t235 (Int.tmod t238 8) (Int.tmod t239 8) t240 x13_71 t264 t265) = some r := H
                          have A80 := Aside0.mk A800
                          clear A800
                          have H' := Aside0.mk H
                          clear H
                          go_wp2_with (first | (go_at_call 24; (with_reducible refine (impl_Profile.calls kj71 _ _ t235 (Int.tmod t238 8) (Int.tmod t239 8) x13_71 t264 t265 _ ?side1 ?side2 A80.out).mono ?_); (case side1 => repeat (first | exact (Kd.R_reads' HO_3.out).2.2 | (with_reducible refine Kd.C_alloc ?_ _) | (with_reducible refine Kd.C_drewN ?_ _) | (with_reducible refine Kd.C_drew ?_))); (case side2 => exact (Kd.R_reads' HO_3.out).2.1); rintro e w81 ⟨v266, rfl, ho0, hb⟩; have n0_ := Aside0.mk (Kd.R_below (by (with_reducible repeat (first | apply Kd.R_alloc | apply Kd.R_drewN | apply Kd.R_drew)); exact HO_3.out) hb); have n1_ := Aside0.mk (Kd.R_below (by (with_reducible repeat (first | apply Kd.R_alloc | apply Kd.R_drewN | apply Kd.R_drew)); exact HO_6.out) hb); have n2_ := Aside0.mk (Kd.R_lower ho0 (below_size (by repeat (first | (with_reducible first | exact HB.out | apply below_alloc | apply pw_below_drewN | apply below_drew1) | exact HB.out)))); have n3_ := Aside0.mk (below_step (by repeat (first | (with_reducible first | exact HB.out | apply below_alloc | apply pw_below_drewN | apply below_drew1) | exact HB.out)) hb); clear HO_3; clear HO_6; clear HB; have HO_3 := n0_; have HO_6 := n1_; have HO267 := n2_; have HB := n3_; clear n0_ n1_ n2_ n3_; (try clear hb); (try clear hb2); (try clear hk); (try clear hi); (try clear ho0)))
                          repeat (go_quiet (first | (go_at_call 24; (with_reducible refine (impl_Profile.calls kj71 _ _ t235 (Int.tmod t238 8) (Int.tmod t239 8) x13_71 t264 t265 _ ?side1 ?side2 A80.out).mono ?_); (case side1 => repeat (first | exact (Kd.R_reads' HO_3.out).2.2 | (with_reducible refine Kd.C_alloc ?_ _) | (with_reducible refine Kd.C_drewN ?_ _) | (with_reducible refine Kd.C_drew ?_))); (case side2 => exact (Kd.R_reads' HO_3.out).2.1); rintro e w81 ⟨v266, rfl, ho0, hb⟩; have n0_ := Aside0.mk (Kd.R_below (by (with_reducible repeat (first | apply Kd.R_alloc | apply Kd.R_drewN | apply Kd.R_drew)); exact HO_3.out) hb); have n1_ := Aside0.mk (Kd.R_below (by (with_reducible repeat (first | apply Kd.R_alloc | apply Kd.R_drewN | apply Kd.R_drew)); exact HO_6.out) hb); have n2_ := Aside0.mk (Kd.R_lower ho0 (below_size (by repeat (first | (with_reducible first | exact HB.out | apply below_alloc | apply pw_below_drewN | apply below_drew1) | exact HB.out)))); have n3_ := Aside0.mk (below_step (by repeat (first | (with_reducible first | exact HB.out | apply below_alloc | apply pw_below_drewN | apply below_drew1) | exact HB.out)) hb); clear HO_3; clear HO_6; clear HB; have HO_3 := n0_; have HO_6 := n1_; have HO267 := n2_; have HB := n3_; clear n0_ n1_ n2_ n3_; (try clear hb); (try clear hb2); (try clear hk); (try clear hi); (try clear ho0))); try go_wp2_with (first | (go_at_call 24; (with_reducible refine (impl_Profile.calls kj71 _ _ t235 (Int.tmod t238 8) (Int.tmod t239 8) x13_71 t264 t265 _ ?side1 ?side2 A80.out).mono ?_); (case side1 => repeat (first | exact (Kd.R_reads' HO_3.out).2.2 | (with_reducible refine Kd.C_alloc ?_ _) | (with_reducible refine Kd.C_drewN ?_ _) | (with_reducible refine Kd.C_drew ?_))); (case side2 => exact (Kd.R_reads' HO_3.out).2.1); rintro e w81 ⟨v266, rfl, ho0, hb⟩; have n0_ := Aside0.mk (Kd.R_below (by (with_reducible repeat (first | apply Kd.R_alloc | apply Kd.R_drewN | apply Kd.R_drew)); exact HO_3.out) hb); have n1_ := Aside0.mk (Kd.R_below (by (with_reducible repeat (first | apply Kd.R_alloc | apply Kd.R_drewN | apply Kd.R_drew)); exact HO_6.out) hb); have n2_ := Aside0.mk (Kd.R_lower ho0 (below_size (by repeat (first | (with_reducible first | exact HB.out | apply below_alloc | apply pw_below_drewN | apply below_drew1) | exact HB.out)))); have n3_ := Aside0.mk (below_step (by repeat (first | (with_reducible first | exact HB.out | apply below_alloc | apply pw_below_drewN | apply below_drew1) | exact HB.out)) hb); clear HO_3; clear HO_6; clear HB; have HO_3 := n0_; have HO_6 := n1_; have HO267 := n2_; have HB := n3_; clear n0_ n1_ n2_ n3_; (try clear hb); (try clear hb2); (try clear hk); (try clear hi); (try clear ho0))))
                          go_meet
                          case rel => exact ⟨_, (t264), (t265), (by first | rfl | (simp; done) | (simp [*]; done)), H', ⟨by have := HJ13.out; have := HK2.out; have := HJ71.out; first | omega | exact Nat.le_refl _⟩, ⟨by (with_reducible repeat (first | apply Kd.R_alloc | apply Kd.R_drewN | apply Kd.R_drew)); exact HO_3.out⟩, ⟨by (with_reducible repeat (first | apply Kd.R_alloc | apply Kd.R_drewN | apply Kd.R_drew)); exact HO_6.out⟩, ⟨by (with_reducible repeat (first | apply Kd.R_alloc | apply Kd.R_drewN | apply Kd.R_drew)); exact HO267.out⟩, ⟨by repeat (first | (with_reducible first | exact HB.out | apply below_alloc | apply pw_below_drewN | apply below_drew1) | exact HB.out)⟩⟩
                        case rest => as_aux_lemma =>
                          clear HC79
                          try clear c1
                          try clear c2
                          try clear p2
                          try clear q2
                          try clear hx2
                          try clear qi2
                          try clear c3
                          try clear c4
                          try clear c5
                          try clear c6
                          try clear p6
                          try clear c7
                          try clear c15
                          try clear c16
                          try clear c18
                          try clear c19
                          try clear c19b0
                          try clear c19b1
                          try clear c20
                          try clear c20b0
                          try clear c20b1
                          try clear c20b2
                          try clear c21
                          try clear c21b0
                          try clear c22
                          try clear c22b0
                          try clear c22b1
                          try clear c23
                          try clear c23b0
                          try clear c24
                          try clear c24b0
                          try clear p25
                          try clear q25
                          try clear hx25
                          try clear p26
                          try clear q26
                          try clear hx26
                          try clear qi26
                          try clear c37
                          try clear c37b0
                          try clear c38
                          try clear c38b0
                          try clear c38b1
                          try clear c39
                          try clear c39b0
                          try clear c40
                          try clear c40b0
                          try clear c51
                          try clear c52
                          try clear c52b0
                          try clear c53
                          try clear c53b0
                          try clear c54
                          try clear c54b0
                          try clear c56
                          try clear c56b0
                          try clear c57
                          try clear c57b0
                          try clear c59
                          try clear c59b0
                          try clear c61
                          try clear c61b0
                          try clear c62
                          try clear c62b0
                          try clear p64
                          try clear c65
                          try clear c65b0
                          try clear c76
                          try clear c76b0
                          try clear c76b1
                          try clear c76b2
                          try clear c77
                          try clear c77b0
                          try clear c77b1
                          try clear c78
                          try clear hx251_0
                          try clear hx251_1
                          try clear hx251_2
                          try clear hx252_0
                          try clear hx252_1
                          try clear hx252_2
                          try clear hx253_0
                          try clear hx253_1
                          try clear hx253_2
                          try clear hx254_0
                          try clear hx254_1
                          try clear hx254_2
                          try clear hx255_0
                          try clear hx255_1
                          try clear hx255_2
                          try clear hx256_0
                          try clear hx256_1
                          try clear hx256_2
                          try clear hx257_0
                          try clear hx257_1
                          try clear hx257_2
                          try clear hx258_0
                          try clear hx258_1
                          try clear hx258_2
                          try clear hx259_0
                          try clear hx259_1
                          try clear hx259_2
                          try clear hx260_0
                          try clear hx260_1
                          try clear hx260_2
                          try clear hx263_0
                          try clear hx263_1
                          try clear hx263_2
                          try clear p2
                          try clear p25
                          try clear p251
                          try clear p252
                          try clear p253
                          try clear p254
                          try clear p255
                          try clear p256
                          try clear p257
                          try clear p258
                          try clear p259
                          try clear p26
                          try clear p260
                          try clear p263
                          try clear p6
                          try clear p64
                          try clear q2
                          try clear q25
                          try clear q251
                          try clear q252
                          try clear q253
                          try clear q254
                          try clear q255
                          try clear q256
                          try clear q257
                          try clear q258
                          try clear q259
                          try clear q26
                          try clear q260
                          try clear q263
                          obtain ⟨kq, x15_78, x16_78, rfl, HA, HJ78, HO_3, HO_6, HO_15, HB⟩ := hcut
                          cases kq with
                          | zero => exact absurd HA.out (by simp [laws_FnProfiles.j3])
                          | succ kj78 =>
                            have H := HA.out
                            clear HA
                            simp only [laws_FnProfiles.j3] at H
                            have HC82 := Aside0.mk H
                            clear H
                            go_upto_region 20 with (fail)
                            repeat (go_quiet (fail); go_upto_region 20 with (fail))
                            go_cut [214] (fun v214 wc => ∃ (kq : Nat) (x214_81 : Bool), v214 = .bool x214_81 ∧ Aside0 (laws_FnProfiles.j4 kq t235 (Int.tmod t238 8) (Int.tmod t239 8) t240 x15_78 x214_81 = some r) ∧ Aside0 (kq ≤ kj78) ∧ Aside0 (Kd.R k41 41 wc w.heap.size (fun k_ => some k_ ≠ ((.slice Ao73 t240.length co73) : Value).ownBlock) (.slice Ao11 t235.length co11) t235) ∧ Aside0 (Kd.R k41 41 wc w.heap.size (fun k_ => some k_ ≠ ((.slice Ao11 t235.length co11) : Value).ownBlock) (.slice Ao73 t240.length co73) t240) ∧ Aside0 (Kd.R (Kd.int .i64) 3 wc w.heap.size (fun _ => True) u15 x15_78) ∧ Aside0 (Below w.heap.size w wc))
                            case first => as_aux_lemma =>
                              have H := HC82.out
                              clear HC82
                              by_cases c83 : x16_78 = true
                              · as_aux_lemma =>
                                subst c83
                                have H1 : (if (x15_78.length : Int) = (t235.length : Int) then (if 0 < (x15_78.length : Int) then (laws_FnProfiles.j4 kj78 t235 (Int.tmod t238 8) (Int.tmod t239 8) t240 x15_78 ((rd x15_78 0) != x13_71)) else (none)) else (laws_FnProfiles.j4 kj78 t235 (Int.tmod t238 8) (Int.tmod t239 8) t240 x15_78 true)) = some r := by rw [if_pos rfl] at H; exact H
                                clear H
                                have H := H1
                                clear H1
                                by_cases c84 : (x15_78.length : Int) = (t235.length : Int)
                                · as_aux_lemma =>
                                  rw [if_pos c84] at H
                                  have c84b0 : ((x15_78.length : Int) == (t235.length : Int)) = true := beq_iff_eq.mpr c84
                                  have c84b1 : ((x15_78.length : Int) != (t235.length : Int)) = false := bne_eq_false_iff_eq.mpr c84
                                  have c84b2 : (x15_78.length == t235.length) = true := by first | simpa using c84 | (simp at c84 ⊢; omega)
                                  clear c84
                                  (first | rw [c84b0] | (simp only [i64_w, i32_w]; rw [c84b0]) | skip)
                                  by_cases c85 : 0 < (x15_78.length : Int)
                                  · as_aux_lemma =>
                                    rw [if_pos c85] at H
                                    have c85b0 : decide (0 < (x15_78.length : Int)) = true := decide_eq_true c85
                                    have c85b1 : decide (0 < x15_78.length) = true := decide_eq_true (by omega)
                                    clear c85
                                    have H' := Aside0.mk H
                                    clear H
                                    obtain ⟨Ao86, co86, eo86⟩ := Kd.R_slice HO_15.out
                                    subst eo86
                                    have p268 : 0 ≤ (0 : Int) := (by omega)
                                    have q268 : 0 < (x15_78.length : Int) := of_decide_eq_true (by first | (with_reducible assumption) | assumption)
                                    obtain ⟨ad268, e268, hx268_0⟩ := Kd.at_int (Kd.R_reads' HO_15.out).2.2 0 p268 q268
                                    cases e268
                                    have qi268 : (0 < x15_78.length) = True := eq_true (by omega)
                                    (try rw [show ((0 : Int)).toNat = 0 from rfl] at hx268_0)
                                    (try rw [Addr.add_zero'] at hx268_0)
                                    replace p268 := eq_true p268
                                    replace q268 := eq_true q268
                                    go_wp2
                                    repeat (go_quiet (fail); try go_wp2)
                                    go_meet
                                    case rel => exact ⟨_, (((rd x15_78 0) != x13_71)), (by first | rfl | (simp; done) | (simp [*]; done)), H', ⟨by have := HJ13.out; have := HK2.out; have := HJ71.out; have := HJ78.out; first | omega | exact Nat.le_refl _⟩, ⟨by (with_reducible repeat (first | apply Kd.R_alloc | apply Kd.R_drewN | apply Kd.R_drew)); exact HO_3.out⟩, ⟨by (with_reducible repeat (first | apply Kd.R_alloc | apply Kd.R_drewN | apply Kd.R_drew)); exact HO_6.out⟩, ⟨by (with_reducible repeat (first | apply Kd.R_alloc | apply Kd.R_drewN | apply Kd.R_drew)); exact HO_15.out⟩, ⟨by repeat (first | (with_reducible first | exact HB.out | apply below_alloc | apply pw_below_drewN | apply below_drew1) | exact HB.out)⟩⟩
                                  · as_aux_lemma =>
                                    rw [if_neg c85] at H
                                    exact absurd H (by simp)
                                · as_aux_lemma =>
                                  rw [if_neg c84] at H
                                  have c84b0 : ((x15_78.length : Int) == (t235.length : Int)) = false := beq_eq_false_iff_ne.mpr c84
                                  have c84b1 : ((x15_78.length : Int) != (t235.length : Int)) = true := bne_iff_ne.mpr c84
                                  have c84b2 : (x15_78.length == t235.length) = false := by first | simpa using c84 | (simp at c84 ⊢; omega)
                                  (first | rw [c84b0] | (simp only [i64_w, i32_w]; rw [c84b0]) | skip)
                                  have H' := Aside0.mk H
                                  clear H
                                  obtain ⟨Ao87, co87, eo87⟩ := Kd.R_slice HO_15.out
                                  subst eo87
                                  go_wp2
                                  repeat (go_quiet (fail); try go_wp2)
                                  go_meet
                                  case rel => exact ⟨_, (true), (by first | rfl | (simp; done) | (simp [*]; done)), H', ⟨by have := HJ13.out; have := HK2.out; have := HJ71.out; have := HJ78.out; first | omega | exact Nat.le_refl _⟩, ⟨by (with_reducible repeat (first | apply Kd.R_alloc | apply Kd.R_drewN | apply Kd.R_drew)); exact HO_3.out⟩, ⟨by (with_reducible repeat (first | apply Kd.R_alloc | apply Kd.R_drewN | apply Kd.R_drew)); exact HO_6.out⟩, ⟨by (with_reducible repeat (first | apply Kd.R_alloc | apply Kd.R_drewN | apply Kd.R_drew)); exact HO_15.out⟩, ⟨by repeat (first | (with_reducible first | exact HB.out | apply below_alloc | apply pw_below_drewN | apply below_drew1) | exact HB.out)⟩⟩
                              · as_aux_lemma =>
                                replace c83 := Bool.eq_false_iff.mpr c83
                                subst c83
                                have H1 : (laws_FnProfiles.j4 kj78 t235 (Int.tmod t238 8) (Int.tmod t239 8) t240 x15_78 true) = some r := by rw [if_neg (show ¬ (false = true) by decide)] at H; exact H
                                clear H
                                have H := H1
                                clear H1
                                have H' := Aside0.mk H
                                clear H
                                go_wp2
                                repeat (go_quiet (fail); try go_wp2)
                                go_meet
                                case rel => exact ⟨_, (true), (by first | rfl | (simp; done) | (simp [*]; done)), H', ⟨by have := HJ13.out; have := HK2.out; have := HJ71.out; have := HJ78.out; first | omega | exact Nat.le_refl _⟩, ⟨by (with_reducible repeat (first | apply Kd.R_alloc | apply Kd.R_drewN | apply Kd.R_drew)); exact HO_3.out⟩, ⟨by (with_reducible repeat (first | apply Kd.R_alloc | apply Kd.R_drewN | apply Kd.R_drew)); exact HO_6.out⟩, ⟨by (with_reducible repeat (first | apply Kd.R_alloc | apply Kd.R_drewN | apply Kd.R_drew)); exact HO_15.out⟩, ⟨by repeat (first | (with_reducible first | exact HB.out | apply below_alloc | apply pw_below_drewN | apply below_drew1) | exact HB.out)⟩⟩
                            case rest => as_aux_lemma =>
                              clear HC82
                              try clear c1
                              try clear c2
                              try clear p2
                              try clear q2
                              try clear hx2
                              try clear qi2
                              try clear c3
                              try clear c4
                              try clear c5
                              try clear c6
                              try clear p6
                              try clear c7
                              try clear c8
                              try clear c15
                              try clear c16
                              try clear c18
                              try clear c19
                              try clear c19b0
                              try clear c19b1
                              try clear c20
                              try clear c20b0
                              try clear c20b1
                              try clear c20b2
                              try clear c21
                              try clear c21b0
                              try clear c22
                              try clear c22b0
                              try clear c22b1
                              try clear c23
                              try clear c23b0
                              try clear c24
                              try clear c24b0
                              try clear p25
                              try clear q25
                              try clear hx25
                              try clear p26
                              try clear q26
                              try clear hx26
                              try clear qi26
                              try clear c37
                              try clear c37b0
                              try clear c38
                              try clear c38b0
                              try clear c38b1
                              try clear c39
                              try clear c39b0
                              try clear c40
                              try clear c40b0
                              try clear c51
                              try clear c52
                              try clear c52b0
                              try clear c53
                              try clear c53b0
                              try clear c54
                              try clear c54b0
                              try clear c56
                              try clear c56b0
                              try clear c57
                              try clear c57b0
                              try clear c59
                              try clear c59b0
                              try clear c61
                              try clear c61b0
                              try clear c62
                              try clear c62b0
                              try clear p64
                              try clear c65
                              try clear c65b0
                              try clear c76
                              try clear c76b0
                              try clear c76b1
                              try clear c76b2
                              try clear c77
                              try clear c77b0
                              try clear c77b1
                              try clear c78
                              try clear c83
                              try clear c84
                              try clear c84b0
                              try clear c84b1
                              try clear c84b2
                              try clear c85
                              try clear c85b0
                              try clear c85b1
                              try clear hx251_0
                              try clear hx251_1
                              try clear hx251_2
                              try clear hx252_0
                              try clear hx252_1
                              try clear hx252_2
                              try clear hx253_0
                              try clear hx253_1
                              try clear hx253_2
                              try clear hx254_0
                              try clear hx254_1
                              try clear hx254_2
                              try clear hx255_0
                              try clear hx255_1
                              try clear hx255_2
                              try clear hx256_0
                              try clear hx256_1
                              try clear hx256_2
                              try clear hx257_0
                              try clear hx257_1
                              try clear hx257_2
                              try clear hx258_0
                              try clear hx258_1
                              try clear hx258_2
                              try clear hx259_0
                              try clear hx259_1
                              try clear hx259_2
                              try clear hx260_0
                              try clear hx260_1
                              try clear hx260_2
                              try clear hx263_0
                              try clear hx263_1
                              try clear hx263_2
                              try clear hx268_0
                              try clear p2
                              try clear p25
                              try clear p251
                              try clear p252
                              try clear p253
                              try clear p254
                              try clear p255
                              try clear p256
                              try clear p257
                              try clear p258
                              try clear p259
                              try clear p26
                              try clear p260
                              try clear p263
                              try clear p268
                              try clear p6
                              try clear p64
                              try clear q2
                              try clear q25
                              try clear q251
                              try clear q252
                              try clear q253
                              try clear q254
                              try clear q255
                              try clear q256
                              try clear q257
                              try clear q258
                              try clear q259
                              try clear q26
                              try clear q260
                              try clear q263
                              try clear q268
                              obtain ⟨kq, x214_81, rfl, HA, HJ81, HO_3, HO_6, HO_15, HB⟩ := hcut
                              cases kq with
                              | zero => exact absurd HA.out (by simp [laws_FnProfiles.j4])
                              | succ kj81 =>
                                have H := HA.out
                                clear HA
                                simp only [laws_FnProfiles.j4] at H
                                by_cases c88 : x214_81 = true
                                · subst c88
                                  have H1 : (some false) = some r := by rw [if_pos rfl] at H; exact H
                                  clear H
                                  have H := H1
                                  clear H1
                                  obtain rfl := Option.some.inj H
                                  go_wp2
                                  repeat (go_quiet (fail); try go_wp2)
                                  go_ret
                                  exact ⟨by first | rfl | (simp [errW_none, errW_some] <;> rfl) | (simp [*, errW_none, errW_some] <;> rfl), by repeat (first | (with_reducible first | exact HB.out | apply below_alloc | apply pw_below_drewN | apply below_drew1) | exact HB.out)⟩
                                · replace c88 := Bool.eq_false_iff.mpr c88
                                  subst c88
                                  have H1 : (laws_FnProfiles.l1 kj81 t235 (Int.tmod t238 8) (Int.tmod t239 8) t240 x15_78 0) = some r := by rw [if_neg (show ¬ (false = true) by decide)] at H; exact H
                                  clear H
                                  have H := H1
                                  clear H1
                                  have H' := Aside0.mk H
                                  clear H
                                  go_wp2
                                  repeat (go_quiet (fail); try go_wp2)
                                  go_loopg [17] kj81 (fun kq v17 w' => ∃ (x17_6 : Int), v17 = .int .i64 x17_6 ∧ Aside0 (laws_FnProfiles.l1 kq t235 (Int.tmod t238 8) (Int.tmod t239 8) t240 x15_78 x17_6 = some r) ∧ Aside0 (kq ≤ kj81) ∧ Aside0 (Kd.R k41 41 w' w.heap.size (fun k_ => some k_ ≠ ((.slice Ao73 t240.length co73) : Value).ownBlock) (.slice Ao11 t235.length co11) t235) ∧ Aside0 (Kd.R k41 41 w' w.heap.size (fun k_ => some k_ ≠ ((.slice Ao11 t235.length co11) : Value).ownBlock) (.slice Ao73 t240.length co73) t240) ∧ Aside0 (Kd.R (Kd.int .i64) 3 w' w.heap.size (fun _ => True) u15 x15_78) ∧ Aside0 (Below w.heap.size w w'))
                                  case atStart => exact ⟨(0), (by first | rfl | (simp; done) | (simp [*]; done)), H', ⟨Nat.le_refl _⟩, ⟨by (with_reducible repeat (first | apply Kd.R_alloc | apply Kd.R_drewN | apply Kd.R_drew)); exact HO_3.out⟩, ⟨by (with_reducible repeat (first | apply Kd.R_alloc | apply Kd.R_drewN | apply Kd.R_drew)); exact HO_6.out⟩, ⟨by (with_reducible repeat (first | apply Kd.R_alloc | apply Kd.R_drewN | apply Kd.R_drew)); exact HO_15.out⟩, ⟨by repeat (first | (with_reducible first | exact HB.out | apply below_alloc | apply pw_below_drewN | apply below_drew1) | exact HB.out)⟩⟩
                                  case round => as_aux_lemma =>
                                    clear H'
                                    try clear c1
                                    try clear c2
                                    try clear p2
                                    try clear q2
                                    try clear hx2
                                    try clear qi2
                                    try clear c3
                                    try clear c4
                                    try clear c5
                                    try clear c6
                                    try clear p6
                                    try clear c7
                                    try clear c8
                                    try clear c15
                                    try clear c16
                                    try clear c18
                                    try clear c19
                                    try clear c19b0
                                    try clear c19b1
                                    try clear c20
                                    try clear c20b0
                                    try clear c20b1
                                    try clear c20b2
                                    try clear c21
                                    try clear c21b0
                                    try clear c22
                                    try clear c22b0
                                    try clear c22b1
                                    try clear c23
                                    try clear c23b0
                                    try clear c24
                                    try clear c24b0
                                    try clear p25
                                    try clear q25
                                    try clear hx25
                                    try clear p26
                                    try clear q26
                                    try clear hx26
                                    try clear qi26
                                    try clear c37
                                    try clear c37b0
                                    try clear c38
                                    try clear c38b0
                                    try clear c38b1
                                    try clear c39
                                    try clear c39b0
                                    try clear c40
                                    try clear c40b0
                                    try clear c51
                                    try clear c52
                                    try clear c52b0
                                    try clear c53
                                    try clear c53b0
                                    try clear c54
                                    try clear c54b0
                                    try clear c56
                                    try clear c56b0
                                    try clear c57
                                    try clear c57b0
                                    try clear c59
                                    try clear c59b0
                                    try clear c61
                                    try clear c61b0
                                    try clear c62
                                    try clear c62b0
                                    try clear p64
                                    try clear c65
                                    try clear c65b0
                                    try clear c76
                                    try clear c76b0
                                    try clear c76b1
                                    try clear c76b2
                                    try clear c77
                                    try clear c77b0
                                    try clear c77b1
                                    try clear c78
                                    try clear c83
                                    try clear c84
                                    try clear c84b0
                                    try clear c84b1
                                    try clear c84b2
                                    try clear c85
                                    try clear c85b0
                                    try clear c85b1
                                    try clear c88
                                    try clear hx251_0
                                    try clear hx251_1
                                    try clear hx251_2
                                    try clear hx252_0
                                    try clear hx252_1
                                    try clear hx252_2
                                    try clear hx253_0
                                    try clear hx253_1
                                    try clear hx253_2
                                    try clear hx254_0
                                    try clear hx254_1
                                    try clear hx254_2
                                    try clear hx255_0
                                    try clear hx255_1
                                    try clear hx255_2
                                    try clear hx256_0
                                    try clear hx256_1
                                    try clear hx256_2
                                    try clear hx257_0
                                    try clear hx257_1
                                    try clear hx257_2
                                    try clear hx258_0
                                    try clear hx258_1
                                    try clear hx258_2
                                    try clear hx259_0
                                    try clear hx259_1
                                    try clear hx259_2
                                    try clear hx260_0
                                    try clear hx260_1
                                    try clear hx260_2
                                    try clear hx263_0
                                    try clear hx263_1
                                    try clear hx263_2
                                    try clear hx268_0
                                    try clear p2
                                    try clear p25
                                    try clear p251
                                    try clear p252
                                    try clear p253
                                    try clear p254
                                    try clear p255
                                    try clear p256
                                    try clear p257
                                    try clear p258
                                    try clear p259
                                    try clear p26
                                    try clear p260
                                    try clear p263
                                    try clear p268
                                    try clear p6
                                    try clear p64
                                    try clear q2
                                    try clear q25
                                    try clear q251
                                    try clear q252
                                    try clear q253
                                    try clear q254
                                    try clear q255
                                    try clear q256
                                    try clear q257
                                    try clear q258
                                    try clear q259
                                    try clear q26
                                    try clear q260
                                    try clear q263
                                    try clear q268
                                    obtain ⟨x17_6, rfl, HA, HK6, HO_3, HO_6, HO_15, HB⟩ := hrel
                                    cases gk with
                                    | zero => exact absurd HA.out (by simp [laws_FnProfiles.l1])
                                    | succ k6 =>
                                      have H := HA.out
                                      clear HA
                                      simp only [laws_FnProfiles.l1] at H
                                      by_cases c89 : x17_6 < (x15_78.length : Int)
                                      · rw [if_pos c89] at H
                                        have c89b0 : decide (x17_6 < (x15_78.length : Int)) = true := decide_eq_true c89
                                        clear c89
                                        have HC90 := Aside0.mk H
                                        clear H
                                        obtain ⟨Ao91, co91, eo91⟩ := Kd.R_slice HO_15.out
                                        subst eo91
                                        go_upto_region 25 with (fail)
                                        repeat (go_quiet (fail); go_upto_region 25 with (fail))
                                        go_cut [242, 218] (fun v242 v218 wc => ∃ (kq : Nat) (x242_89 : Bool), v242 = .bool x242_89 ∧ Aside0 (laws_FnProfiles.j6 kq t235 (Int.tmod t238 8) (Int.tmod t239 8) t240 x15_78 x17_6 x242_89 = some r) ∧ Aside0 (kq ≤ k6) ∧ Aside0 (Kd.R k41 41 wc w.heap.size (fun k_ => some k_ ≠ ((.slice Ao73 t240.length co73) : Value).ownBlock) (.slice Ao11 t235.length co11) t235) ∧ Aside0 (Kd.R k41 41 wc w.heap.size (fun k_ => some k_ ≠ ((.slice Ao11 t235.length co11) : Value).ownBlock) (.slice Ao73 t240.length co73) t240) ∧ Aside0 (Kd.R (Kd.int .i64) 3 wc w.heap.size (fun _ => True) (.slice Ao91 x15_78.length co91) x15_78) ∧ Aside0 (Below w.heap.size w wc))
                                        case first => as_aux_lemma =>
                                          have H := HC90.out
                                          clear HC90
                                          by_cases c92 : 0 ≤ x17_6
                                          · as_aux_lemma =>
                                            rw [if_pos c92] at H
                                            have c92b0 : decide (0 ≤ x17_6) = true := decide_eq_true c92
                                            clear c92
                                            (first | rw [c92b0] | (simp only [i64_w, i32_w]; rw [c92b0]) | skip)
                                            by_cases c93 : x17_6 < (t240.length : Int)
                                            · as_aux_lemma =>
                                              rw [if_pos c93] at H
                                              have c93b0 : decide (x17_6 < (t240.length : Int)) = true := decide_eq_true c93
                                              clear c93
                                              by_cases c94 : (rd x15_78 x17_6) < ((rd_T41 t240 x17_6).f1)
                                              · as_aux_lemma =>
                                                rw [if_pos c94] at H
                                                have c94b0 : decide ((rd x15_78 x17_6) < ((rd_T41 t240 x17_6).f1)) = true := decide_eq_true c94
                                                clear c94
                                                have H' := Aside0.mk H
                                                clear H
                                                have p271 : 0 ≤ (x17_6 : Int) := of_decide_eq_true (by first | (with_reducible assumption) | assumption)
                                                have q271 : x17_6 < (x15_78.length : Int) := of_decide_eq_true (by first | (with_reducible assumption) | assumption)
                                                obtain ⟨ad271, e271, hx271_0⟩ := Kd.at_int (Kd.R_reads' HO_15.out).2.2 x17_6 p271 q271
                                                cases e271
                                                replace p271 := eq_true p271
                                                replace q271 := eq_true q271
                                                have p272 : 0 ≤ (x17_6 : Int) := of_decide_eq_true (by first | (with_reducible assumption) | assumption)
                                                have q272 : x17_6 < (t240.length : Int) := of_decide_eq_true (by first | (with_reducible assumption) | assumption)
                                                obtain ⟨ad272, e272, hx272_0, hx272_1, hx272_2⟩ := at_T41 (Kd.R_reads' HO_6.out).2.2 x17_6 p272 q272
                                                cases e272
                                                replace p272 := eq_true p272
                                                replace q272 := eq_true q272
                                                go_wp2
                                                repeat (go_quiet (fail); try go_wp2)
                                                go_meet
                                                case rel => exact ⟨_, (true), (by first | rfl | (simp; done) | (simp [*]; done)), H', ⟨by have := HJ13.out; have := HK2.out; have := HJ71.out; have := HJ78.out; have := HJ81.out; have := HK6.out; first | omega | exact Nat.le_refl _⟩, ⟨by (with_reducible repeat (first | apply Kd.R_alloc | apply Kd.R_drewN | apply Kd.R_drew)); exact HO_3.out⟩, ⟨by (with_reducible repeat (first | apply Kd.R_alloc | apply Kd.R_drewN | apply Kd.R_drew)); exact HO_6.out⟩, ⟨by (with_reducible repeat (first | apply Kd.R_alloc | apply Kd.R_drewN | apply Kd.R_drew)); exact HO_15.out⟩, ⟨by repeat (first | (with_reducible first | exact HB.out | apply below_alloc | apply pw_below_drewN | apply below_drew1) | exact HB.out)⟩⟩
                                              · as_aux_lemma =>
                                                rw [if_neg c94] at H
                                                have c94b0 : decide ((rd x15_78 x17_6) < ((rd_T41 t240 x17_6).f1)) = false := decide_eq_false c94
                                                clear c94
                                                have H' := Aside0.mk H
                                                clear H
                                                have p271 : 0 ≤ (x17_6 : Int) := of_decide_eq_true (by first | (with_reducible assumption) | assumption)
                                                have q271 : x17_6 < (x15_78.length : Int) := of_decide_eq_true (by first | (with_reducible assumption) | assumption)
                                                obtain ⟨ad271, e271, hx271_0⟩ := Kd.at_int (Kd.R_reads' HO_15.out).2.2 x17_6 p271 q271
                                                cases e271
                                                replace p271 := eq_true p271
                                                replace q271 := eq_true q271
                                                have p272 : 0 ≤ (x17_6 : Int) := of_decide_eq_true (by first | (with_reducible assumption) | assumption)
                                                have q272 : x17_6 < (t240.length : Int) := of_decide_eq_true (by first | (with_reducible assumption) | assumption)
                                                obtain ⟨ad272, e272, hx272_0, hx272_1, hx272_2⟩ := at_T41 (Kd.R_reads' HO_6.out).2.2 x17_6 p272 q272
                                                cases e272
                                                replace p272 := eq_true p272
                                                replace q272 := eq_true q272
                                                have p273 : 0 ≤ (x17_6 : Int) := of_decide_eq_true (by first | (with_reducible assumption) | assumption)
                                                have q273 : x17_6 < (x15_78.length : Int) := of_decide_eq_true (by first | (with_reducible assumption) | assumption)
                                                obtain ⟨ad273, e273, hx273_0⟩ := Kd.at_int (Kd.R_reads' HO_15.out).2.2 x17_6 p273 q273
                                                obtain rfl : ad271 = ad273 := (by injection e273)
                                                replace p273 := eq_true p273
                                                replace q273 := eq_true q273
                                                have p274 : 0 ≤ (x17_6 : Int) := of_decide_eq_true (by first | (with_reducible assumption) | assumption)
                                                have q274 : x17_6 < (t240.length : Int) := of_decide_eq_true (by first | (with_reducible assumption) | assumption)
                                                obtain ⟨ad274, e274, hx274_0, hx274_1, hx274_2⟩ := at_T41 (Kd.R_reads' HO_6.out).2.2 x17_6 p274 q274
                                                obtain rfl : ad272 = ad274 := (by injection e274)
                                                replace p274 := eq_true p274
                                                replace q274 := eq_true q274
                                                go_wp2
                                                repeat (go_quiet (fail); try go_wp2)
                                                go_meet
                                                case rel => exact ⟨_, (decide ((rd x15_78 x17_6) > ((rd_T41 t240 x17_6).f2))), (by first | rfl | (simp; done) | (simp [*]; done)), H', ⟨by have := HJ13.out; have := HK2.out; have := HJ71.out; have := HJ78.out; have := HJ81.out; have := HK6.out; first | omega | exact Nat.le_refl _⟩, ⟨by (with_reducible repeat (first | apply Kd.R_alloc | apply Kd.R_drewN | apply Kd.R_drew)); exact HO_3.out⟩, ⟨by (with_reducible repeat (first | apply Kd.R_alloc | apply Kd.R_drewN | apply Kd.R_drew)); exact HO_6.out⟩, ⟨by (with_reducible repeat (first | apply Kd.R_alloc | apply Kd.R_drewN | apply Kd.R_drew)); exact HO_15.out⟩, ⟨by repeat (first | (with_reducible first | exact HB.out | apply below_alloc | apply pw_below_drewN | apply below_drew1) | exact HB.out)⟩⟩
                                            · as_aux_lemma =>
                                              rw [if_neg c93] at H
                                              exact absurd H (by simp)
                                          · as_aux_lemma =>
                                            rw [if_neg c92] at H
                                            exact absurd H (by simp)
                                        case rest => as_aux_lemma =>
                                          clear HC90
                                          try clear c1
                                          try clear c2
                                          try clear p2
                                          try clear q2
                                          try clear hx2
                                          try clear qi2
                                          try clear c3
                                          try clear c4
                                          try clear c5
                                          try clear c6
                                          try clear p6
                                          try clear c7
                                          try clear c8
                                          try clear c9
                                          try clear c15
                                          try clear c16
                                          try clear c18
                                          try clear c19
                                          try clear c19b0
                                          try clear c19b1
                                          try clear c20
                                          try clear c20b0
                                          try clear c20b1
                                          try clear c20b2
                                          try clear c21
                                          try clear c21b0
                                          try clear c22
                                          try clear c22b0
                                          try clear c22b1
                                          try clear c23
                                          try clear c23b0
                                          try clear c24
                                          try clear c24b0
                                          try clear p25
                                          try clear q25
                                          try clear hx25
                                          try clear p26
                                          try clear q26
                                          try clear hx26
                                          try clear qi26
                                          try clear p27
                                          try clear q27
                                          try clear hx27
                                          try clear c37
                                          try clear c37b0
                                          try clear c38
                                          try clear c38b0
                                          try clear c38b1
                                          try clear c39
                                          try clear c39b0
                                          try clear c40
                                          try clear c40b0
                                          try clear c51
                                          try clear c52
                                          try clear c52b0
                                          try clear c53
                                          try clear c53b0
                                          try clear c54
                                          try clear c54b0
                                          try clear c56
                                          try clear c56b0
                                          try clear c57
                                          try clear c57b0
                                          try clear c59
                                          try clear c59b0
                                          try clear c61
                                          try clear c61b0
                                          try clear c62
                                          try clear c62b0
                                          try clear p64
                                          try clear c65
                                          try clear c65b0
                                          try clear c76
                                          try clear c76b0
                                          try clear c76b1
                                          try clear c76b2
                                          try clear c77
                                          try clear c77b0
                                          try clear c77b1
                                          try clear c78
                                          try clear c83
                                          try clear c84
                                          try clear c84b0
                                          try clear c84b1
                                          try clear c84b2
                                          try clear c85
                                          try clear c85b0
                                          try clear c85b1
                                          try clear c88
                                          try clear c89
                                          try clear c89b0
                                          try clear c92
                                          try clear c92b0
                                          try clear c93
                                          try clear c93b0
                                          try clear c94
                                          try clear c94b0
                                          try clear hx251_0
                                          try clear hx251_1
                                          try clear hx251_2
                                          try clear hx252_0
                                          try clear hx252_1
                                          try clear hx252_2
                                          try clear hx253_0
                                          try clear hx253_1
                                          try clear hx253_2
                                          try clear hx254_0
                                          try clear hx254_1
                                          try clear hx254_2
                                          try clear hx255_0
                                          try clear hx255_1
                                          try clear hx255_2
                                          try clear hx256_0
                                          try clear hx256_1
                                          try clear hx256_2
                                          try clear hx257_0
                                          try clear hx257_1
                                          try clear hx257_2
                                          try clear hx258_0
                                          try clear hx258_1
                                          try clear hx258_2
                                          try clear hx259_0
                                          try clear hx259_1
                                          try clear hx259_2
                                          try clear hx260_0
                                          try clear hx260_1
                                          try clear hx260_2
                                          try clear hx263_0
                                          try clear hx263_1
                                          try clear hx263_2
                                          try clear hx268_0
                                          try clear hx271_0
                                          try clear hx272_0
                                          try clear hx272_1
                                          try clear hx272_2
                                          try clear hx273_0
                                          try clear hx274_0
                                          try clear hx274_1
                                          try clear hx274_2
                                          try clear p2
                                          try clear p25
                                          try clear p251
                                          try clear p252
                                          try clear p253
                                          try clear p254
                                          try clear p255
                                          try clear p256
                                          try clear p257
                                          try clear p258
                                          try clear p259
                                          try clear p26
                                          try clear p260
                                          try clear p263
                                          try clear p268
                                          try clear p271
                                          try clear p272
                                          try clear p273
                                          try clear p274
                                          try clear p6
                                          try clear p64
                                          try clear q2
                                          try clear q25
                                          try clear q251
                                          try clear q252
                                          try clear q253
                                          try clear q254
                                          try clear q255
                                          try clear q256
                                          try clear q257
                                          try clear q258
                                          try clear q259
                                          try clear q26
                                          try clear q260
                                          try clear q263
                                          try clear q268
                                          try clear q271
                                          try clear q272
                                          try clear q273
                                          try clear q274
                                          obtain ⟨kq, x242_89, rfl, HA, HJ89, HO_3, HO_6, HO_15, HB⟩ := hcut
                                          cases kq with
                                          | zero => exact absurd HA.out (by simp [laws_FnProfiles.j6])
                                          | succ kj89 =>
                                            have H := HA.out
                                            clear HA
                                            simp only [laws_FnProfiles.j6] at H
                                            by_cases c95 : x242_89 = true
                                            · subst c95
                                              have H1 : (some false) = some r := by rw [if_pos rfl] at H; exact H
                                              clear H
                                              have H := H1
                                              clear H1
                                              obtain rfl := Option.some.inj H
                                              go_wp2
                                              repeat (go_quiet (fail); try go_wp2)
                                              go_ret
                                              exact ⟨by first | rfl | (simp [errW_none, errW_some] <;> rfl) | (simp [*, errW_none, errW_some] <;> rfl), by repeat (first | (with_reducible first | exact HB.out | apply below_alloc | apply pw_below_drewN | apply below_drew1) | exact HB.out)⟩
                                            · replace c95 := Bool.eq_false_iff.mpr c95
                                              subst c95
                                              have H1 : (if x17_6 > 0 then (if 0 ≤ x17_6 then (if x17_6 < (t235.length : Int) then (if 0 ≤ (wrap64 (x17_6 - 1)) then (if (wrap64 (x17_6 - 1)) < (t235.length : Int) then (if x17_6 < (x15_78.length : Int) then (if (wrap64 (x17_6 - 1)) < (x15_78.length : Int) then (if (wrap64 ((rd x15_78 x17_6) - (rd x15_78 (wrap64 (x17_6 - 1))))) > (wrap64 ((Int.tmod t238 8) * (wrap64 (((rd_T41 t235 x17_6).f0) - ((rd_T41 t235 (wrap64 (x17_6 - 1))).f0))))) then (some false) else (if (wrap64 ((rd x15_78 (wrap64 (x17_6 - 1))) - (rd x15_78 x17_6))) > (wrap64 ((Int.tmod t239 8) * (wrap64 (((rd_T41 t235 x17_6).f0) - ((rd_T41 t235 (wrap64 (x17_6 - 1))).f0))))) then (some false) else (laws_FnProfiles.l1 kj89 t235 (Int.tmod t238 8) (Int.tmod t239 8) t240 x15_78 (wrap64 (x17_6 + 1))))) else (none)) else (none)) else (none)) else (none)) else (none)) else (none)) else (laws_FnProfiles.l1 kj89 t235 (Int.tmod t238 8) (Int.tmod t239 8) t240 x15_78 (wrap64 (x17_6 + 1)))) = some r := by rw [if_neg (show ¬ (false = true) by decide)] at H; exact H
                                              clear H
                                              have H := H1
                                              clear H1
                                              by_cases c96 : x17_6 > 0
                                              · rw [if_pos c96] at H
                                                have c96b0 : decide (0 < x17_6) = true := decide_eq_true c96
                                                clear c96
                                                by_cases c97 : 0 ≤ x17_6
                                                · rw [if_pos c97] at H
                                                  have c97b0 : decide (0 ≤ x17_6) = true := decide_eq_true c97
                                                  clear c97
                                                  by_cases c98 : x17_6 < (t235.length : Int)
                                                  · rw [if_pos c98] at H
                                                    have c98b0 : decide (x17_6 < (t235.length : Int)) = true := decide_eq_true c98
                                                    clear c98
                                                    obtain ⟨ji99, hji99⟩ : ∃ j_ : Int, (wrap64 (x17_6 - 1)) = j_ := ⟨_, rfl⟩
                                                    replace H : (if 0 ≤ (ji99) then (if (ji99) < (t235.length : Int) then (if x17_6 < (x15_78.length : Int) then (if (ji99) < (x15_78.length : Int) then (if (wrap64 ((rd x15_78 x17_6) - (rd x15_78 (ji99)))) > (wrap64 ((Int.tmod t238 8) * (wrap64 (((rd_T41 t235 x17_6).f0) - ((rd_T41 t235 (ji99)).f0))))) then (some false) else (if (wrap64 ((rd x15_78 (ji99)) - (rd x15_78 x17_6))) > (wrap64 ((Int.tmod t239 8) * (wrap64 (((rd_T41 t235 x17_6).f0) - ((rd_T41 t235 (ji99)).f0))))) then (some false) else (laws_FnProfiles.l1 kj89 t235 (Int.tmod t238 8) (Int.tmod t239 8) t240 x15_78 (wrap64 (x17_6 + 1))))) else (none)) else (none)) else (none)) else (none)) = some r := by first | (rw [hji99] at H; exact H) | (simp only [hji99] at H ⊢; exact H)
                                                    have hji99w : (IntKind.i64.wrap (x17_6 - 1)) = ji99 := (i64_w _).trans hji99
                                                    by_cases c100 : 0 ≤ (ji99)
                                                    · rw [if_pos c100] at H
                                                      have c100b0 : decide (0 ≤ (ji99)) = true := decide_eq_true c100
                                                      clear c100
                                                      by_cases c101 : (ji99) < (t235.length : Int)
                                                      · rw [if_pos c101] at H
                                                        have c101b0 : decide ((ji99) < (t235.length : Int)) = true := decide_eq_true c101
                                                        clear c101
                                                        by_cases c102 : x17_6 < (x15_78.length : Int)
                                                        · rw [if_pos c102] at H
                                                          have c102b0 : decide (x17_6 < (x15_78.length : Int)) = true := decide_eq_true c102
                                                          clear c102
                                                          by_cases c103 : (ji99) < (x15_78.length : Int)
                                                          · rw [if_pos c103] at H
                                                            have c103b0 : decide ((ji99) < (x15_78.length : Int)) = true := decide_eq_true c103
                                                            clear c103
                                                            by_cases c104 : (wrap64 ((rd x15_78 x17_6) - (rd x15_78 (ji99)))) > (wrap64 ((Int.tmod t238 8) * (wrap64 (((rd_T41 t235 x17_6).f0) - ((rd_T41 t235 (ji99)).f0)))))
                                                            · rw [if_pos c104] at H
                                                              have c104b0 : decide ((wrap64 ((Int.tmod t238 8) * (wrap64 (((rd_T41 t235 x17_6).f0) - ((rd_T41 t235 (ji99)).f0))))) < (wrap64 ((rd x15_78 x17_6) - (rd x15_78 (ji99))))) = true := decide_eq_true c104
                                                              clear c104
                                                              obtain rfl := Option.some.inj H
                                                              have p275 : 0 ≤ (x17_6 : Int) := of_decide_eq_true (by first | (with_reducible assumption) | assumption)
                                                              have q275 : x17_6 < (t235.length : Int) := of_decide_eq_true (by first | (with_reducible assumption) | assumption)
                                                              obtain ⟨ad275, e275, hx275_0, hx275_1, hx275_2⟩ := at_T41 (Kd.R_reads' HO_3.out).2.2 x17_6 p275 q275
                                                              cases e275
                                                              replace p275 := eq_true p275
                                                              replace q275 := eq_true q275
                                                              have p276 : 0 ≤ ((ji99) : Int) := of_decide_eq_true (by first | (with_reducible assumption) | assumption)
                                                              have q276 : (ji99) < (t235.length : Int) := of_decide_eq_true (by first | (with_reducible assumption) | assumption)
                                                              obtain ⟨ad276, e276, hx276_0, hx276_1, hx276_2⟩ := at_T41 (Kd.R_reads' HO_3.out).2.2 (ji99) p276 q276
                                                              obtain rfl : ad275 = ad276 := (by injection e276)
                                                              replace p276 := eq_true p276
                                                              replace q276 := eq_true q276
                                                              have p277 : 0 ≤ (x17_6 : Int) := of_decide_eq_true (by first | (with_reducible assumption) | assumption)
                                                              have q277 : x17_6 < (x15_78.length : Int) := of_decide_eq_true (by first | (with_reducible assumption) | assumption)
                                                              obtain ⟨ad277, e277, hx277_0⟩ := Kd.at_int (Kd.R_reads' HO_15.out).2.2 x17_6 p277 q277
                                                              cases e277
                                                              replace p277 := eq_true p277
                                                              replace q277 := eq_true q277
                                                              have p278 : 0 ≤ ((ji99) : Int) := of_decide_eq_true (by first | (with_reducible assumption) | assumption)
                                                              have q278 : (ji99) < (x15_78.length : Int) := of_decide_eq_true (by first | (with_reducible assumption) | assumption)
                                                              obtain ⟨ad278, e278, hx278_0⟩ := Kd.at_int (Kd.R_reads' HO_15.out).2.2 (ji99) p278 q278
                                                              obtain rfl : ad277 = ad278 := (by injection e278)
                                                              replace p278 := eq_true p278
                                                              replace q278 := eq_true q278
                                                              go_wp2
                                                              repeat (go_quiet (fail); try go_wp2)
                                                              go_ret
                                                              exact ⟨by first | rfl | (simp [errW_none, errW_some] <;> rfl) | (simp only [← hji99]; first | rfl | (simp [errW_none, errW_some] <;> rfl)) | (simp [*, errW_none, errW_some] <;> rfl), by repeat (first | (with_reducible first | exact HB.out | apply below_alloc | apply pw_below_drewN | apply below_drew1) | exact HB.out)⟩
                                                            · rw [if_neg c104] at H
                                                              have c104b0 : decide ((wrap64 ((Int.tmod t238 8) * (wrap64 (((rd_T41 t235 x17_6).f0) - ((rd_T41 t235 (ji99)).f0))))) < (wrap64 ((rd x15_78 x17_6) - (rd x15_78 (ji99))))) = false := decide_eq_false c104
                                                              clear c104
                                                              by_cases c105 : (wrap64 ((rd x15_78 (ji99)) - (rd x15_78 x17_6))) > (wrap64 ((Int.tmod t239 8) * (wrap64 (((rd_T41 t235 x17_6).f0) - ((rd_T41 t235 (ji99)).f0)))))
                                                              · rw [if_pos c105] at H
                                                                have c105b0 : decide ((wrap64 ((Int.tmod t239 8) * (wrap64 (((rd_T41 t235 x17_6).f0) - ((rd_T41 t235 (ji99)).f0))))) < (wrap64 ((rd x15_78 (ji99)) - (rd x15_78 x17_6)))) = true := decide_eq_true c105
                                                                clear c105
                                                                obtain rfl := Option.some.inj H
                                                                have p275 : 0 ≤ (x17_6 : Int) := of_decide_eq_true (by first | (with_reducible assumption) | assumption)
                                                                have q275 : x17_6 < (t235.length : Int) := of_decide_eq_true (by first | (with_reducible assumption) | assumption)
                                                                obtain ⟨ad275, e275, hx275_0, hx275_1, hx275_2⟩ := at_T41 (Kd.R_reads' HO_3.out).2.2 x17_6 p275 q275
                                                                cases e275
                                                                replace p275 := eq_true p275
                                                                replace q275 := eq_true q275
                                                                have p276 : 0 ≤ ((ji99) : Int) := of_decide_eq_true (by first | (with_reducible assumption) | assumption)
                                                                have q276 : (ji99) < (t235.length : Int) := of_decide_eq_true (by first | (with_reducible assumption) | assumption)
                                                                obtain ⟨ad276, e276, hx276_0, hx276_1, hx276_2⟩ := at_T41 (Kd.R_reads' HO_3.out).2.2 (ji99) p276 q276
                                                                obtain rfl : ad275 = ad276 := (by injection e276)
                                                                replace p276 := eq_true p276
                                                                replace q276 := eq_true q276
                                                                have p277 : 0 ≤ (x17_6 : Int) := of_decide_eq_true (by first | (with_reducible assumption) | assumption)
                                                                have q277 : x17_6 < (x15_78.length : Int) := of_decide_eq_true (by first | (with_reducible assumption) | assumption)
                                                                obtain ⟨ad277, e277, hx277_0⟩ := Kd.at_int (Kd.R_reads' HO_15.out).2.2 x17_6 p277 q277
                                                                cases e277
                                                                replace p277 := eq_true p277
                                                                replace q277 := eq_true q277
                                                                have p278 : 0 ≤ ((ji99) : Int) := of_decide_eq_true (by first | (with_reducible assumption) | assumption)
                                                                have q278 : (ji99) < (x15_78.length : Int) := of_decide_eq_true (by first | (with_reducible assumption) | assumption)
                                                                obtain ⟨ad278, e278, hx278_0⟩ := Kd.at_int (Kd.R_reads' HO_15.out).2.2 (ji99) p278 q278
                                                                obtain rfl : ad277 = ad278 := (by injection e278)
                                                                replace p278 := eq_true p278
                                                                replace q278 := eq_true q278
                                                                have p279 : 0 ≤ ((ji99) : Int) := of_decide_eq_true (by first | (with_reducible assumption) | assumption)
                                                                have q279 : (ji99) < (x15_78.length : Int) := of_decide_eq_true (by first | (with_reducible assumption) | assumption)
                                                                obtain ⟨ad279, e279, hx279_0⟩ := Kd.at_int (Kd.R_reads' HO_15.out).2.2 (ji99) p279 q279
                                                                obtain rfl : ad277 = ad279 := (by injection e279)
                                                                replace p279 := eq_true p279
                                                                replace q279 := eq_true q279
                                                                have p280 : 0 ≤ (x17_6 : Int) := of_decide_eq_true (by first | (with_reducible assumption) | assumption)
                                                                have q280 : x17_6 < (x15_78.length : Int) := of_decide_eq_true (by first | (with_reducible assumption) | assumption)
                                                                obtain ⟨ad280, e280, hx280_0⟩ := Kd.at_int (Kd.R_reads' HO_15.out).2.2 x17_6 p280 q280
                                                                obtain rfl : ad277 = ad280 := (by injection e280)
                                                                replace p280 := eq_true p280
                                                                replace q280 := eq_true q280
                                                                go_wp2
                                                                repeat (go_quiet (fail); try go_wp2)
                                                                go_ret
                                                                exact ⟨by first | rfl | (simp [errW_none, errW_some] <;> rfl) | (simp only [← hji99]; first | rfl | (simp [errW_none, errW_some] <;> rfl)) | (simp [*, errW_none, errW_some] <;> rfl), by repeat (first | (with_reducible first | exact HB.out | apply below_alloc | apply pw_below_drewN | apply below_drew1) | exact HB.out)⟩
                                                              · rw [if_neg c105] at H
                                                                have c105b0 : decide ((wrap64 ((Int.tmod t239 8) * (wrap64 (((rd_T41 t235 x17_6).f0) - ((rd_T41 t235 (ji99)).f0))))) < (wrap64 ((rd x15_78 (ji99)) - (rd x15_78 x17_6)))) = false := decide_eq_false c105
                                                                clear c105
                                                                have H' := Aside0.mk H
                                                                clear H
                                                                have p275 : 0 ≤ (x17_6 : Int) := of_decide_eq_true (by first | (with_reducible assumption) | assumption)
                                                                have q275 : x17_6 < (t235.length : Int) := of_decide_eq_true (by first | (with_reducible assumption) | assumption)
                                                                obtain ⟨ad275, e275, hx275_0, hx275_1, hx275_2⟩ := at_T41 (Kd.R_reads' HO_3.out).2.2 x17_6 p275 q275
                                                                cases e275
                                                                replace p275 := eq_true p275
                                                                replace q275 := eq_true q275
                                                                have p276 : 0 ≤ ((ji99) : Int) := of_decide_eq_true (by first | (with_reducible assumption) | assumption)
                                                                have q276 : (ji99) < (t235.length : Int) := of_decide_eq_true (by first | (with_reducible assumption) | assumption)
                                                                obtain ⟨ad276, e276, hx276_0, hx276_1, hx276_2⟩ := at_T41 (Kd.R_reads' HO_3.out).2.2 (ji99) p276 q276
                                                                obtain rfl : ad275 = ad276 := (by injection e276)
                                                                replace p276 := eq_true p276
                                                                replace q276 := eq_true q276
                                                                have p277 : 0 ≤ (x17_6 : Int) := of_decide_eq_true (by first | (with_reducible assumption) | assumption)
                                                                have q277 : x17_6 < (x15_78.length : Int) := of_decide_eq_true (by first | (with_reducible assumption) | assumption)
                                                                obtain ⟨ad277, e277, hx277_0⟩ := Kd.at_int (Kd.R_reads' HO_15.out).2.2 x17_6 p277 q277
                                                                cases e277
                                                                replace p277 := eq_true p277
                                                                replace q277 := eq_true q277
                                                                have p278 : 0 ≤ ((ji99) : Int) := of_decide_eq_true (by first | (with_reducible assumption) | assumption)
                                                                have q278 : (ji99) < (x15_78.length : Int) := of_decide_eq_true (by first | (with_reducible assumption) | assumption)
                                                                obtain ⟨ad278, e278, hx278_0⟩ := Kd.at_int (Kd.R_reads' HO_15.out).2.2 (ji99) p278 q278
                                                                obtain rfl : ad277 = ad278 := (by injection e278)
                                                                replace p278 := eq_true p278
                                                                replace q278 := eq_true q278
                                                                have p279 : 0 ≤ ((ji99) : Int) := of_decide_eq_true (by first | (with_reducible assumption) | assumption)
                                                                have q279 : (ji99) < (x15_78.length : Int) := of_decide_eq_true (by first | (with_reducible assumption) | assumption)
                                                                obtain ⟨ad279, e279, hx279_0⟩ := Kd.at_int (Kd.R_reads' HO_15.out).2.2 (ji99) p279 q279
                                                                obtain rfl : ad277 = ad279 := (by injection e279)
                                                                replace p279 := eq_true p279
                                                                replace q279 := eq_true q279
                                                                have p280 : 0 ≤ (x17_6 : Int) := of_decide_eq_true (by first | (with_reducible assumption) | assumption)
                                                                have q280 : x17_6 < (x15_78.length : Int) := of_decide_eq_true (by first | (with_reducible assumption) | assumption)
                                                                obtain ⟨ad280, e280, hx280_0⟩ := Kd.at_int (Kd.R_reads' HO_15.out).2.2 x17_6 p280 q280
                                                                obtain rfl : ad277 = ad280 := (by injection e280)
                                                                replace p280 := eq_true p280
                                                                replace q280 := eq_true q280
                                                                go_wp2
                                                                repeat (go_quiet (fail); try go_wp2)
                                                                go_roundg kj89
                                                                case measure => have := HJ13.out; have := HK2.out; have := HJ71.out; have := HJ78.out; have := HJ81.out; have := HK6.out; have := HJ89.out; omega
                                                                case rel => exact ⟨(wrap64 (x17_6 + 1)), (by first | rfl | (simp; done) | (simp [*]; done)), H', ⟨by have := HJ13.out; have := HK2.out; have := HJ71.out; have := HJ78.out; have := HJ81.out; have := HK6.out; have := HJ89.out; omega⟩, ⟨by (with_reducible repeat (first | apply Kd.R_alloc | apply Kd.R_drewN | apply Kd.R_drew)); exact HO_3.out⟩, ⟨by (with_reducible repeat (first | apply Kd.R_alloc | apply Kd.R_drewN | apply Kd.R_drew)); exact HO_6.out⟩, ⟨by (with_reducible repeat (first | apply Kd.R_alloc | apply Kd.R_drewN | apply Kd.R_drew)); exact HO_15.out⟩, ⟨by repeat (first | (with_reducible first | exact HB.out | apply below_alloc | apply pw_below_drewN | apply below_drew1) | exact HB.out)⟩⟩
                                                          · rw [if_neg c103] at H
                                                            exact absurd H (by simp)
                                                        · rw [if_neg c102] at H
                                                          exact absurd H (by simp)
                                                      · rw [if_neg c101] at H
                                                        exact absurd H (by simp)
                                                    · rw [if_neg c100] at H
                                                      exact absurd H (by simp)
                                                  · rw [if_neg c98] at H
                                                    exact absurd H (by simp)
                                                · rw [if_neg c97] at H
                                                  exact absurd H (by simp)
                                              · rw [if_neg c96] at H
                                                have c96b0 : decide (0 < x17_6) = false := decide_eq_false c96
                                                clear c96
                                                have H' := Aside0.mk H
                                                clear H
                                                go_wp2
                                                repeat (go_quiet (fail); try go_wp2)
                                                go_roundg kj89
                                                case measure => have := HJ13.out; have := HK2.out; have := HJ71.out; have := HJ78.out; have := HJ81.out; have := HK6.out; have := HJ89.out; omega
                                                case rel => exact ⟨(wrap64 (x17_6 + 1)), (by first | rfl | (simp; done) | (simp [*]; done)), H', ⟨by have := HJ13.out; have := HK2.out; have := HJ71.out; have := HJ78.out; have := HJ81.out; have := HK6.out; have := HJ89.out; omega⟩, ⟨by (with_reducible repeat (first | apply Kd.R_alloc | apply Kd.R_drewN | apply Kd.R_drew)); exact HO_3.out⟩, ⟨by (with_reducible repeat (first | apply Kd.R_alloc | apply Kd.R_drewN | apply Kd.R_drew)); exact HO_6.out⟩, ⟨by (with_reducible repeat (first | apply Kd.R_alloc | apply Kd.R_drewN | apply Kd.R_drew)); exact HO_15.out⟩, ⟨by repeat (first | (with_reducible first | exact HB.out | apply below_alloc | apply pw_below_drewN | apply below_drew1) | exact HB.out)⟩⟩
                                      · rw [if_neg c89] at H
                                        have c89b0 : decide (x17_6 < (x15_78.length : Int)) = false := decide_eq_false c89
                                        clear c89
                                        replace H := Option.bind_eq_some_iff.mp H
                                        obtain ⟨⟨t269, t270⟩, A1060, H⟩ := H
                                        replace H : (if t270 = true then (some (t269 == 12)) else (some false)) = some r := H
                                        have A106 := Aside0.mk A1060
                                        clear A1060
                                        by_cases c107 : t270 = true
                                        · subst c107
                                          have H1 : (some (t269 == 12)) = some r := by rw [if_pos rfl] at H; exact H
                                          clear H
                                          have H := H1
                                          clear H1
                                          obtain rfl := Option.some.inj H
                                          obtain ⟨Ao108, co108, eo108⟩ := Kd.R_slice HO_15.out
                                          subst eo108
                                          go_wp2_with (first | (go_at_call 10; (with_reducible refine (impl_Descent.calls 30 4 20 t269 true _ A106.out).mono ?_); rintro e w' ⟨rfl, ⟨nd, rfl⟩⟩; (try first | exact ⟨rfl, _, World.drewN_drewN _ _ _⟩ | exact ⟨rfl, _, Eq.trans (World.drewN_drewN _ _ _) (congrArg (World.drewN _) (Nat.add_assoc _ _ _))⟩)))
                                          repeat (go_quiet (first | (go_at_call 10; (with_reducible refine (impl_Descent.calls 30 4 20 t269 true _ A106.out).mono ?_); rintro e w' ⟨rfl, ⟨nd, rfl⟩⟩; (try first | exact ⟨rfl, _, World.drewN_drewN _ _ _⟩ | exact ⟨rfl, _, Eq.trans (World.drewN_drewN _ _ _) (congrArg (World.drewN _) (Nat.add_assoc _ _ _))⟩))); try go_wp2_with (first | (go_at_call 10; (with_reducible refine (impl_Descent.calls 30 4 20 t269 true _ A106.out).mono ?_); rintro e w' ⟨rfl, ⟨nd, rfl⟩⟩; (try first | exact ⟨rfl, _, World.drewN_drewN _ _ _⟩ | exact ⟨rfl, _, Eq.trans (World.drewN_drewN _ _ _) (congrArg (World.drewN _) (Nat.add_assoc _ _ _))⟩))))
                                          go_ret
                                          exact ⟨by first | rfl | (simp [errW_none, errW_some] <;> rfl) | (simp [*, errW_none, errW_some] <;> rfl), by repeat (first | (with_reducible first | exact HB.out | apply below_alloc | apply pw_below_drewN | apply below_drew1) | exact HB.out)⟩
                                        · replace c107 := Bool.eq_false_iff.mpr c107
                                          subst c107
                                          have H1 : (some false) = some r := by rw [if_neg (show ¬ (false = true) by decide)] at H; exact H
                                          clear H
                                          have H := H1
                                          clear H1
                                          obtain rfl := Option.some.inj H
                                          obtain ⟨Ao109, co109, eo109⟩ := Kd.R_slice HO_15.out
                                          subst eo109
                                          go_wp2_with (first | (go_at_call 10; (with_reducible refine (impl_Descent.calls 30 4 20 t269 false _ A106.out).mono ?_); rintro e w' ⟨rfl, ⟨nd, rfl⟩⟩; (try first | exact ⟨rfl, _, World.drewN_drewN _ _ _⟩ | exact ⟨rfl, _, Eq.trans (World.drewN_drewN _ _ _) (congrArg (World.drewN _) (Nat.add_assoc _ _ _))⟩)))
                                          repeat (go_quiet (first | (go_at_call 10; (with_reducible refine (impl_Descent.calls 30 4 20 t269 false _ A106.out).mono ?_); rintro e w' ⟨rfl, ⟨nd, rfl⟩⟩; (try first | exact ⟨rfl, _, World.drewN_drewN _ _ _⟩ | exact ⟨rfl, _, Eq.trans (World.drewN_drewN _ _ _) (congrArg (World.drewN _) (Nat.add_assoc _ _ _))⟩))); try go_wp2_with (first | (go_at_call 10; (with_reducible refine (impl_Descent.calls 30 4 20 t269 false _ A106.out).mono ?_); rintro e w' ⟨rfl, ⟨nd, rfl⟩⟩; (try first | exact ⟨rfl, _, World.drewN_drewN _ _ _⟩ | exact ⟨rfl, _, Eq.trans (World.drewN_drewN _ _ _) (congrArg (World.drewN _) (Nat.add_assoc _ _ _))⟩))))
                                          go_ret
                                          exact ⟨by first | rfl | (simp [errW_none, errW_some] <;> rfl) | (simp [*, errW_none, errW_some] <;> rfl), by repeat (first | (with_reducible first | exact HB.out | apply below_alloc | apply pw_below_drewN | apply below_drew1) | exact HB.out)⟩
                      · replace c78 := Bool.eq_false_iff.mpr c78
                        subst c78
                        have H1 : (some true) = some r := by rw [if_neg (show ¬ (false = true) by decide)] at H; exact H
                        clear H
                        have H := H1
                        clear H1
                        obtain rfl := Option.some.inj H
                        go_wp2
                        repeat (go_quiet (fail); try go_wp2)
                        go_ret
                        exact ⟨by first | rfl | (simp [errW_none, errW_some] <;> rfl) | (simp [*, errW_none, errW_some] <;> rfl), by repeat (first | (with_reducible first | exact HB.out | apply below_alloc | apply pw_below_drewN | apply below_drew1) | exact HB.out)⟩

/-- THE ONE PURE STATEMENT of laws_FnProfiles: yours. -/
def laws_FnProfiles.Pure : Prop := ∀ (l0 : List Int), l0.length ≤ maxLen → l0.length * 1 ≤ 140737488351232 → (∀ x ∈ l0, (Lit.int .u8 x).wf = true) → ∃ k, laws_FnProfiles.f k l0 = some true
theorem laws_FnProfiles.walk (P : laws_FnProfiles.Pure) (a0 : Option Addr) (len0 cap0 : Nat) (z0 : List Int) (w : World) (w0 : (a0 = none ∧ len0 = 0 ∧ cap0 = 0 ∧ z0 = []) ∨ ∃ x, a0 = some x ∧ len0 ≤ cap0 ∧ cap0 ≤ maxLen ∧ z0.length = cap0 ∧ (∀ i, i < z0.length → w.cell? (x.add i) = some (.int .u8 (z0.getD i 0))) ∧ ∀ n ∈ z0, (Lit.int .u8 n).wf = true) (y0 : len0 * 1 ≤ 140737488351232) :
    Calls Try.prog 6 #[.slice a0 len0 cap0] w fun e w' => e = .returned (.bool true) ∧ Below w.heap.size w w' := by
  obtain ⟨l0, rfl, hr0, hm0, hw0, hc0⟩ := ReadsInt.ofRowC w0
  obtain ⟨k, h⟩ := P l0 hm0 y0 hw0
  refine (laws_FnProfiles.calls k _ _ l0 true w (Kd.C_of_reads (d := (0 : Int)) (h1 := fun _ => rfl) hr0) hc0 h).mono ?_
  rintro e w' ⟨rfl, hd⟩
  exact ⟨rfl, hd⟩

end Go.Proofs.Ytoooikhkapaokaa.PFnProfiles
