/- Walks of the functions named below, by a program of the session over the kit's printer. -/
import Derived.Test.YtdodiflcmjbfdaaPFnTurnedx0
import Derived.Test.YtdodiflcmjbfdaaPFnTurnedx1
import Derived.Test.YtdodiflcmjbfdaaPFnTurnedx3
import Derived.Test.YtdodiflcmjbfdaaPFnTurnedx8
namespace Go.Proofs.Ytdodiflcmjbfdaa.PFnTurned
open Go.RowKit Go.Proofs.YtdodiflcmjbfdaaW.PrintWords Go.Proofs.YtdodiflcmjbfdaaW.PrintLast Go.Proofs.YtdodiflcmjbfdaaW.PrintMore
attribute [local go_sem] max2_int min2_int max_two min_two max_three min_three max_four min_four   -- for this text's walks alone
set_option linter.unusedVariables false
set_option linter.unusedSimpArgs false
abbrev t9 : Bool := true
abbrev f9 : Bool := false

/-! ### laws_FnTurned: function 6 -/
mutual
def laws_FnTurned.j0 : Nat → Int → Int → Bool → Int → Int → Int → Int → Int → Int → Int → Int → Bool → Option (Bool)
 | 0, _, _, _, _, _, _, _, _, _, _, _, _ => none
 | k + 1, x3, x4, x54, x291000, x291001, x291002, x291003, x291004, x291005, x291006, x291007, x291008 => if x54 = true then (some false) else (if 60 ≤ 35184372088832 then ((impl_Ticks.f k x291000 x291001 x291002 x291003 x291004 x291005 x291006 x291007 false (List.replicate 60 0)).bind fun bt314 => (if bt314.2 = true then (if (bt314.1.length : Int) = 60 then (if 59 < (bt314.1.length : Int) then (laws_FnTurned.j1 k x3 x4 bt314.1 (((rd_T25 bt314.1 59).f5) != x4) x291000 x291001 x291002 x291003 x291004 x291005 x291006 x291007 false) else (none)) else (laws_FnTurned.j1 k x3 x4 bt314.1 true x291000 x291001 x291002 x291003 x291004 x291005 x291006 x291007 false)) else (laws_FnTurned.j1 k x3 x4 bt314.1 true x291000 x291001 x291002 x291003 x291004 x291005 x291006 x291007 false))) else (none))
def laws_FnTurned.j1 : Nat → Int → Int → List (S25) → Bool → Int → Int → Int → Int → Int → Int → Int → Int → Bool → Option (Bool)
 | 0, _, _, _, _, _, _, _, _, _, _, _, _, _ => none
 | k + 1, x3, x4, x8, x76, x291000, x291001, x291002, x291003, x291004, x291005, x291006, x291007, x291008 => if x76 = true then (some false) else (if (Int.tmod (wrap64 ((wrap64 (x4 - x3)) + 360)) 360) > 180 then (if (wrap64 (Int.tdiv (wrap64 ((wrap64 (360 - (Int.tmod (wrap64 ((wrap64 (x4 - x3)) + 360)) 360))) + 2)) 3)) > 0 then (if (wrap64 (Int.tdiv (wrap64 ((wrap64 (360 - (Int.tmod (wrap64 ((wrap64 (x4 - x3)) + 360)) 360))) + 2)) 3)) < 60 then (if 0 ≤ (wrap64 ((wrap64 (Int.tdiv (wrap64 ((wrap64 (360 - (Int.tmod (wrap64 ((wrap64 (x4 - x3)) + 360)) 360))) + 2)) 3)) - 1)) then (if (wrap64 ((wrap64 (Int.tdiv (wrap64 ((wrap64 (360 - (Int.tmod (wrap64 ((wrap64 (x4 - x3)) + 360)) 360))) + 2)) 3)) - 1)) < (x8.length : Int) then (laws_FnTurned.j2 k (((rd_T25 x8 (wrap64 ((wrap64 (Int.tdiv (wrap64 ((wrap64 (360 - (Int.tmod (wrap64 ((wrap64 (x4 - x3)) + 360)) 360))) + 2)) 3)) - 1))).f5) != x4) x291000 x291001 x291002 x291003 x291004 x291005 x291006 x291007 x291008) else (none)) else (none)) else (laws_FnTurned.j2 k false x291000 x291001 x291002 x291003 x291004 x291005 x291006 x291007 x291008)) else (laws_FnTurned.j2 k false x291000 x291001 x291002 x291003 x291004 x291005 x291006 x291007 x291008)) else (if (wrap64 (Int.tdiv (wrap64 ((Int.tmod (wrap64 ((wrap64 (x4 - x3)) + 360)) 360) + 2)) 3)) > 0 then (if (wrap64 (Int.tdiv (wrap64 ((Int.tmod (wrap64 ((wrap64 (x4 - x3)) + 360)) 360) + 2)) 3)) < 60 then (if 0 ≤ (wrap64 ((wrap64 (Int.tdiv (wrap64 ((Int.tmod (wrap64 ((wrap64 (x4 - x3)) + 360)) 360) + 2)) 3)) - 1)) then (if (wrap64 ((wrap64 (Int.tdiv (wrap64 ((Int.tmod (wrap64 ((wrap64 (x4 - x3)) + 360)) 360) + 2)) 3)) - 1)) < (x8.length : Int) then (laws_FnTurned.j3 k (((rd_T25 x8 (wrap64 ((wrap64 (Int.tdiv (wrap64 ((Int.tmod (wrap64 ((wrap64 (x4 - x3)) + 360)) 360) + 2)) 3)) - 1))).f5) != x4) x291000 x291001 x291002 x291003 x291004 x291005 x291006 x291007 x291008) else (none)) else (none)) else (laws_FnTurned.j3 k false x291000 x291001 x291002 x291003 x291004 x291005 x291006 x291007 x291008)) else (laws_FnTurned.j3 k false x291000 x291001 x291002 x291003 x291004 x291005 x291006 x291007 x291008)))
def laws_FnTurned.j2 : Nat → Bool → Int → Int → Int → Int → Int → Int → Int → Int → Bool → Option (Bool)
 | 0, _, _, _, _, _, _, _, _, _, _ => none
 | k + 1, x104, x291000, x291001, x291002, x291003, x291004, x291005, x291006, x291007, x291008 => if x104 = true then (some false) else (if 20 ≤ 35184372088832 then ((impl_Ticks.f k x291000 x291001 x291002 x291003 x291004 x291005 x291006 x291007 true (List.replicate 20 0)).bind fun bt323 => (if bt323.2 = true then (if 0 < (bt323.1.length : Int) then (if ((rd_T25 bt323.1 0).f1) = 3 then (if ((rd_T25 bt323.1 0).f8 = true) then (some false) else (if 19 < (bt323.1.length : Int) then (if ((rd_T25 bt323.1 19).f1) = 2 then (some (((rd_T25 bt323.1 19).f7) == 0)) else (some false)) else (none))) else (some false)) else (none)) else (some false))) else (none))
def laws_FnTurned.j3 : Nat → Bool → Int → Int → Int → Int → Int → Int → Int → Int → Bool → Option (Bool)
 | 0, _, _, _, _, _, _, _, _, _, _ => none
 | k + 1, x104, x291000, x291001, x291002, x291003, x291004, x291005, x291006, x291007, x291008 => if x104 = true then (some false) else (if 20 ≤ 35184372088832 then ((impl_Ticks.f k x291000 x291001 x291002 x291003 x291004 x291005 x291006 x291007 true (List.replicate 20 0)).bind fun bt335 => (if bt335.2 = true then (if 0 < (bt335.1.length : Int) then (if ((rd_T25 bt335.1 0).f1) = 3 then (if ((rd_T25 bt335.1 0).f8 = true) then (some false) else (if 19 < (bt335.1.length : Int) then (if ((rd_T25 bt335.1 19).f1) = 2 then (some (((rd_T25 bt335.1 19).f7) == 0)) else (some false)) else (none))) else (some false)) else (none)) else (some false))) else (none))
end
def laws_FnTurned.f (k : Nat) (l0 : List Int) : Option (Bool) := (laws_big.f l0).bind fun t286 => (if t286 = true then (some true) else ((laws_at.f l0 0).bind fun t287 => ((laws_at.f l0 1).bind fun t288 => ((laws_at.f l0 2).bind fun t289 => ((impl_Press.f k 0 0 0 0 0 (Int.tmod (wrap64 (t287 * 3)) 360) 0 (wrap64 (40 + (Int.tmod t289 10))) false 4 (Int.tmod (wrap64 (t288 * 7)) 360)).bind fun bt291 => ((impl_Press.f k bt291.1 bt291.2.1 bt291.2.2.1 bt291.2.2.2.1 bt291.2.2.2.2.1 bt291.2.2.2.2.2.1 bt291.2.2.2.2.2.2.1 bt291.2.2.2.2.2.2.2.1 bt291.2.2.2.2.2.2.2.2.1 5 0).bind fun bt301 => (if bt291.2.2.2.2.2.2.2.2.2 = true then (if bt301.2.2.2.2.2.2.2.2.2 = true then (if bt301.2.1 = 1 then (laws_FnTurned.j0 k (Int.tmod (wrap64 (t287 * 3)) 360) (Int.tmod (wrap64 (t288 * 7)) 360) (!bt301.2.2.2.2.2.2.2.2.1) bt301.1 bt301.2.1 bt301.2.2.1 bt301.2.2.2.1 bt301.2.2.2.2.1 bt301.2.2.2.2.2.1 bt301.2.2.2.2.2.2.1 bt301.2.2.2.2.2.2.2.1 bt301.2.2.2.2.2.2.2.2.1) else (laws_FnTurned.j0 k (Int.tmod (wrap64 (t287 * 3)) 360) (Int.tmod (wrap64 (t288 * 7)) 360) true bt301.1 bt301.2.1 bt301.2.2.1 bt301.2.2.2.1 bt301.2.2.2.2.1 bt301.2.2.2.2.2.1 bt301.2.2.2.2.2.2.1 bt301.2.2.2.2.2.2.2.1 bt301.2.2.2.2.2.2.2.2.1)) else (laws_FnTurned.j0 k (Int.tmod (wrap64 (t287 * 3)) 360) (Int.tmod (wrap64 (t288 * 7)) 360) true bt301.1 bt301.2.1 bt301.2.2.1 bt301.2.2.2.1 bt301.2.2.2.2.1 bt301.2.2.2.2.2.1 bt301.2.2.2.2.2.2.1 bt301.2.2.2.2.2.2.2.1 bt301.2.2.2.2.2.2.2.2.1)) else (laws_FnTurned.j0 k (Int.tmod (wrap64 (t287 * 3)) 360) (Int.tmod (wrap64 (t288 * 7)) 360) true bt301.1 bt301.2.1 bt301.2.2.1 bt301.2.2.2.1 bt301.2.2.2.2.1 bt301.2.2.2.2.2.1 bt301.2.2.2.2.2.2.1 bt301.2.2.2.2.2.2.2.1 bt301.2.2.2.2.2.2.2.2.1))))))))
theorem laws_FnTurned.mono_l : ∀ k, (∀ y0 y1 y2 y3 y4 y5 y6 y7 y8 y9 y10 y11, LeO (laws_FnTurned.j0 k y0 y1 y2 y3 y4 y5 y6 y7 y8 y9 y10 y11) (laws_FnTurned.j0 (k + 1) y0 y1 y2 y3 y4 y5 y6 y7 y8 y9 y10 y11)) ∧ (∀ y0 y1 y2 y3 y4 y5 y6 y7 y8 y9 y10 y11 y12, LeO (laws_FnTurned.j1 k y0 y1 y2 y3 y4 y5 y6 y7 y8 y9 y10 y11 y12) (laws_FnTurned.j1 (k + 1) y0 y1 y2 y3 y4 y5 y6 y7 y8 y9 y10 y11 y12)) ∧ (∀ y0 y1 y2 y3 y4 y5 y6 y7 y8 y9, LeO (laws_FnTurned.j2 k y0 y1 y2 y3 y4 y5 y6 y7 y8 y9) (laws_FnTurned.j2 (k + 1) y0 y1 y2 y3 y4 y5 y6 y7 y8 y9)) ∧ (∀ y0 y1 y2 y3 y4 y5 y6 y7 y8 y9, LeO (laws_FnTurned.j3 k y0 y1 y2 y3 y4 y5 y6 y7 y8 y9) (laws_FnTurned.j3 (k + 1) y0 y1 y2 y3 y4 y5 y6 y7 y8 y9))
 | 0 => ⟨fun _ _ _ _ _ _ _ _ _ _ _ _ r h => by simp [laws_FnTurned.j0] at h, fun _ _ _ _ _ _ _ _ _ _ _ _ _ r h => by simp [laws_FnTurned.j1] at h, fun _ _ _ _ _ _ _ _ _ _ r h => by simp [laws_FnTurned.j2] at h, fun _ _ _ _ _ _ _ _ _ _ r h => by simp [laws_FnTurned.j3] at h⟩
 | k + 1 => by
  obtain ⟨ih0, ih1, ih2, ih3⟩ := laws_FnTurned.mono_l k
  refine ⟨?_, ?_, ?_, ?_⟩
  ·
   intro y0 y1 y2 y3 y4 y5 y6 y7 y8 y9 y10 y11
   unfold laws_FnTurned.j0
   repeat' first
   | (with_reducible exact ih0 _ _ _ _ _ _ _ _ _ _ _ _)
   | (with_reducible exact ih1 _ _ _ _ _ _ _ _ _ _ _ _ _)
   | (with_reducible exact ih2 _ _ _ _ _ _ _ _ _ _)
   | (with_reducible exact ih3 _ _ _ _ _ _ _ _ _ _)
   | (with_reducible exact impl_Press.mono _ _ _ _ _ _ _ _ _ _ _ _)
   | (with_reducible exact impl_Ticks.mono _ _ _ _ _ _ _ _ _ _ _)
   | (with_reducible exact LeO.refl _)
   | (with_reducible exact LeO.none _)
   | (with_reducible refine LeO.ite ?_ ?_)
   | (with_reducible refine LeO.bind ?_ (fun _ => ?_))
   | exact ih0 _ _ _ _ _ _ _ _ _ _ _ _
   | exact ih1 _ _ _ _ _ _ _ _ _ _ _ _ _
   | exact ih2 _ _ _ _ _ _ _ _ _ _
   | exact ih3 _ _ _ _ _ _ _ _ _ _
   | exact impl_Press.mono _ _ _ _ _ _ _ _ _ _ _ _
   | exact impl_Ticks.mono _ _ _ _ _ _ _ _ _ _ _
   | exact LeO.none _
   | refine LeO.ite ?_ ?_
   | refine LeO.bind ?_ (fun _ => ?_)
  ·
   intro y0 y1 y2 y3 y4 y5 y6 y7 y8 y9 y10 y11 y12
   unfold laws_FnTurned.j1
   repeat' first
   | (with_reducible exact ih0 _ _ _ _ _ _ _ _ _ _ _ _)
   | (with_reducible exact ih1 _ _ _ _ _ _ _ _ _ _ _ _ _)
   | (with_reducible exact ih2 _ _ _ _ _ _ _ _ _ _)
   | (with_reducible exact ih3 _ _ _ _ _ _ _ _ _ _)
   | (with_reducible exact impl_Press.mono _ _ _ _ _ _ _ _ _ _ _ _)
   | (with_reducible exact impl_Ticks.mono _ _ _ _ _ _ _ _ _ _ _)
   | (with_reducible exact LeO.refl _)
   | (with_reducible exact LeO.none _)
   | (with_reducible refine LeO.ite ?_ ?_)
   | (with_reducible refine LeO.bind ?_ (fun _ => ?_))
   | exact ih0 _ _ _ _ _ _ _ _ _ _ _ _
   | exact ih1 _ _ _ _ _ _ _ _ _ _ _ _ _
   | exact ih2 _ _ _ _ _ _ _ _ _ _
   | exact ih3 _ _ _ _ _ _ _ _ _ _
   | exact impl_Press.mono _ _ _ _ _ _ _ _ _ _ _ _
   | exact impl_Ticks.mono _ _ _ _ _ _ _ _ _ _ _
   | exact LeO.none _
   | refine LeO.ite ?_ ?_
   | refine LeO.bind ?_ (fun _ => ?_)
  ·
   intro y0 y1 y2 y3 y4 y5 y6 y7 y8 y9
   unfold laws_FnTurned.j2
   repeat' first
   | (with_reducible exact ih0 _ _ _ _ _ _ _ _ _ _ _ _)
   | (with_reducible exact ih1 _ _ _ _ _ _ _ _ _ _ _ _ _)
   | (with_reducible exact ih2 _ _ _ _ _ _ _ _ _ _)
   | (with_reducible exact ih3 _ _ _ _ _ _ _ _ _ _)
   | (with_reducible exact impl_Press.mono _ _ _ _ _ _ _ _ _ _ _ _)
   | (with_reducible exact impl_Ticks.mono _ _ _ _ _ _ _ _ _ _ _)
   | (with_reducible exact LeO.refl _)
   | (with_reducible exact LeO.none _)
   | (with_reducible refine LeO.ite ?_ ?_)
   | (with_reducible refine LeO.bind ?_ (fun _ => ?_))
   | exact ih0 _ _ _ _ _ _ _ _ _ _ _ _
   | exact ih1 _ _ _ _ _ _ _ _ _ _ _ _ _
   | exact ih2 _ _ _ _ _ _ _ _ _ _
   | exact ih3 _ _ _ _ _ _ _ _ _ _
   | exact impl_Press.mono _ _ _ _ _ _ _ _ _ _ _ _
   | exact impl_Ticks.mono _ _ _ _ _ _ _ _ _ _ _
   | exact LeO.none _
   | refine LeO.ite ?_ ?_
   | refine LeO.bind ?_ (fun _ => ?_)
  ·
   intro y0 y1 y2 y3 y4 y5 y6 y7 y8 y9
   unfold laws_FnTurned.j3
   repeat' first
   | (with_reducible exact ih0 _ _ _ _ _ _ _ _ _ _ _ _)
   | (with_reducible exact ih1 _ _ _ _ _ _ _ _ _ _ _ _ _)
   | (with_reducible exact ih2 _ _ _ _ _ _ _ _ _ _)
   | (with_reducible exact ih3 _ _ _ _ _ _ _ _ _ _)
   | (with_reducible exact impl_Press.mono _ _ _ _ _ _ _ _ _ _ _ _)
   | (with_reducible exact impl_Ticks.mono _ _ _ _ _ _ _ _ _ _ _)
   | (with_reducible exact LeO.refl _)
   | (with_reducible exact LeO.none _)
   | (with_reducible refine LeO.ite ?_ ?_)
   | (with_reducible refine LeO.bind ?_ (fun _ => ?_))
   | exact ih0 _ _ _ _ _ _ _ _ _ _ _ _
   | exact ih1 _ _ _ _ _ _ _ _ _ _ _ _ _
   | exact ih2 _ _ _ _ _ _ _ _ _ _
   | exact ih3 _ _ _ _ _ _ _ _ _ _
   | exact impl_Press.mono _ _ _ _ _ _ _ _ _ _ _ _
   | exact impl_Ticks.mono _ _ _ _ _ _ _ _ _ _ _
   | exact LeO.none _
   | refine LeO.ite ?_ ?_
   | refine LeO.bind ?_ (fun _ => ?_)
theorem laws_FnTurned.mono : ∀ a0 k, LeO (laws_FnTurned.f k a0) (laws_FnTurned.f (k + 1) a0) := by
 intro a0 k
 obtain ⟨ih0, ih1, ih2, ih3⟩ := laws_FnTurned.mono_l k
 unfold laws_FnTurned.f
 repeat' first
   | (with_reducible exact ih0 _ _ _ _ _ _ _ _ _ _ _ _)
   | (with_reducible exact ih1 _ _ _ _ _ _ _ _ _ _ _ _ _)
   | (with_reducible exact ih2 _ _ _ _ _ _ _ _ _ _)
   | (with_reducible exact ih3 _ _ _ _ _ _ _ _ _ _)
   | (with_reducible exact impl_Press.mono _ _ _ _ _ _ _ _ _ _ _ _)
   | (with_reducible exact impl_Ticks.mono _ _ _ _ _ _ _ _ _ _ _)
   | (with_reducible exact LeO.refl _)
   | (with_reducible exact LeO.none _)
   | (with_reducible refine LeO.ite ?_ ?_)
   | (with_reducible refine LeO.bind ?_ (fun _ => ?_))
   | exact ih0 _ _ _ _ _ _ _ _ _ _ _ _
   | exact ih1 _ _ _ _ _ _ _ _ _ _ _ _ _
   | exact ih2 _ _ _ _ _ _ _ _ _ _
   | exact ih3 _ _ _ _ _ _ _ _ _ _
   | exact impl_Press.mono _ _ _ _ _ _ _ _ _ _ _ _
   | exact impl_Ticks.mono _ _ _ _ _ _ _ _ _ _ _
   | exact LeO.none _
   | refine LeO.ite ?_ ?_
   | refine LeO.bind ?_ (fun _ => ?_)
def laws_FnTurned.T10 : Bool × List (List Nat × List Nat) := (true, [([], []), ([], []), ([0, 1], [0, 1]), ([2], [2]), ([3], [3]), ([3], [3]), ([4, 2, 0, 1, 2, 3, 4], [4]), ([5, 6, 0, 1, 2, 3, 4, 5, 6], [5])])
def laws_FnTurned.B10 : List Nat := [0, 0, 3, 7, 15, 15, 31, 127]
theorem laws_FnTurned.tab10 : rtab .any (opsOf Try.f6 10) = laws_FnTurned.T10 := by kernel_rfl
theorem laws_FnTurned.bits10 : waitsOk laws_FnTurned.T10.2 laws_FnTurned.B10 = true := by kernel_rfl
def laws_FnTurned.T20 : Bool × List (List Nat × List Nat) := (true, [([], []), ([], []), ([0, 1], [0, 1]), ([2], [2]), ([3], [3]), ([3], [3]), ([4, 2, 0, 1, 2, 3, 4], [4]), ([5, 6, 0, 1, 2, 3, 4, 5, 6], [5])])
def laws_FnTurned.B20 : List Nat := [0, 0, 3, 7, 15, 15, 31, 127]
theorem laws_FnTurned.tab20 : rtab .any (opsOf Try.f6 20) = laws_FnTurned.T20 := by kernel_rfl
theorem laws_FnTurned.bits20 : waitsOk laws_FnTurned.T20.2 laws_FnTurned.B20 = true := by kernel_rfl
set_option maxHeartbeats 8000000 in
set_option maxRecDepth 100000 in
theorem laws_FnTurned.calls (k : Nat) (A0 : Option Addr) (c0 : Nat) (l0 : List Int) (r : Bool) (w : World) (hr0 : Kd.C (Kd.int .u8) w A0 l0.length l0) (hc0 : l0.length ≤ c0) (h : laws_FnTurned.f k l0 = some r) :
  Calls Try.prog 6 #[.slice A0 l0.length c0] w fun e w' => e = .returned (.bool r) ∧ Below w.heap.size w w' := by
 have hu25 := Try.underlying25
 have HR0 := Aside0.mk hr0
 have HC0 := Aside0.mk hc0
 clear hr0 hc0
 have HB := Aside0.mk (Below.refl w.heap.size w)
 have H : ((laws_big.f l0).bind fun t286 => (if t286 = true then (some true) else ((laws_at.f l0 0).bind fun t287 => ((laws_at.f l0 1).bind fun t288 => ((laws_at.f l0 2).bind fun t289 => ((impl_Press.f k 0 0 0 0 0 (Int.tmod (wrap64 (t287 * 3)) 360) 0 (wrap64 (40 + (Int.tmod t289 10))) false 4 (Int.tmod (wrap64 (t288 * 7)) 360)).bind fun bt291 => ((impl_Press.f k bt291.1 bt291.2.1 bt291.2.2.1 bt291.2.2.2.1 bt291.2.2.2.2.1 bt291.2.2.2.2.2.1 bt291.2.2.2.2.2.2.1 bt291.2.2.2.2.2.2.2.1 bt291.2.2.2.2.2.2.2.2.1 5 0).bind fun bt301 => (if bt291.2.2.2.2.2.2.2.2.2 = true then (if bt301.2.2.2.2.2.2.2.2.2 = true then (if bt301.2.1 = 1 then (laws_FnTurned.j0 k (Int.tmod (wrap64 (t287 * 3)) 360) (Int.tmod (wrap64 (t288 * 7)) 360) (!bt301.2.2.2.2.2.2.2.2.1) bt301.1 bt301.2.1 bt301.2.2.1 bt301.2.2.2.1 bt301.2.2.2.2.1 bt301.2.2.2.2.2.1 bt301.2.2.2.2.2.2.1 bt301.2.2.2.2.2.2.2.1 bt301.2.2.2.2.2.2.2.2.1) else (laws_FnTurned.j0 k (Int.tmod (wrap64 (t287 * 3)) 360) (Int.tmod (wrap64 (t288 * 7)) 360) true bt301.1 bt301.2.1 bt301.2.2.1 bt301.2.2.2.1 bt301.2.2.2.2.1 bt301.2.2.2.2.2.1 bt301.2.2.2.2.2.2.1 bt301.2.2.2.2.2.2.2.1 bt301.2.2.2.2.2.2.2.2.1)) else (laws_FnTurned.j0 k (Int.tmod (wrap64 (t287 * 3)) 360) (Int.tmod (wrap64 (t288 * 7)) 360) true bt301.1 bt301.2.1 bt301.2.2.1 bt301.2.2.2.1 bt301.2.2.2.2.1 bt301.2.2.2.2.2.1 bt301.2.2.2.2.2.2.1 bt301.2.2.2.2.2.2.2.1 bt301.2.2.2.2.2.2.2.2.1)) else (laws_FnTurned.j0 k (Int.tmod (wrap64 (t287 * 3)) 360) (Int.tmod (wrap64 (t288 * 7)) 360) true bt301.1 bt301.2.1 bt301.2.2.1 bt301.2.2.2.1 bt301.2.2.2.2.1 bt301.2.2.2.2.2.1 bt301.2.2.2.2.2.2.1 bt301.2.2.2.2.2.2.2.1 bt301.2.2.2.2.2.2.2.2.1))))))))) = some r := h
 clear h
 replace H := Option.bind_eq_some_iff.mp H
 obtain ⟨t286, A20, H⟩ := H
 replace H : (if t286 = true then (some true) else ((laws_at.f l0 0).bind fun t287 => ((laws_at.f l0 1).bind fun t288 => ((laws_at.f l0 2).bind fun t289 => ((impl_Press.f k 0 0 0 0 0 (Int.tmod (wrap64 (t287 * 3)) 360) 0 (wrap64 (40 + (Int.tmod t289 10))) false 4 (Int.tmod (wrap64 (t288 * 7)) 360)).bind fun bt291 => ((impl_Press.f k bt291.1 bt291.2.1 bt291.2.2.1 bt291.2.2.2.1 bt291.2.2.2.2.1 bt291.2.2.2.2.2.1 bt291.2.2.2.2.2.2.1 bt291.2.2.2.2.2.2.2.1 bt291.2.2.2.2.2.2.2.2.1 5 0).bind fun bt301 => (if bt291.2.2.2.2.2.2.2.2.2 = true then (if bt301.2.2.2.2.2.2.2.2.2 = true then (if bt301.2.1 = 1 then (laws_FnTurned.j0 k (Int.tmod (wrap64 (t287 * 3)) 360) (Int.tmod (wrap64 (t288 * 7)) 360) (!bt301.2.2.2.2.2.2.2.2.1) bt301.1 bt301.2.1 bt301.2.2.1 bt301.2.2.2.1 bt301.2.2.2.2.1 bt301.2.2.2.2.2.1 bt301.2.2.2.2.2.2.1 bt301.2.2.2.2.2.2.2.1 bt301.2.2.2.2.2.2.2.2.1) else (laws_FnTurned.j0 k (Int.tmod (wrap64 (t287 * 3)) 360) (Int.tmod (wrap64 (t288 * 7)) 360) true bt301.1 bt301.2.1 bt301.2.2.1 bt301.2.2.2.1 bt301.2.2.2.2.1 bt301.2.2.2.2.2.1 bt301.2.2.2.2.2.2.1 bt301.2.2.2.2.2.2.2.1 bt301.2.2.2.2.2.2.2.2.1)) else (laws_FnTurned.j0 k (Int.tmod (wrap64 (t287 * 3)) 360) (Int.tmod (wrap64 (t288 * 7)) 360) true bt301.1 bt301.2.1 bt301.2.2.1 bt301.2.2.2.1 bt301.2.2.2.2.1 bt301.2.2.2.2.2.1 bt301.2.2.2.2.2.2.1 bt301.2.2.2.2.2.2.2.1 bt301.2.2.2.2.2.2.2.2.1)) else (laws_FnTurned.j0 k (Int.tmod (wrap64 (t287 * 3)) 360) (Int.tmod (wrap64 (t288 * 7)) 360) true bt301.1 bt301.2.1 bt301.2.2.1 bt301.2.2.2.1 bt301.2.2.2.2.1 bt301.2.2.2.2.2.1 bt301.2.2.2.2.2.2.1 bt301.2.2.2.2.2.2.2.1 bt301.2.2.2.2.2.2.2.2.1)))))))) = some r := H
 have A2 := Aside0.mk A20
 clear A20
 by_cases c3 : t286 = true
 ·
  subst c3
  have H1 : (some true) = some r := by rw [if_pos rfl] at H; exact H
  clear H
  have H := H1
  clear H1
  obtain rfl := Option.some.inj H
  go_enter Try.func6, Try.ntmps6
  go_wp2_with (first | ((with_reducible refine gate_callee (f := 12) rfl ?_); refine goesL_ (some 13) rfl rfl Try.func12 (by kernel_rfl) rfl #[.slice A0 l0.length c0] rfl (by (try simp only [List.map_toArray, List.map_cons, List.map_nil]); first | done | rfl | (simp only [List.length_drop, List.length_take]; rfl)) ?_; (with_reducible refine (laws_big.calls _ _ l0 true _ ?side1 ?side2 A2.out).mono ?_); (case side1 => repeat (first | exact HR0.out | (with_reducible refine Kd.C_alloc ?_ _) | (with_reducible refine Kd.C_drewN ?_ _) | (with_reducible refine Kd.C_drew ?_))); (case side2 => exact HC0.out); rintro e w' ⟨rfl, ⟨nd, rfl⟩⟩; refine ⟨_, rfl, ?_⟩))
  go_ret
  exact ⟨by first | rfl | (simp [errW_none, errW_some] <;> rfl) | (simp [*, errW_none, errW_some] <;> rfl), by repeat (first | (with_reducible first | exact HB.out | apply below_alloc | apply pw_below_drewN | apply below_drew1) | exact HB.out)⟩
 ·
  replace c3 := Bool.eq_false_iff.mpr c3
  subst c3
  have H1 : ((laws_at.f l0 0).bind fun t287 => ((laws_at.f l0 1).bind fun t288 => ((laws_at.f l0 2).bind fun t289 => ((impl_Press.f k 0 0 0 0 0 (Int.tmod (wrap64 (t287 * 3)) 360) 0 (wrap64 (40 + (Int.tmod t289 10))) false 4 (Int.tmod (wrap64 (t288 * 7)) 360)).bind fun bt291 => ((impl_Press.f k bt291.1 bt291.2.1 bt291.2.2.1 bt291.2.2.2.1 bt291.2.2.2.2.1 bt291.2.2.2.2.2.1 bt291.2.2.2.2.2.2.1 bt291.2.2.2.2.2.2.2.1 bt291.2.2.2.2.2.2.2.2.1 5 0).bind fun bt301 => (if bt291.2.2.2.2.2.2.2.2.2 = true then (if bt301.2.2.2.2.2.2.2.2.2 = true then (if bt301.2.1 = 1 then (laws_FnTurned.j0 k (Int.tmod (wrap64 (t287 * 3)) 360) (Int.tmod (wrap64 (t288 * 7)) 360) (!bt301.2.2.2.2.2.2.2.2.1) bt301.1 bt301.2.1 bt301.2.2.1 bt301.2.2.2.1 bt301.2.2.2.2.1 bt301.2.2.2.2.2.1 bt301.2.2.2.2.2.2.1 bt301.2.2.2.2.2.2.2.1 bt301.2.2.2.2.2.2.2.2.1) else (laws_FnTurned.j0 k (Int.tmod (wrap64 (t287 * 3)) 360) (Int.tmod (wrap64 (t288 * 7)) 360) true bt301.1 bt301.2.1 bt301.2.2.1 bt301.2.2.2.1 bt301.2.2.2.2.1 bt301.2.2.2.2.2.1 bt301.2.2.2.2.2.2.1 bt301.2.2.2.2.2.2.2.1 bt301.2.2.2.2.2.2.2.2.1)) else (laws_FnTurned.j0 k (Int.tmod (wrap64 (t287 * 3)) 360) (Int.tmod (wrap64 (t288 * 7)) 360) true bt301.1 bt301.2.1 bt301.2.2.1 bt301.2.2.2.1 bt301.2.2.2.2.1 bt301.2.2.2.2.2.1 bt301.2.2.2.2.2.2.1 bt301.2.2.2.2.2.2.2.1 bt301.2.2.2.2.2.2.2.2.1)) else (laws_FnTurned.j0 k (Int.tmod (wrap64 (t287 * 3)) 360) (Int.tmod (wrap64 (t288 * 7)) 360) true bt301.1 bt301.2.1 bt301.2.2.1 bt301.2.2.2.1 bt301.2.2.2.2.1 bt301.2.2.2.2.2.1 bt301.2.2.2.2.2.2.1 bt301.2.2.2.2.2.2.2.1 bt301.2.2.2.2.2.2.2.2.1))))))) = some r := by rw [if_neg (show ¬ (false = true) by decide)] at H; exact H
  clear H
  have H := H1
  clear H1
  replace H := Option.bind_eq_some_iff.mp H
  obtain ⟨t287, A40, H⟩ := H
  replace H : ((laws_at.f l0 1).bind fun t288 => ((laws_at.f l0 2).bind fun t289 => ((impl_Press.f k 0 0 0 0 0 (Int.tmod (wrap64 (t287 * 3)) 360) 0 (wrap64 (40 + (Int.tmod t289 10))) false 4 (Int.tmod (wrap64 (t288 * 7)) 360)).bind fun bt291 => ((impl_Press.f k bt291.1 bt291.2.1 bt291.2.2.1 bt291.2.2.2.1 bt291.2.2.2.2.1 bt291.2.2.2.2.2.1 bt291.2.2.2.2.2.2.1 bt291.2.2.2.2.2.2.2.1 bt291.2.2.2.2.2.2.2.2.1 5 0).bind fun bt301 => (if bt291.2.2.2.2.2.2.2.2.2 = true then (if bt301.2.2.2.2.2.2.2.2.2 = true then (if bt301.2.1 = 1 then (laws_FnTurned.j0 k (Int.tmod (wrap64 (t287 * 3)) 360) (Int.tmod (wrap64 (t288 * 7)) 360) (!bt301.2.2.2.2.2.2.2.2.1) bt301.1 bt301.2.1 bt301.2.2.1 bt301.2.2.2.1 bt301.2.2.2.2.1 bt301.2.2.2.2.2.1 bt301.2.2.2.2.2.2.1 bt301.2.2.2.2.2.2.2.1 bt301.2.2.2.2.2.2.2.2.1) else (laws_FnTurned.j0 k (Int.tmod (wrap64 (t287 * 3)) 360) (Int.tmod (wrap64 (t288 * 7)) 360) true bt301.1 bt301.2.1 bt301.2.2.1 bt301.2.2.2.1 bt301.2.2.2.2.1 bt301.2.2.2.2.2.1 bt301.2.2.2.2.2.2.1 bt301.2.2.2.2.2.2.2.1 bt301.2.2.2.2.2.2.2.2.1)) else (laws_FnTurned.j0 k (Int.tmod (wrap64 (t287 * 3)) 360) (Int.tmod (wrap64 (t288 * 7)) 360) true bt301.1 bt301.2.1 bt301.2.2.1 bt301.2.2.2.1 bt301.2.2.2.2.1 bt301.2.2.2.2.2.1 bt301.2.2.2.2.2.2.1 bt301.2.2.2.2.2.2.2.1 bt301.2.2.2.2.2.2.2.2.1)) else (laws_FnTurned.j0 k (Int.tmod (wrap64 (t287 * 3)) 360) (Int.tmod (wrap64 (t288 * 7)) 360) true bt301.1 bt301.2.1 bt301.2.2.1 bt301.2.2.2.1 bt301.2.2.2.2.1 bt301.2.2.2.2.2.1 bt301.2.2.2.2.2.2.1 bt301.2.2.2.2.2.2.2.1 bt301.2.2.2.2.2.2.2.2.1)))))) = some r := H
  have A4 := Aside0.mk A40
  clear A40
  replace H := Option.bind_eq_some_iff.mp H
  obtain ⟨t288, A50, H⟩ := H
  replace H : ((laws_at.f l0 2).bind fun t289 => ((impl_Press.f k 0 0 0 0 0 (Int.tmod (wrap64 (t287 * 3)) 360) 0 (wrap64 (40 + (Int.tmod t289 10))) false 4 (Int.tmod (wrap64 (t288 * 7)) 360)).bind fun bt291 => ((impl_Press.f k bt291.1 bt291.2.1 bt291.2.2.1 bt291.2.2.2.1 bt291.2.2.2.2.1 bt291.2.2.2.2.2.1 bt291.2.2.2.2.2.2.1 bt291.2.2.2.2.2.2.2.1 bt291.2.2.2.2.2.2.2.2.1 5 0).bind fun bt301 => (if bt291.2.2.2.2.2.2.2.2.2 = true then (if bt301.2.2.2.2.2.2.2.2.2 = true then (if bt301.2.1 = 1 then (laws_FnTurned.j0 k (Int.tmod (wrap64 (t287 * 3)) 360) (Int.tmod (wrap64 (t288 * 7)) 360) (!bt301.2.2.2.2.2.2.2.2.1) bt301.1 bt301.2.1 bt301.2.2.1 bt301.2.2.2.1 bt301.2.2.2.2.1 bt301.2.2.2.2.2.1 bt301.2.2.2.2.2.2.1 bt301.2.2.2.2.2.2.2.1 bt301.2.2.2.2.2.2.2.2.1) else (laws_FnTurned.j0 k (Int.tmod (wrap64 (t287 * 3)) 360) (Int.tmod (wrap64 (t288 * 7)) 360) true bt301.1 bt301.2.1 bt301.2.2.1 bt301.2.2.2.1 bt301.2.2.2.2.1 bt301.2.2.2.2.2.1 bt301.2.2.2.2.2.2.1 bt301.2.2.2.2.2.2.2.1 bt301.2.2.2.2.2.2.2.2.1)) else (laws_FnTurned.j0 k (Int.tmod (wrap64 (t287 * 3)) 360) (Int.tmod (wrap64 (t288 * 7)) 360) true bt301.1 bt301.2.1 bt301.2.2.1 bt301.2.2.2.1 bt301.2.2.2.2.1 bt301.2.2.2.2.2.1 bt301.2.2.2.2.2.2.1 bt301.2.2.2.2.2.2.2.1 bt301.2.2.2.2.2.2.2.2.1)) else (laws_FnTurned.j0 k (Int.tmod (wrap64 (t287 * 3)) 360) (Int.tmod (wrap64 (t288 * 7)) 360) true bt301.1 bt301.2.1 bt301.2.2.1 bt301.2.2.2.1 bt301.2.2.2.2.1 bt301.2.2.2.2.2.1 bt301.2.2.2.2.2.2.1 bt301.2.2.2.2.2.2.2.1 bt301.2.2.2.2.2.2.2.2.1))))) = some r := H
  have A5 := Aside0.mk A50
  clear A50
  replace H := Option.bind_eq_some_iff.mp H
  obtain ⟨t289, A60, H⟩ := H
  replace H : ((impl_Press.f k 0 0 0 0 0 (Int.tmod (wrap64 (t287 * 3)) 360) 0 (wrap64 (40 + (Int.tmod t289 10))) false 4 (Int.tmod (wrap64 (t288 * 7)) 360)).bind fun bt291 => ((impl_Press.f k bt291.1 bt291.2.1 bt291.2.2.1 bt291.2.2.2.1 bt291.2.2.2.2.1 bt291.2.2.2.2.2.1 bt291.2.2.2.2.2.2.1 bt291.2.2.2.2.2.2.2.1 bt291.2.2.2.2.2.2.2.2.1 5 0).bind fun bt301 => (if bt291.2.2.2.2.2.2.2.2.2 = true then (if bt301.2.2.2.2.2.2.2.2.2 = true then (if bt301.2.1 = 1 then (laws_FnTurned.j0 k (Int.tmod (wrap64 (t287 * 3)) 360) (Int.tmod (wrap64 (t288 * 7)) 360) (!bt301.2.2.2.2.2.2.2.2.1) bt301.1 bt301.2.1 bt301.2.2.1 bt301.2.2.2.1 bt301.2.2.2.2.1 bt301.2.2.2.2.2.1 bt301.2.2.2.2.2.2.1 bt301.2.2.2.2.2.2.2.1 bt301.2.2.2.2.2.2.2.2.1) else (laws_FnTurned.j0 k (Int.tmod (wrap64 (t287 * 3)) 360) (Int.tmod (wrap64 (t288 * 7)) 360) true bt301.1 bt301.2.1 bt301.2.2.1 bt301.2.2.2.1 bt301.2.2.2.2.1 bt301.2.2.2.2.2.1 bt301.2.2.2.2.2.2.1 bt301.2.2.2.2.2.2.2.1 bt301.2.2.2.2.2.2.2.2.1)) else (laws_FnTurned.j0 k (Int.tmod (wrap64 (t287 * 3)) 360) (Int.tmod (wrap64 (t288 * 7)) 360) true bt301.1 bt301.2.1 bt301.2.2.1 bt301.2.2.2.1 bt301.2.2.2.2.1 bt301.2.2.2.2.2.1 bt301.2.2.2.2.2.2.1 bt301.2.2.2.2.2.2.2.1 bt301.2.2.2.2.2.2.2.2.1)) else (laws_FnTurned.j0 k (Int.tmod (wrap64 (t287 * 3)) 360) (Int.tmod (wrap64 (t288 * 7)) 360) true bt301.1 bt301.2.1 bt301.2.2.1 bt301.2.2.2.1 bt301.2.2.2.2.1 bt301.2.2.2.2.2.1 bt301.2.2.2.2.2.2.1 bt301.2.2.2.2.2.2.2.1 bt301.2.2.2.2.2.2.2.2.1)))) = some r := H
  have A6 := Aside0.mk A60
  clear A60
  replace H := Option.bind_eq_some_iff.mp H
  obtain ⟨⟨t291, t292, t293, t294, t295, t296, t297, t298, t299, t300⟩, A70, H⟩ := H
  replace H : ((impl_Press.f k t291 t292 t293 t294 t295 t296 t297 t298 t299 5 0).bind fun bt301 => (if t300 = true then (if bt301.2.2.2.2.2.2.2.2.2 = true then (if bt301.2.1 = 1 then (laws_FnTurned.j0 k (Int.tmod (wrap64 (t287 * 3)) 360) (Int.tmod (wrap64 (t288 * 7)) 360) (!bt301.2.2.2.2.2.2.2.2.1) bt301.1 bt301.2.1 bt301.2.2.1 bt301.2.2.2.1 bt301.2.2.2.2.1 bt301.2.2.2.2.2.1 bt301.2.2.2.2.2.2.1 bt301.2.2.2.2.2.2.2.1 bt301.2.2.2.2.2.2.2.2.1) else (laws_FnTurned.j0 k (Int.tmod (wrap64 (t287 * 3)) 360) (Int.tmod (wrap64 (t288 * 7)) 360) true bt301.1 bt301.2.1 bt301.2.2.1 bt301.2.2.2.1 bt301.2.2.2.2.1 bt301.2.2.2.2.2.1 bt301.2.2.2.2.2.2.1 bt301.2.2.2.2.2.2.2.1 bt301.2.2.2.2.2.2.2.2.1)) else (laws_FnTurned.j0 k (Int.tmod (wrap64 (t287 * 3)) 360) (Int.tmod (wrap64 (t288 * 7)) 360) true bt301.1 bt301.2.1 bt301.2.2.1 bt301.2.2.2.1 bt301.2.2.2.2.1 bt301.2.2.2.2.2.1 bt301.2.2.2.2.2.2.1 bt301.2.2.2.2.2.2.2.1 bt301.2.2.2.2.2.2.2.2.1)) else (laws_FnTurned.j0 k (Int.tmod (wrap64 (t287 * 3)) 360) (Int.tmod (wrap64 (t288 * 7)) 360) true bt301.1 bt301.2.1 bt301.2.2.1 bt301.2.2.2.1 bt301.2.2.2.2.1 bt301.2.2.2.2.2.1 bt301.2.2.2.2.2.2.1 bt301.2.2.2.2.2.2.2.1 bt301.2.2.2.2.2.2.2.2.1))) = some r := H
  have A7 := Aside0.mk A70
  clear A70
  replace H := Option.bind_eq_some_iff.mp H
  obtain ⟨⟨t301, t302, t303, t304, t305, t306, t307, t308, t309, t310⟩, A80, H⟩ := H
  replace H : (if t300 = true then (if t310 = true then (if t302 = 1 then (laws_FnTurned.j0 k (Int.tmod (wrap64 (t287 * 3)) 360) (Int.tmod (wrap64 (t288 * 7)) 360) (!t309) t301 t302 t303 t304 t305 t306 t307 t308 t309) else (laws_FnTurned.j0 k (Int.tmod (wrap64 (t287 * 3)) 360) (Int.tmod (wrap64 (t288 * 7)) 360) true t301 t302 t303 t304 t305 t306 t307 t308 t309)) else (laws_FnTurned.j0 k (Int.tmod (wrap64 (t287 * 3)) 360) (Int.tmod (wrap64 (t288 * 7)) 360) true t301 t302 t303 t304 t305 t306 t307 t308 t309)) else (laws_FnTurned.j0 k (Int.tmod (wrap64 (t287 * 3)) 360) (Int.tmod (wrap64 (t288 * 7)) 360) true t301 t302 t303 t304 t305 t306 t307 t308 t309)) = some r := H
  have A8 := Aside0.mk A80
  clear A80
  have HC9 := Aside0.mk H
  clear H
  go_enter Try.func6, Try.ntmps6
  go_upto_region 7 with (first | ((with_reducible refine gate_callee (f := 12) rfl ?_); refine goesL_ (some 13) rfl rfl Try.func12 (by kernel_rfl) rfl #[.slice A0 l0.length c0] rfl (by (try simp only [List.map_toArray, List.map_cons, List.map_nil]); first | done | rfl | (simp only [List.length_drop, List.length_take]; rfl)) ?_; (with_reducible refine (laws_big.calls _ _ l0 false _ ?side1 ?side2 A2.out).mono ?_); (case side1 => repeat (first | exact HR0.out | (with_reducible refine Kd.C_alloc ?_ _) | (with_reducible refine Kd.C_drewN ?_ _) | (with_reducible refine Kd.C_drew ?_))); (case side2 => exact HC0.out); rintro e w' ⟨rfl, ⟨nd, rfl⟩⟩; refine ⟨_, rfl, ?_⟩) | ((with_reducible refine gate_callee (f := 13) rfl ?_); refine goesL_ (some 15) rfl rfl Try.func13 (by kernel_rfl) rfl #[.slice A0 l0.length c0, .int .i64 0] rfl (by (try simp only [List.map_toArray, List.map_cons, List.map_nil]); first | done | rfl | (simp only [List.length_drop, List.length_take]; rfl)) ?_; (with_reducible refine (laws_at.calls _ _ l0 0 t287 _ ?side1 ?side2 A4.out).mono ?_); (case side1 => repeat (first | exact HR0.out | (with_reducible refine Kd.C_alloc ?_ _) | (with_reducible refine Kd.C_drewN ?_ _) | (with_reducible refine Kd.C_drew ?_))); (case side2 => exact HC0.out); rintro e w' ⟨rfl, ⟨nd, rfl⟩⟩; refine ⟨_, rfl, ?_⟩) | ((with_reducible refine gate_callee (f := 13) rfl ?_); refine goesL_ (some 19) rfl rfl Try.func13 (by kernel_rfl) rfl #[.slice A0 l0.length c0, .int .i64 1] rfl (by (try simp only [List.map_toArray, List.map_cons, List.map_nil]); first | done | rfl | (simp only [List.length_drop, List.length_take]; rfl)) ?_; (with_reducible refine (laws_at.calls _ _ l0 1 t288 _ ?side1 ?side2 A5.out).mono ?_); (case side1 => repeat (first | exact HR0.out | (with_reducible refine Kd.C_alloc ?_ _) | (with_reducible refine Kd.C_drewN ?_ _) | (with_reducible refine Kd.C_drew ?_))); (case side2 => exact HC0.out); rintro e w' ⟨rfl, ⟨nd, rfl⟩⟩; refine ⟨_, rfl, ?_⟩) | ((with_reducible refine gate_callee (f := 13) rfl ?_); refine goesL_ (some 24) rfl rfl Try.func13 (by kernel_rfl) rfl #[.slice A0 l0.length c0, .int .i64 2] rfl (by (try simp only [List.map_toArray, List.map_cons, List.map_nil]); first | done | rfl | (simp only [List.length_drop, List.length_take]; rfl)) ?_; (with_reducible refine (laws_at.calls _ _ l0 2 t289 _ ?side1 ?side2 A6.out).mono ?_); (case side1 => repeat (first | exact HR0.out | (with_reducible refine Kd.C_alloc ?_ _) | (with_reducible refine Kd.C_drewN ?_ _) | (with_reducible refine Kd.C_drew ?_))); (case side2 => exact HC0.out); rintro e w' ⟨rfl, ⟨nd, rfl⟩⟩; refine ⟨_, rfl, ?_⟩) | ((with_reducible refine gate_dst (N := 5) rfl ?_); (try (refine gate_guard (by rfl) ?_; dsimp only)); refine box_event ?hg (N := 5) ?hd (cs := #[.int .i64 0, .int .i64 0, .int .i64 0, .int .i64 0, .int .i64 0, .int .i64 0, .int .i64 0, .int .i64 0, .bool false]) (t := 25) ?hr ?_; (case hd => rfl); (case hg => rfl); (case hr => first | (go_simp; done) | (go_simp; rfl)); intro gb290 hg w10 hbox hb; have n0_ := Aside0.mk (below_step (by repeat (first | (with_reducible first | exact HB.out | apply below_alloc | apply pw_below_drewN | apply below_drew1) | exact HB.out)) hb); have n1_ := Aside0.mk (hbox); have n2_ := Aside0.mk ((by rw [hg]; exact (below_size (by repeat (first | (with_reducible first | exact HB.out | apply below_alloc | apply pw_below_drewN | apply below_drew1) | exact HB.out))) : w.heap.size ≤ gb290)); have n3_ := Aside0.mk ((by rw [hg]; exact (below_size (by repeat (first | (with_reducible first | exact HB.out | apply below_alloc | apply pw_below_drewN | apply below_drew1) | exact HB.out))) : w.heap.size ≤ gb290)); clear HB; have HB := n0_; have BK290 := n1_; have GW290 := n2_; have GE290 := n3_; clear n0_ n1_ n2_ n3_; clear hb hbox hg; have hcz11_0 : w10.cell? ⟨gb290, 0, none⟩ = some (.int .i64 0) := (blk_cell BK290.out 0).trans rfl; have hcz11_1 : w10.cell? ⟨gb290, 1, none⟩ = some (.int .i64 0) := (blk_cell BK290.out 1).trans rfl; have hcz11_2 : w10.cell? ⟨gb290, 2, none⟩ = some (.int .i64 0) := (blk_cell BK290.out 2).trans rfl; have hcz11_3 : w10.cell? ⟨gb290, 3, none⟩ = some (.int .i64 0) := (blk_cell BK290.out 3).trans rfl; have hcz11_4 : w10.cell? ⟨gb290, 4, none⟩ = some (.int .i64 0) := (blk_cell BK290.out 4).trans rfl; have hcz11_5 : w10.cell? ⟨gb290, 5, none⟩ = some (.int .i64 0) := (blk_cell BK290.out 5).trans rfl; have hcz11_6 : w10.cell? ⟨gb290, 6, none⟩ = some (.int .i64 0) := (blk_cell BK290.out 6).trans rfl; have hcz11_7 : w10.cell? ⟨gb290, 7, none⟩ = some (.int .i64 0) := (blk_cell BK290.out 7).trans rfl; have hcz11_8 : w10.cell? ⟨gb290, 8, none⟩ = some (.bool false) := (blk_cell BK290.out 8).trans rfl; have hfz11_0 := blk_frozen BK290.out 0; have hfz11_1 := blk_frozen BK290.out 1; have hfz11_2 := blk_frozen BK290.out 2; have hfz11_3 := blk_frozen BK290.out 3; have hfz11_4 := blk_frozen BK290.out 4; have hfz11_5 := blk_frozen BK290.out 5; have hfz11_6 := blk_frozen BK290.out 6; have hfz11_7 := blk_frozen BK290.out 7; have hfz11_8 := blk_frozen BK290.out 8) | ((with_reducible refine gate_callee (f := 14) rfl ?_); refine goesL_ (some 31) rfl rfl Try.func14 (by kernel_rfl) rfl #[.agg #[.int .i64 0, .int .i64 0, .int .i64 0, .int .i64 0, .int .i64 0, .int .i64 (Int.tmod (wrap64 (t287 * 3)) 360), .int .i64 0, .int .i64 (wrap64 (40 + (Int.tmod t289 10))), .bool false], .int .i64 4, .int .i64 (Int.tmod (wrap64 (t288 * 7)) 360)] rfl (by (try simp only [List.map_toArray, List.map_cons, List.map_nil]); first | done | rfl | (simp only [List.length_drop, List.length_take]; rfl)) ?_; (with_reducible refine (impl_Press.calls k 0 0 0 0 0 (Int.tmod (wrap64 (t287 * 3)) 360) 0 (wrap64 (40 + (Int.tmod t289 10))) false 4 (Int.tmod (wrap64 (t288 * 7)) 360) t291 t292 t293 t294 t295 t296 t297 t298 t299 t300 _ A7.out).mono ?_); rintro e w12 ⟨rfl, hb⟩; refine ⟨_, rfl, ?_⟩; have n0_ := Aside0.mk (blk_below (g := gb290) (o := .cells #[.int .i64 0, .int .i64 0, .int .i64 0, .int .i64 0, .int .i64 0, .int .i64 (Int.tmod (wrap64 (t287 * 3)) 360), .int .i64 0, .int .i64 (wrap64 (40 + (Int.tmod t289 10))), .bool false] 25 (0, 0)) (by (with_reducible repeat (first | refine blk_drewN ?_ _ | refine blk_drew ?_ | refine blk_alloc ?_ _)); refine blk_put (cs := #[.int .i64 0, .int .i64 0, .int .i64 0, .int .i64 0, .int .i64 0, .int .i64 (Int.tmod (wrap64 (t287 * 3)) 360), .int .i64 0, .int .i64 (wrap64 (40 + (Int.tmod t289 10))), .bool false]) ?_ 8 _ rfl; (with_reducible repeat (first | refine blk_drewN ?_ _ | refine blk_drew ?_ | refine blk_alloc ?_ _)); refine blk_put (cs := #[.int .i64 0, .int .i64 0, .int .i64 0, .int .i64 0, .int .i64 0, .int .i64 (Int.tmod (wrap64 (t287 * 3)) 360), .int .i64 0, .int .i64 0, .bool false]) ?_ 7 _ rfl; (with_reducible repeat (first | refine blk_drewN ?_ _ | refine blk_drew ?_ | refine blk_alloc ?_ _)); refine blk_put (cs := #[.int .i64 0, .int .i64 0, .int .i64 0, .int .i64 0, .int .i64 0, .int .i64 (Int.tmod (wrap64 (t287 * 3)) 360), .int .i64 0, .int .i64 0, .bool false]) ?_ 6 _ rfl; (with_reducible repeat (first | refine blk_drewN ?_ _ | refine blk_drew ?_ | refine blk_alloc ?_ _)); refine blk_put (cs := #[.int .i64 0, .int .i64 0, .int .i64 0, .int .i64 0, .int .i64 0, .int .i64 0, .int .i64 0, .int .i64 0, .bool false]) ?_ 5 _ rfl; (with_reducible repeat (first | refine blk_drewN ?_ _ | refine blk_drew ?_ | refine blk_alloc ?_ _)); refine blk_put (cs := #[.int .i64 0, .int .i64 0, .int .i64 0, .int .i64 0, .int .i64 0, .int .i64 0, .int .i64 0, .int .i64 0, .bool false]) ?_ 4 _ rfl; (with_reducible repeat (first | refine blk_drewN ?_ _ | refine blk_drew ?_ | refine blk_alloc ?_ _)); refine blk_put (cs := #[.int .i64 0, .int .i64 0, .int .i64 0, .int .i64 0, .int .i64 0, .int .i64 0, .int .i64 0, .int .i64 0, .bool false]) ?_ 3 _ rfl; (with_reducible repeat (first | refine blk_drewN ?_ _ | refine blk_drew ?_ | refine blk_alloc ?_ _)); refine blk_put (cs := #[.int .i64 0, .int .i64 0, .int .i64 0, .int .i64 0, .int .i64 0, .int .i64 0, .int .i64 0, .int .i64 0, .bool false]) ?_ 2 _ rfl; (with_reducible repeat (first | refine blk_drewN ?_ _ | refine blk_drew ?_ | refine blk_alloc ?_ _)); refine blk_put (cs := #[.int .i64 0, .int .i64 0, .int .i64 0, .int .i64 0, .int .i64 0, .int .i64 0, .int .i64 0, .int .i64 0, .bool false]) ?_ 1 _ rfl; (with_reducible repeat (first | refine blk_drewN ?_ _ | refine blk_drew ?_ | refine blk_alloc ?_ _)); refine blk_put (cs := #[.int .i64 0, .int .i64 0, .int .i64 0, .int .i64 0, .int .i64 0, .int .i64 0, .int .i64 0, .int .i64 0, .bool false]) ?_ 0 _ rfl; (with_reducible repeat (first | refine blk_drewN ?_ _ | refine blk_drew ?_ | refine blk_alloc ?_ _)); exact BK290.out) hb); have n1_ := Aside0.mk (below_step (by repeat (first | (with_reducible first | exact HB.out | apply below_alloc | apply pw_below_drewN | apply below_drew1 | refine below_set ?_ GE290.out) | exact HB.out)) hb); clear BK290; clear HB; have BK290 := n0_; have HB := n1_; clear n0_ n1_; (try clear hb); (try clear hb2); (try clear hk); (try clear hi); have hcz13_0 : w12.cell? ⟨gb290, 0, none⟩ = some (.int .i64 0) := (blk_cell BK290.out 0).trans rfl; have hcz13_1 : w12.cell? ⟨gb290, 1, none⟩ = some (.int .i64 0) := (blk_cell BK290.out 1).trans rfl; have hcz13_2 : w12.cell? ⟨gb290, 2, none⟩ = some (.int .i64 0) := (blk_cell BK290.out 2).trans rfl; have hcz13_3 : w12.cell? ⟨gb290, 3, none⟩ = some (.int .i64 0) := (blk_cell BK290.out 3).trans rfl; have hcz13_4 : w12.cell? ⟨gb290, 4, none⟩ = some (.int .i64 0) := (blk_cell BK290.out 4).trans rfl; have hcz13_5 : w12.cell? ⟨gb290, 5, none⟩ = some (.int .i64 (Int.tmod (wrap64 (t287 * 3)) 360)) := (blk_cell BK290.out 5).trans rfl; have hcz13_6 : w12.cell? ⟨gb290, 6, none⟩ = some (.int .i64 0) := (blk_cell BK290.out 6).trans rfl; have hcz13_7 : w12.cell? ⟨gb290, 7, none⟩ = some (.int .i64 (wrap64 (40 + (Int.tmod t289 10)))) := (blk_cell BK290.out 7).trans rfl; have hcz13_8 : w12.cell? ⟨gb290, 8, none⟩ = some (.bool false) := (blk_cell BK290.out 8).trans rfl; have hfz13_0 := blk_frozen BK290.out 0; have hfz13_1 := blk_frozen BK290.out 1; have hfz13_2 := blk_frozen BK290.out 2; have hfz13_3 := blk_frozen BK290.out 3; have hfz13_4 := blk_frozen BK290.out 4; have hfz13_5 := blk_frozen BK290.out 5; have hfz13_6 := blk_frozen BK290.out 6; have hfz13_7 := blk_frozen BK290.out 7; have hfz13_8 := blk_frozen BK290.out 8) | ((with_reducible refine gate_callee (f := 14) rfl ?_); refine goesL_ (some 36) rfl rfl Try.func14 (by kernel_rfl) rfl #[.agg #[.int .i64 t291, .int .i64 t292, .int .i64 t293, .int .i64 t294, .int .i64 t295, .int .i64 t296, .int .i64 t297, .int .i64 t298, .bool t299], .int .i64 5, .int .i64 0] rfl (by (try simp only [List.map_toArray, List.map_cons, List.map_nil]); first | done | rfl | (simp only [List.length_drop, List.length_take]; rfl)) ?_; (with_reducible refine (impl_Press.calls k t291 t292 t293 t294 t295 t296 t297 t298 t299 5 0 t301 t302 t303 t304 t305 t306 t307 t308 t309 t310 _ A8.out).mono ?_); rintro e w14 ⟨rfl, hb⟩; refine ⟨_, rfl, ?_⟩; have n0_ := Aside0.mk (blk_below (g := gb290) (o := .cells #[.int .i64 t291, .int .i64 t292, .int .i64 t293, .int .i64 t294, .int .i64 t295, .int .i64 t296, .int .i64 t297, .int .i64 t298, .bool t299] 25 (0, 0)) (by (with_reducible repeat (first | refine blk_drewN ?_ _ | refine blk_drew ?_ | refine blk_alloc ?_ _)); refine blk_put (cs := #[.int .i64 t291, .int .i64 t292, .int .i64 t293, .int .i64 t294, .int .i64 t295, .int .i64 t296, .int .i64 t297, .int .i64 t298, .bool false]) ?_ 8 _ rfl; (with_reducible repeat (first | refine blk_drewN ?_ _ | refine blk_drew ?_ | refine blk_alloc ?_ _)); refine blk_put (cs := #[.int .i64 t291, .int .i64 t292, .int .i64 t293, .int .i64 t294, .int .i64 t295, .int .i64 t296, .int .i64 t297, .int .i64 (wrap64 (40 + (Int.tmod t289 10))), .bool false]) ?_ 7 _ rfl; (with_reducible repeat (first | refine blk_drewN ?_ _ | refine blk_drew ?_ | refine blk_alloc ?_ _)); refine blk_put (cs := #[.int .i64 t291, .int .i64 t292, .int .i64 t293, .int .i64 t294, .int .i64 t295, .int .i64 t296, .int .i64 0, .int .i64 (wrap64 (40 + (Int.tmod t289 10))), .bool false]) ?_ 6 _ rfl; (with_reducible repeat (first | refine blk_drewN ?_ _ | refine blk_drew ?_ | refine blk_alloc ?_ _)); refine blk_put (cs := #[.int .i64 t291, .int .i64 t292, .int .i64 t293, .int .i64 t294, .int .i64 t295, .int .i64 (Int.tmod (wrap64 (t287 * 3)) 360), .int .i64 0, .int .i64 (wrap64 (40 + (Int.tmod t289 10))), .bool false]) ?_ 5 _ rfl; (with_reducible repeat (first | refine blk_drewN ?_ _ | refine blk_drew ?_ | refine blk_alloc ?_ _)); refine blk_put (cs := #[.int .i64 t291, .int .i64 t292, .int .i64 t293, .int .i64 t294, .int .i64 0, .int .i64 (Int.tmod (wrap64 (t287 * 3)) 360), .int .i64 0, .int .i64 (wrap64 (40 + (Int.tmod t289 10))), .bool false]) ?_ 4 _ rfl; (with_reducible repeat (first | refine blk_drewN ?_ _ | refine blk_drew ?_ | refine blk_alloc ?_ _)); refine blk_put (cs := #[.int .i64 t291, .int .i64 t292, .int .i64 t293, .int .i64 0, .int .i64 0, .int .i64 (Int.tmod (wrap64 (t287 * 3)) 360), .int .i64 0, .int .i64 (wrap64 (40 + (Int.tmod t289 10))), .bool false]) ?_ 3 _ rfl; (with_reducible repeat (first | refine blk_drewN ?_ _ | refine blk_drew ?_ | refine blk_alloc ?_ _)); refine blk_put (cs := #[.int .i64 t291, .int .i64 t292, .int .i64 0, .int .i64 0, .int .i64 0, .int .i64 (Int.tmod (wrap64 (t287 * 3)) 360), .int .i64 0, .int .i64 (wrap64 (40 + (Int.tmod t289 10))), .bool false]) ?_ 2 _ rfl; (with_reducible repeat (first | refine blk_drewN ?_ _ | refine blk_drew ?_ | refine blk_alloc ?_ _)); refine blk_put (cs := #[.int .i64 t291, .int .i64 0, .int .i64 0, .int .i64 0, .int .i64 0, .int .i64 (Int.tmod (wrap64 (t287 * 3)) 360), .int .i64 0, .int .i64 (wrap64 (40 + (Int.tmod t289 10))), .bool false]) ?_ 1 _ rfl; (with_reducible repeat (first | refine blk_drewN ?_ _ | refine blk_drew ?_ | refine blk_alloc ?_ _)); refine blk_put (cs := #[.int .i64 0, .int .i64 0, .int .i64 0, .int .i64 0, .int .i64 0, .int .i64 (Int.tmod (wrap64 (t287 * 3)) 360), .int .i64 0, .int .i64 (wrap64 (40 + (Int.tmod t289 10))), .bool false]) ?_ 0 _ rfl; (with_reducible repeat (first | refine blk_drewN ?_ _ | refine blk_drew ?_ | refine blk_alloc ?_ _)); exact BK290.out) hb); have n1_ := Aside0.mk (below_step (by repeat (first | (with_reducible first | exact HB.out | apply below_alloc | apply pw_below_drewN | apply below_drew1 | refine below_set ?_ GE290.out) | exact HB.out)) hb); clear BK290; clear HB; have BK290 := n0_; have HB := n1_; clear n0_ n1_; (try clear hb); (try clear hb2); (try clear hk); (try clear hi); have hcz15_0 : w14.cell? ⟨gb290, 0, none⟩ = some (.int .i64 t291) := (blk_cell BK290.out 0).trans rfl; have hcz15_1 : w14.cell? ⟨gb290, 1, none⟩ = some (.int .i64 t292) := (blk_cell BK290.out 1).trans rfl; have hcz15_2 : w14.cell? ⟨gb290, 2, none⟩ = some (.int .i64 t293) := (blk_cell BK290.out 2).trans rfl; have hcz15_3 : w14.cell? ⟨gb290, 3, none⟩ = some (.int .i64 t294) := (blk_cell BK290.out 3).trans rfl; have hcz15_4 : w14.cell? ⟨gb290, 4, none⟩ = some (.int .i64 t295) := (blk_cell BK290.out 4).trans rfl; have hcz15_5 : w14.cell? ⟨gb290, 5, none⟩ = some (.int .i64 t296) := (blk_cell BK290.out 5).trans rfl; have hcz15_6 : w14.cell? ⟨gb290, 6, none⟩ = some (.int .i64 t297) := (blk_cell BK290.out 6).trans rfl; have hcz15_7 : w14.cell? ⟨gb290, 7, none⟩ = some (.int .i64 t298) := (blk_cell BK290.out 7).trans rfl; have hcz15_8 : w14.cell? ⟨gb290, 8, none⟩ = some (.bool t299) := (blk_cell BK290.out 8).trans rfl; have hfz15_0 := blk_frozen BK290.out 0; have hfz15_1 := blk_frozen BK290.out 1; have hfz15_2 := blk_frozen BK290.out 2; have hfz15_3 := blk_frozen BK290.out 3; have hfz15_4 := blk_frozen BK290.out 4; have hfz15_5 := blk_frozen BK290.out 5; have hfz15_6 := blk_frozen BK290.out 6; have hfz15_7 := blk_frozen BK290.out 7; have hfz15_8 := blk_frozen BK290.out 8))
  (try simp only [Act.put, List.setIfInBounds_toArray, List.set_cons_zero, List.set_cons_succ])
  go_cut [54] (fun v54 wc => ∃ (kq : Nat) (x54_8 : Bool), v54 = .bool x54_8 ∧ Aside0 (laws_FnTurned.j0 kq (Int.tmod (wrap64 (t287 * 3)) 360) (Int.tmod (wrap64 (t288 * 7)) 360) x54_8 t301 t302 t303 t304 t305 t306 t307 t308 t309 = some r) ∧ Aside0 (kq ≤ k) ∧ Aside0 (wc.heap[gb290]? = some (.cells #[.int .i64 t301, .int .i64 t302, .int .i64 t303, .int .i64 t304, .int .i64 t305, .int .i64 t306, .int .i64 t307, .int .i64 t308, .bool t309] 25 (0, 0))) ∧ Aside0 (Below w.heap.size w wc))
  case first =>
   have H := HC9.out
   clear HC9
   by_cases c16 : t300 = true
   ·
    subst c16
    have H1 : (if t310 = true then (if t302 = 1 then (laws_FnTurned.j0 k (Int.tmod (wrap64 (t287 * 3)) 360) (Int.tmod (wrap64 (t288 * 7)) 360) (!t309) t301 t302 t303 t304 t305 t306 t307 t308 t309) else (laws_FnTurned.j0 k (Int.tmod (wrap64 (t287 * 3)) 360) (Int.tmod (wrap64 (t288 * 7)) 360) true t301 t302 t303 t304 t305 t306 t307 t308 t309)) else (laws_FnTurned.j0 k (Int.tmod (wrap64 (t287 * 3)) 360) (Int.tmod (wrap64 (t288 * 7)) 360) true t301 t302 t303 t304 t305 t306 t307 t308 t309)) = some r := by rw [if_pos rfl] at H; exact H
    clear H
    have H := H1
    clear H1
    by_cases c17 : t310 = true
    ·
     subst c17
     have H1 : (if t302 = 1 then (laws_FnTurned.j0 k (Int.tmod (wrap64 (t287 * 3)) 360) (Int.tmod (wrap64 (t288 * 7)) 360) (!t309) t301 t302 t303 t304 t305 t306 t307 t308 t309) else (laws_FnTurned.j0 k (Int.tmod (wrap64 (t287 * 3)) 360) (Int.tmod (wrap64 (t288 * 7)) 360) true t301 t302 t303 t304 t305 t306 t307 t308 t309)) = some r := by rw [if_pos rfl] at H; exact H
     clear H
     have H := H1
     clear H1
     by_cases c18 : t302 = 1
     ·
      rw [if_pos c18] at H
      have c18b0 : (t302 == 1) = true := beq_iff_eq.mpr c18
      have c18b1 : (t302 != 1) = false := bne_eq_false_iff_eq.mpr c18
      clear c18
      (first | rw [c18b0] | (simp only [i64_w, i32_w]; rw [c18b0]) | skip)
      have H' := Aside0.mk H
      clear H
      have hcz19_0 : w14.cell? ⟨gb290, 0, none⟩ = some (.int .i64 t291) := (blk_cell BK290.out 0).trans rfl
      have hcz19_1 : w14.cell? ⟨gb290, 1, none⟩ = some (.int .i64 t292) := (blk_cell BK290.out 1).trans rfl
      have hcz19_2 : w14.cell? ⟨gb290, 2, none⟩ = some (.int .i64 t293) := (blk_cell BK290.out 2).trans rfl
      have hcz19_3 : w14.cell? ⟨gb290, 3, none⟩ = some (.int .i64 t294) := (blk_cell BK290.out 3).trans rfl
      have hcz19_4 : w14.cell? ⟨gb290, 4, none⟩ = some (.int .i64 t295) := (blk_cell BK290.out 4).trans rfl
      have hcz19_5 : w14.cell? ⟨gb290, 5, none⟩ = some (.int .i64 t296) := (blk_cell BK290.out 5).trans rfl
      have hcz19_6 : w14.cell? ⟨gb290, 6, none⟩ = some (.int .i64 t297) := (blk_cell BK290.out 6).trans rfl
      have hcz19_7 : w14.cell? ⟨gb290, 7, none⟩ = some (.int .i64 t298) := (blk_cell BK290.out 7).trans rfl
      have hcz19_8 : w14.cell? ⟨gb290, 8, none⟩ = some (.bool t299) := (blk_cell BK290.out 8).trans rfl
      have hfz19_0 := blk_frozen BK290.out 0
      have hfz19_1 := blk_frozen BK290.out 1
      have hfz19_2 := blk_frozen BK290.out 2
      have hfz19_3 := blk_frozen BK290.out 3
      have hfz19_4 := blk_frozen BK290.out 4
      have hfz19_5 := blk_frozen BK290.out 5
      have hfz19_6 := blk_frozen BK290.out 6
      have hfz19_7 := blk_frozen BK290.out 7
      have hfz19_8 := blk_frozen BK290.out 8
      go_wp2
      go_meet
      case rel => exact ⟨_, (!t309), (by first | rfl | (simp; done) | (simp [*]; done)), H', ⟨by first | omega | exact Nat.le_refl _⟩, ⟨by (with_reducible repeat (first | refine blk_drewN ?_ _ | refine blk_drew ?_ | refine blk_alloc ?_ _)); refine blk_put (cs := #[.int .i64 t301, .int .i64 t302, .int .i64 t303, .int .i64 t304, .int .i64 t305, .int .i64 t306, .int .i64 t307, .int .i64 t308, .bool t299]) ?_ 8 _ rfl; (with_reducible repeat (first | refine blk_drewN ?_ _ | refine blk_drew ?_ | refine blk_alloc ?_ _)); refine blk_put (cs := #[.int .i64 t301, .int .i64 t302, .int .i64 t303, .int .i64 t304, .int .i64 t305, .int .i64 t306, .int .i64 t307, .int .i64 t298, .bool t299]) ?_ 7 _ rfl; (with_reducible repeat (first | refine blk_drewN ?_ _ | refine blk_drew ?_ | refine blk_alloc ?_ _)); refine blk_put (cs := #[.int .i64 t301, .int .i64 t302, .int .i64 t303, .int .i64 t304, .int .i64 t305, .int .i64 t306, .int .i64 t297, .int .i64 t298, .bool t299]) ?_ 6 _ rfl; (with_reducible repeat (first | refine blk_drewN ?_ _ | refine blk_drew ?_ | refine blk_alloc ?_ _)); refine blk_put (cs := #[.int .i64 t301, .int .i64 t302, .int .i64 t303, .int .i64 t304, .int .i64 t305, .int .i64 t296, .int .i64 t297, .int .i64 t298, .bool t299]) ?_ 5 _ rfl; (with_reducible repeat (first | refine blk_drewN ?_ _ | refine blk_drew ?_ | refine blk_alloc ?_ _)); refine blk_put (cs := #[.int .i64 t301, .int .i64 t302, .int .i64 t303, .int .i64 t304, .int .i64 t295, .int .i64 t296, .int .i64 t297, .int .i64 t298, .bool t299]) ?_ 4 _ rfl; (with_reducible repeat (first | refine blk_drewN ?_ _ | refine blk_drew ?_ | refine blk_alloc ?_ _)); refine blk_put (cs := #[.int .i64 t301, .int .i64 t302, .int .i64 t303, .int .i64 t294, .int .i64 t295, .int .i64 t296, .int .i64 t297, .int .i64 t298, .bool t299]) ?_ 3 _ rfl; (with_reducible repeat (first | refine blk_drewN ?_ _ | refine blk_drew ?_ | refine blk_alloc ?_ _)); refine blk_put (cs := #[.int .i64 t301, .int .i64 t302, .int .i64 t293, .int .i64 t294, .int .i64 t295, .int .i64 t296, .int .i64 t297, .int .i64 t298, .bool t299]) ?_ 2 _ rfl; (with_reducible repeat (first | refine blk_drewN ?_ _ | refine blk_drew ?_ | refine blk_alloc ?_ _)); refine blk_put (cs := #[.int .i64 t301, .int .i64 t292, .int .i64 t293, .int .i64 t294, .int .i64 t295, .int .i64 t296, .int .i64 t297, .int .i64 t298, .bool t299]) ?_ 1 _ rfl; (with_reducible repeat (first | refine blk_drewN ?_ _ | refine blk_drew ?_ | refine blk_alloc ?_ _)); refine blk_put (cs := #[.int .i64 t291, .int .i64 t292, .int .i64 t293, .int .i64 t294, .int .i64 t295, .int .i64 t296, .int .i64 t297, .int .i64 t298, .bool t299]) ?_ 0 _ rfl; (with_reducible repeat (first | refine blk_drewN ?_ _ | refine blk_drew ?_ | refine blk_alloc ?_ _)); exact BK290.out⟩, ⟨by repeat (first | (with_reducible first | exact HB.out | apply below_alloc | apply pw_below_drewN | apply below_drew1 | refine below_set ?_ GE290.out) | exact HB.out)⟩⟩
     ·
      rw [if_neg c18] at H
      have c18b0 : (t302 == 1) = false := beq_eq_false_iff_ne.mpr c18
      have c18b1 : (t302 != 1) = true := bne_iff_ne.mpr c18
      (first | rw [c18b0] | (simp only [i64_w, i32_w]; rw [c18b0]) | skip)
      have H' := Aside0.mk H
      clear H
      have hcz20_0 : w14.cell? ⟨gb290, 0, none⟩ = some (.int .i64 t291) := (blk_cell BK290.out 0).trans rfl
      have hcz20_1 : w14.cell? ⟨gb290, 1, none⟩ = some (.int .i64 t292) := (blk_cell BK290.out 1).trans rfl
      have hcz20_2 : w14.cell? ⟨gb290, 2, none⟩ = some (.int .i64 t293) := (blk_cell BK290.out 2).trans rfl
      have hcz20_3 : w14.cell? ⟨gb290, 3, none⟩ = some (.int .i64 t294) := (blk_cell BK290.out 3).trans rfl
      have hcz20_4 : w14.cell? ⟨gb290, 4, none⟩ = some (.int .i64 t295) := (blk_cell BK290.out 4).trans rfl
      have hcz20_5 : w14.cell? ⟨gb290, 5, none⟩ = some (.int .i64 t296) := (blk_cell BK290.out 5).trans rfl
      have hcz20_6 : w14.cell? ⟨gb290, 6, none⟩ = some (.int .i64 t297) := (blk_cell BK290.out 6).trans rfl
      have hcz20_7 : w14.cell? ⟨gb290, 7, none⟩ = some (.int .i64 t298) := (blk_cell BK290.out 7).trans rfl
      have hcz20_8 : w14.cell? ⟨gb290, 8, none⟩ = some (.bool t299) := (blk_cell BK290.out 8).trans rfl
      have hfz20_0 := blk_frozen BK290.out 0
      have hfz20_1 := blk_frozen BK290.out 1
      have hfz20_2 := blk_frozen BK290.out 2
      have hfz20_3 := blk_frozen BK290.out 3
      have hfz20_4 := blk_frozen BK290.out 4
      have hfz20_5 := blk_frozen BK290.out 5
      have hfz20_6 := blk_frozen BK290.out 6
      have hfz20_7 := blk_frozen BK290.out 7
      have hfz20_8 := blk_frozen BK290.out 8
      go_wp2
      go_meet
      case rel => exact ⟨_, (true), (by first | rfl | (simp; done) | (simp [*]; done)), H', ⟨by first | omega | exact Nat.le_refl _⟩, ⟨by (with_reducible repeat (first | refine blk_drewN ?_ _ | refine blk_drew ?_ | refine blk_alloc ?_ _)); refine blk_put (cs := #[.int .i64 t301, .int .i64 t302, .int .i64 t303, .int .i64 t304, .int .i64 t305, .int .i64 t306, .int .i64 t307, .int .i64 t308, .bool t299]) ?_ 8 _ rfl; (with_reducible repeat (first | refine blk_drewN ?_ _ | refine blk_drew ?_ | refine blk_alloc ?_ _)); refine blk_put (cs := #[.int .i64 t301, .int .i64 t302, .int .i64 t303, .int .i64 t304, .int .i64 t305, .int .i64 t306, .int .i64 t307, .int .i64 t298, .bool t299]) ?_ 7 _ rfl; (with_reducible repeat (first | refine blk_drewN ?_ _ | refine blk_drew ?_ | refine blk_alloc ?_ _)); refine blk_put (cs := #[.int .i64 t301, .int .i64 t302, .int .i64 t303, .int .i64 t304, .int .i64 t305, .int .i64 t306, .int .i64 t297, .int .i64 t298, .bool t299]) ?_ 6 _ rfl; (with_reducible repeat (first | refine blk_drewN ?_ _ | refine blk_drew ?_ | refine blk_alloc ?_ _)); refine blk_put (cs := #[.int .i64 t301, .int .i64 t302, .int .i64 t303, .int .i64 t304, .int .i64 t305, .int .i64 t296, .int .i64 t297, .int .i64 t298, .bool t299]) ?_ 5 _ rfl; (with_reducible repeat (first | refine blk_drewN ?_ _ | refine blk_drew ?_ | refine blk_alloc ?_ _)); refine blk_put (cs := #[.int .i64 t301, .int .i64 t302, .int .i64 t303, .int .i64 t304, .int .i64 t295, .int .i64 t296, .int .i64 t297, .int .i64 t298, .bool t299]) ?_ 4 _ rfl; (with_reducible repeat (first | refine blk_drewN ?_ _ | refine blk_drew ?_ | refine blk_alloc ?_ _)); refine blk_put (cs := #[.int .i64 t301, .int .i64 t302, .int .i64 t303, .int .i64 t294, .int .i64 t295, .int .i64 t296, .int .i64 t297, .int .i64 t298, .bool t299]) ?_ 3 _ rfl; (with_reducible repeat (first | refine blk_drewN ?_ _ | refine blk_drew ?_ | refine blk_alloc ?_ _)); refine blk_put (cs := #[.int .i64 t301, .int .i64 t302, .int .i64 t293, .int .i64 t294, .int .i64 t295, .int .i64 t296, .int .i64 t297, .int .i64 t298, .bool t299]) ?_ 2 _ rfl; (with_reducible repeat (first | refine blk_drewN ?_ _ | refine blk_drew ?_ | refine blk_alloc ?_ _)); refine blk_put (cs := #[.int .i64 t301, .int .i64 t292, .int .i64 t293, .int .i64 t294, .int .i64 t295, .int .i64 t296, .int .i64 t297, .int .i64 t298, .bool t299]) ?_ 1 _ rfl; (with_reducible repeat (first | refine blk_drewN ?_ _ | refine blk_drew ?_ | refine blk_alloc ?_ _)); refine blk_put (cs := #[.int .i64 t291, .int .i64 t292, .int .i64 t293, .int .i64 t294, .int .i64 t295, .int .i64 t296, .int .i64 t297, .int .i64 t298, .bool t299]) ?_ 0 _ rfl; (with_reducible repeat (first | refine blk_drewN ?_ _ | refine blk_drew ?_ | refine blk_alloc ?_ _)); exact BK290.out⟩, ⟨by repeat (first | (with_reducible first | exact HB.out | apply below_alloc | apply pw_below_drewN | apply below_drew1 | refine below_set ?_ GE290.out) | exact HB.out)⟩⟩
    ·
     replace c17 := Bool.eq_false_iff.mpr c17
     subst c17
     have H1 : (laws_FnTurned.j0 k (Int.tmod (wrap64 (t287 * 3)) 360) (Int.tmod (wrap64 (t288 * 7)) 360) true t301 t302 t303 t304 t305 t306 t307 t308 t309) = some r := by rw [if_neg (show ¬ (false = true) by decide)] at H; exact H
     clear H
     have H := H1
     clear H1
     have H' := Aside0.mk H
     clear H
     go_wp2
     go_meet
     case rel => exact ⟨_, (true), (by first | rfl | (simp; done) | (simp [*]; done)), H', ⟨by first | omega | exact Nat.le_refl _⟩, ⟨by (with_reducible repeat (first | refine blk_drewN ?_ _ | refine blk_drew ?_ | refine blk_alloc ?_ _)); refine blk_put (cs := #[.int .i64 t301, .int .i64 t302, .int .i64 t303, .int .i64 t304, .int .i64 t305, .int .i64 t306, .int .i64 t307, .int .i64 t308, .bool t299]) ?_ 8 _ rfl; (with_reducible repeat (first | refine blk_drewN ?_ _ | refine blk_drew ?_ | refine blk_alloc ?_ _)); refine blk_put (cs := #[.int .i64 t301, .int .i64 t302, .int .i64 t303, .int .i64 t304, .int .i64 t305, .int .i64 t306, .int .i64 t307, .int .i64 t298, .bool t299]) ?_ 7 _ rfl; (with_reducible repeat (first | refine blk_drewN ?_ _ | refine blk_drew ?_ | refine blk_alloc ?_ _)); refine blk_put (cs := #[.int .i64 t301, .int .i64 t302, .int .i64 t303, .int .i64 t304, .int .i64 t305, .int .i64 t306, .int .i64 t297, .int .i64 t298, .bool t299]) ?_ 6 _ rfl; (with_reducible repeat (first | refine blk_drewN ?_ _ | refine blk_drew ?_ | refine blk_alloc ?_ _)); refine blk_put (cs := #[.int .i64 t301, .int .i64 t302, .int .i64 t303, .int .i64 t304, .int .i64 t305, .int .i64 t296, .int .i64 t297, .int .i64 t298, .bool t299]) ?_ 5 _ rfl; (with_reducible repeat (first | refine blk_drewN ?_ _ | refine blk_drew ?_ | refine blk_alloc ?_ _)); refine blk_put (cs := #[.int .i64 t301, .int .i64 t302, .int .i64 t303, .int .i64 t304, .int .i64 t295, .int .i64 t296, .int .i64 t297, .int .i64 t298, .bool t299]) ?_ 4 _ rfl; (with_reducible repeat (first | refine blk_drewN ?_ _ | refine blk_drew ?_ | refine blk_alloc ?_ _)); refine blk_put (cs := #[.int .i64 t301, .int .i64 t302, .int .i64 t303, .int .i64 t294, .int .i64 t295, .int .i64 t296, .int .i64 t297, .int .i64 t298, .bool t299]) ?_ 3 _ rfl; (with_reducible repeat (first | refine blk_drewN ?_ _ | refine blk_drew ?_ | refine blk_alloc ?_ _)); refine blk_put (cs := #[.int .i64 t301, .int .i64 t302, .int .i64 t293, .int .i64 t294, .int .i64 t295, .int .i64 t296, .int .i64 t297, .int .i64 t298, .bool t299]) ?_ 2 _ rfl; (with_reducible repeat (first | refine blk_drewN ?_ _ | refine blk_drew ?_ | refine blk_alloc ?_ _)); refine blk_put (cs := #[.int .i64 t301, .int .i64 t292, .int .i64 t293, .int .i64 t294, .int .i64 t295, .int .i64 t296, .int .i64 t297, .int .i64 t298, .bool t299]) ?_ 1 _ rfl; (with_reducible repeat (first | refine blk_drewN ?_ _ | refine blk_drew ?_ | refine blk_alloc ?_ _)); refine blk_put (cs := #[.int .i64 t291, .int .i64 t292, .int .i64 t293, .int .i64 t294, .int .i64 t295, .int .i64 t296, .int .i64 t297, .int .i64 t298, .bool t299]) ?_ 0 _ rfl; (with_reducible repeat (first | refine blk_drewN ?_ _ | refine blk_drew ?_ | refine blk_alloc ?_ _)); exact BK290.out⟩, ⟨by repeat (first | (with_reducible first | exact HB.out | apply below_alloc | apply pw_below_drewN | apply below_drew1 | refine below_set ?_ GE290.out) | exact HB.out)⟩⟩
   ·
    replace c16 := Bool.eq_false_iff.mpr c16
    subst c16
    have H1 : (laws_FnTurned.j0 k (Int.tmod (wrap64 (t287 * 3)) 360) (Int.tmod (wrap64 (t288 * 7)) 360) true t301 t302 t303 t304 t305 t306 t307 t308 t309) = some r := by rw [if_neg (show ¬ (false = true) by decide)] at H; exact H
    clear H
    have H := H1
    clear H1
    have H' := Aside0.mk H
    clear H
    go_wp2
    go_meet
    case rel => exact ⟨_, (true), (by first | rfl | (simp; done) | (simp [*]; done)), H', ⟨by first | omega | exact Nat.le_refl _⟩, ⟨by (with_reducible repeat (first | refine blk_drewN ?_ _ | refine blk_drew ?_ | refine blk_alloc ?_ _)); refine blk_put (cs := #[.int .i64 t301, .int .i64 t302, .int .i64 t303, .int .i64 t304, .int .i64 t305, .int .i64 t306, .int .i64 t307, .int .i64 t308, .bool t299]) ?_ 8 _ rfl; (with_reducible repeat (first | refine blk_drewN ?_ _ | refine blk_drew ?_ | refine blk_alloc ?_ _)); refine blk_put (cs := #[.int .i64 t301, .int .i64 t302, .int .i64 t303, .int .i64 t304, .int .i64 t305, .int .i64 t306, .int .i64 t307, .int .i64 t298, .bool t299]) ?_ 7 _ rfl; (with_reducible repeat (first | refine blk_drewN ?_ _ | refine blk_drew ?_ | refine blk_alloc ?_ _)); refine blk_put (cs := #[.int .i64 t301, .int .i64 t302, .int .i64 t303, .int .i64 t304, .int .i64 t305, .int .i64 t306, .int .i64 t297, .int .i64 t298, .bool t299]) ?_ 6 _ rfl; (with_reducible repeat (first | refine blk_drewN ?_ _ | refine blk_drew ?_ | refine blk_alloc ?_ _)); refine blk_put (cs := #[.int .i64 t301, .int .i64 t302, .int .i64 t303, .int .i64 t304, .int .i64 t305, .int .i64 t296, .int .i64 t297, .int .i64 t298, .bool t299]) ?_ 5 _ rfl; (with_reducible repeat (first | refine blk_drewN ?_ _ | refine blk_drew ?_ | refine blk_alloc ?_ _)); refine blk_put (cs := #[.int .i64 t301, .int .i64 t302, .int .i64 t303, .int .i64 t304, .int .i64 t295, .int .i64 t296, .int .i64 t297, .int .i64 t298, .bool t299]) ?_ 4 _ rfl; (with_reducible repeat (first | refine blk_drewN ?_ _ | refine blk_drew ?_ | refine blk_alloc ?_ _)); refine blk_put (cs := #[.int .i64 t301, .int .i64 t302, .int .i64 t303, .int .i64 t294, .int .i64 t295, .int .i64 t296, .int .i64 t297, .int .i64 t298, .bool t299]) ?_ 3 _ rfl; (with_reducible repeat (first | refine blk_drewN ?_ _ | refine blk_drew ?_ | refine blk_alloc ?_ _)); refine blk_put (cs := #[.int .i64 t301, .int .i64 t302, .int .i64 t293, .int .i64 t294, .int .i64 t295, .int .i64 t296, .int .i64 t297, .int .i64 t298, .bool t299]) ?_ 2 _ rfl; (with_reducible repeat (first | refine blk_drewN ?_ _ | refine blk_drew ?_ | refine blk_alloc ?_ _)); refine blk_put (cs := #[.int .i64 t301, .int .i64 t292, .int .i64 t293, .int .i64 t294, .int .i64 t295, .int .i64 t296, .int .i64 t297, .int .i64 t298, .bool t299]) ?_ 1 _ rfl; (with_reducible repeat (first | refine blk_drewN ?_ _ | refine blk_drew ?_ | refine blk_alloc ?_ _)); refine blk_put (cs := #[.int .i64 t291, .int .i64 t292, .int .i64 t293, .int .i64 t294, .int .i64 t295, .int .i64 t296, .int .i64 t297, .int .i64 t298, .bool t299]) ?_ 0 _ rfl; (with_reducible repeat (first | refine blk_drewN ?_ _ | refine blk_drew ?_ | refine blk_alloc ?_ _)); exact BK290.out⟩, ⟨by repeat (first | (with_reducible first | exact HB.out | apply below_alloc | apply pw_below_drewN | apply below_drew1 | refine below_set ?_ GE290.out) | exact HB.out)⟩⟩
  case rest =>
   clear HC9
   try clear c1
   try clear p2
   try clear c3
   try clear c6
   try clear p6
   try clear c12
   try clear c13
   try clear c14
   try clear c16
   try clear c17
   try clear c18
   try clear c18b0
   try clear c18b1
   try clear hcz11_0
   try clear hcz11_1
   try clear hcz11_2
   try clear hcz11_3
   try clear hcz11_4
   try clear hcz11_5
   try clear hcz11_6
   try clear hcz11_7
   try clear hcz11_8
   try clear hcz13_0
   try clear hcz13_1
   try clear hcz13_2
   try clear hcz13_3
   try clear hcz13_4
   try clear hcz13_5
   try clear hcz13_6
   try clear hcz13_7
   try clear hcz13_8
   try clear hcz15_0
   try clear hcz15_1
   try clear hcz15_2
   try clear hcz15_3
   try clear hcz15_4
   try clear hcz15_5
   try clear hcz15_6
   try clear hcz15_7
   try clear hcz15_8
   try clear hcz19_0
   try clear hcz19_1
   try clear hcz19_2
   try clear hcz19_3
   try clear hcz19_4
   try clear hcz19_5
   try clear hcz19_6
   try clear hcz19_7
   try clear hcz19_8
   try clear hcz20_0
   try clear hcz20_1
   try clear hcz20_2
   try clear hcz20_3
   try clear hcz20_4
   try clear hcz20_5
   try clear hcz20_6
   try clear hcz20_7
   try clear hcz20_8
   try clear hfz11_0
   try clear hfz11_1
   try clear hfz11_2
   try clear hfz11_3
   try clear hfz11_4
   try clear hfz11_5
   try clear hfz11_6
   try clear hfz11_7
   try clear hfz11_8
   try clear hfz13_0
   try clear hfz13_1
   try clear hfz13_2
   try clear hfz13_3
   try clear hfz13_4
   try clear hfz13_5
   try clear hfz13_6
   try clear hfz13_7
   try clear hfz13_8
   try clear hfz15_0
   try clear hfz15_1
   try clear hfz15_2
   try clear hfz15_3
   try clear hfz15_4
   try clear hfz15_5
   try clear hfz15_6
   try clear hfz15_7
   try clear hfz15_8
   try clear hfz19_0
   try clear hfz19_1
   try clear hfz19_2
   try clear hfz19_3
   try clear hfz19_4
   try clear hfz19_5
   try clear hfz19_6
   try clear hfz19_7
   try clear hfz19_8
   try clear hfz20_0
   try clear hfz20_1
   try clear hfz20_2
   try clear hfz20_3
   try clear hfz20_4
   try clear hfz20_5
   try clear hfz20_6
   try clear hfz20_7
   try clear hfz20_8
   obtain ⟨kq, x54_8, rfl, HA, HJ8, BK290, HB⟩ := hcut
   cases kq with
   | zero => exact absurd HA.out (by simp [laws_FnTurned.j0])
   | succ kj8 =>
    have H := HA.out
    clear HA
    simp only [laws_FnTurned.j0] at H
    by_cases c21 : x54_8 = true
    ·
     subst c21
     have H1 : (some false) = some r := by rw [if_pos rfl] at H; exact H
     clear H
     have H := H1
     clear H1
     obtain rfl := Option.some.inj H
     go_wp2
     go_ret
     exact ⟨by first | rfl | (simp [errW_none, errW_some] <;> rfl) | (simp [*, errW_none, errW_some] <;> rfl), by repeat (first | (with_reducible first | exact HB.out | apply below_alloc | apply pw_below_drewN | apply below_drew1 | refine below_set ?_ GE290.out) | exact HB.out)⟩
    ·
     replace c21 := Bool.eq_false_iff.mpr c21
     subst c21
     have H1 : (if 60 ≤ 35184372088832 then ((impl_Ticks.f kj8 t301 t302 t303 t304 t305 t306 t307 t308 false (List.replicate 60 0)).bind fun bt314 => (if bt314.2 = true then (if (bt314.1.length : Int) = 60 then (if 59 < (bt314.1.length : Int) then (laws_FnTurned.j1 kj8 (Int.tmod (wrap64 (t287 * 3)) 360) (Int.tmod (wrap64 (t288 * 7)) 360) bt314.1 (((rd_T25 bt314.1 59).f5) != (Int.tmod (wrap64 (t288 * 7)) 360)) t301 t302 t303 t304 t305 t306 t307 t308 false) else (none)) else (laws_FnTurned.j1 kj8 (Int.tmod (wrap64 (t287 * 3)) 360) (Int.tmod (wrap64 (t288 * 7)) 360) bt314.1 true t301 t302 t303 t304 t305 t306 t307 t308 false)) else (laws_FnTurned.j1 kj8 (Int.tmod (wrap64 (t287 * 3)) 360) (Int.tmod (wrap64 (t288 * 7)) 360) bt314.1 true t301 t302 t303 t304 t305 t306 t307 t308 false))) else (none)) = some r := by rw [if_neg (show ¬ (false = true) by decide)] at H; exact H
     clear H
     have H := H1
     clear H1
     by_cases c22 : 60 ≤ 35184372088832
     ·
      rw [if_pos c22] at H
      have c22b0 := eq_true c22
      have c22b1 : decide (60 ≤ 35184372088832) = true := decide_eq_true c22
      clear c22
      obtain ⟨y311, hy311⟩ : ∃ y_ : List Int, y_ = (List.replicate 60 0) := ⟨_, rfl⟩
      replace H : ((impl_Ticks.f kj8 t301 t302 t303 t304 t305 t306 t307 t308 false y311).bind fun bt314 => (if bt314.2 = true then (if (bt314.1.length : Int) = 60 then (if 59 < (bt314.1.length : Int) then (laws_FnTurned.j1 kj8 (Int.tmod (wrap64 (t287 * 3)) 360) (Int.tmod (wrap64 (t288 * 7)) 360) bt314.1 (((rd_T25 bt314.1 59).f5) != (Int.tmod (wrap64 (t288 * 7)) 360)) t301 t302 t303 t304 t305 t306 t307 t308 false) else (none)) else (laws_FnTurned.j1 kj8 (Int.tmod (wrap64 (t287 * 3)) 360) (Int.tmod (wrap64 (t288 * 7)) 360) bt314.1 true t301 t302 t303 t304 t305 t306 t307 t308 false)) else (laws_FnTurned.j1 kj8 (Int.tmod (wrap64 (t287 * 3)) 360) (Int.tmod (wrap64 (t288 * 7)) 360) bt314.1 true t301 t302 t303 t304 t305 t306 t307 t308 false))) = some r := by first | (rw [hy311]; with_reducible exact H) | (have H2_ := (Option.bind_some _ _).symm.trans H; rw [hy311]; with_reducible exact H2_) | (have H2_ := (Option.bind_some _ _).symm.trans H; with_reducible exact H2_) | with_reducible exact H | (rw [hy311]; exact H) | exact H
      have Ny311 := Aside0.mk hy311
      clear hy311
      replace H := Option.bind_eq_some_iff.mp H
      obtain ⟨⟨t314, t317⟩, A230, H⟩ := H
      replace H : (if t317 = true then (if (t314.length : Int) = 60 then (if 59 < (t314.length : Int) then (laws_FnTurned.j1 kj8 (Int.tmod (wrap64 (t287 * 3)) 360) (Int.tmod (wrap64 (t288 * 7)) 360) t314 (((rd_T25 t314 59).f5) != (Int.tmod (wrap64 (t288 * 7)) 360)) t301 t302 t303 t304 t305 t306 t307 t308 false) else (none)) else (laws_FnTurned.j1 kj8 (Int.tmod (wrap64 (t287 * 3)) 360) (Int.tmod (wrap64 (t288 * 7)) 360) t314 true t301 t302 t303 t304 t305 t306 t307 t308 false)) else (laws_FnTurned.j1 kj8 (Int.tmod (wrap64 (t287 * 3)) 360) (Int.tmod (wrap64 (t288 * 7)) 360) t314 true t301 t302 t303 t304 t305 t306 t307 t308 false)) = some r := H
      have A23 := Aside0.mk A230
      clear A230
      have HC24 := Aside0.mk H
      clear H
      have hcz25_0 : wc.cell? ⟨gb290, 0, none⟩ = some (.int .i64 t301) := (blk_cell BK290.out 0).trans rfl
      have hcz25_1 : wc.cell? ⟨gb290, 1, none⟩ = some (.int .i64 t302) := (blk_cell BK290.out 1).trans rfl
      have hcz25_2 : wc.cell? ⟨gb290, 2, none⟩ = some (.int .i64 t303) := (blk_cell BK290.out 2).trans rfl
      have hcz25_3 : wc.cell? ⟨gb290, 3, none⟩ = some (.int .i64 t304) := (blk_cell BK290.out 3).trans rfl
      have hcz25_4 : wc.cell? ⟨gb290, 4, none⟩ = some (.int .i64 t305) := (blk_cell BK290.out 4).trans rfl
      have hcz25_5 : wc.cell? ⟨gb290, 5, none⟩ = some (.int .i64 t306) := (blk_cell BK290.out 5).trans rfl
      have hcz25_6 : wc.cell? ⟨gb290, 6, none⟩ = some (.int .i64 t307) := (blk_cell BK290.out 6).trans rfl
      have hcz25_7 : wc.cell? ⟨gb290, 7, none⟩ = some (.int .i64 t308) := (blk_cell BK290.out 7).trans rfl
      have hcz25_8 : wc.cell? ⟨gb290, 8, none⟩ = some (.bool t309) := (blk_cell BK290.out 8).trans rfl
      have hfz25_0 := blk_frozen BK290.out 0
      have hfz25_1 := blk_frozen BK290.out 1
      have hfz25_2 := blk_frozen BK290.out 2
      have hfz25_3 := blk_frozen BK290.out 3
      have hfz25_4 := blk_frozen BK290.out 4
      have hfz25_5 := blk_frozen BK290.out 5
      have hfz25_6 := blk_frozen BK290.out 6
      have hfz25_7 := blk_frozen BK290.out 7
      have hfz25_8 := blk_frozen BK290.out 8
      try go_wp2
      have n0_ : Aside0 ((wc.setCell ⟨gb290, 8, none⟩ (.bool false)).heap[gb290]? = some (.cells #[.int .i64 t301, .int .i64 t302, .int .i64 t303, .int .i64 t304, .int .i64 t305, .int .i64 t306, .int .i64 t307, .int .i64 t308, .bool false] 25 (0, 0))) := ⟨by (with_reducible repeat (first | refine blk_drewN ?_ _ | refine blk_drew ?_ | refine blk_alloc ?_ _)); refine blk_put (cs := #[.int .i64 t301, .int .i64 t302, .int .i64 t303, .int .i64 t304, .int .i64 t305, .int .i64 t306, .int .i64 t307, .int .i64 t308, .bool t309]) ?_ 8 _ rfl; (with_reducible repeat (first | refine blk_drewN ?_ _ | refine blk_drew ?_ | refine blk_alloc ?_ _)); exact BK290.out⟩
      have n1_ : Aside0 (Below w.heap.size w (wc.setCell ⟨gb290, 8, none⟩ (.bool false))) := ⟨by repeat (first | (with_reducible first | exact HB.out | apply below_alloc | apply pw_below_drewN | apply below_drew1 | refine below_set ?_ GE290.out) | exact HB.out)⟩
      (try (have hsd_ : ∀ (W_ : World) (n_ : Nat) (a_ : Addr) (v_ : Value), (W_.drewN n_).setCell a_ v_ = (W_.setCell a_ v_).drewN n_ := fun _ _ _ _ => rfl); simp only [hsd_]; clear hsd_)
      (try clear BK290)
      (try clear HB)
      generalize (wc.setCell ⟨gb290, 8, none⟩ (.bool false)) = w26 at n0_ n1_ ⊢
      have BK290 := n0_
      have HB := n1_
      clear n0_ n1_
      have n0_ := Aside0.mk (blk_drew BK290.out)
      have n1_ := Aside0.mk (below_drew1 HB.out)
      clear BK290
      clear HB
      have BK290 := n0_
      have HB := n1_
      clear n0_ n1_
      refine start_ (n := 8) (S := fun w' => w'.cell? ⟨gb290, 0, none⟩ = some (.int .i64 t301) ∧ w'.cell? ⟨gb290, 1, none⟩ = some (.int .i64 t302) ∧ w'.cell? ⟨gb290, 2, none⟩ = some (.int .i64 t303) ∧ w'.cell? ⟨gb290, 3, none⟩ = some (.int .i64 t304) ∧ w'.cell? ⟨gb290, 4, none⟩ = some (.int .i64 t305) ∧ w'.cell? ⟨gb290, 5, none⟩ = some (.int .i64 t306) ∧ w'.cell? ⟨gb290, 6, none⟩ = some (.int .i64 t307) ∧ w'.cell? ⟨gb290, 7, none⟩ = some (.int .i64 t308) ∧ w'.cell? ⟨gb290, 8, none⟩ = some (.bool false)) (ds := []) #[f9, f9, f9, f9, f9, f9, f9, f9] (by kernel_rfl) rfl rfl ⟨(blk_cell BK290.out 0).trans rfl, (blk_cell BK290.out 1).trans rfl, (blk_cell BK290.out 2).trans rfl, (blk_cell BK290.out 3).trans rfl, (blk_cell BK290.out 4).trans rfl, (blk_cell BK290.out 5).trans rfl, (blk_cell BK290.out 6).trans rfl, (blk_cell BK290.out 7).trans rfl, (blk_cell BK290.out 8).trans rfl⟩ (fun hHeld => ?_); refine with_tabW laws_FnTurned.tab10 laws_FnTurned.bits10 (fun HT_ HW_ => ?_)
      generalize w26.drew = w27 at BK290 HB hHeld ⊢
      refine take_ (i := 0) (N := some 57) (v := ?_) (a' := ?_) #[t9, f9, f9, f9, f9, f9, f9, f9] rfl rfl (take_ofW HT_.out HW_.out (by kernel_rfl)) (fun _ _ _ h => h) (Or.inl ⟨by rfl, ?_⟩) hHeld ?_ ?_
      rotate_left
      ·
       rintro w' ⟨s0, s1, s2, s3, s4, s5, s6, s7, s8⟩
       go_simp
       with_reducible rfl
      rotate_left
      ·
       simp only [Act.put, List.setIfInBounds_toArray, List.set_cons_zero, List.set_cons_succ, i64_w, i32_w]
       rfl
      refine one_ (i := 1) (N := some 58) #[t9, t9, f9, f9, f9, f9, f9, f9] rfl rfl (one_of HT_.out (by kernel_rfl)) (by decide) (fun K hK => ?_)
      refine Kd.R_make_step (Kd.int .i64) _ 3 (by rfl) (N := 58) rfl 36 _ _ rfl 60 rfl rfl Try.underlying36 (.int .i64 0) 8 info3 rfl (by decide) (by omega) 0 (ok := fun _ => True) (okp := fun _ => True) rfl (fun _ hk => hk) trivial (by omega) (by omega) (Below.refl _ _) (Nat.le_refl _) ?_
      intro v312 w28 ho29 hb hg_ hnew_
      clear hg_ hnew_
      (first | rw [← Ny311.out] at ho29 | (simp only [Int.reduceToNat] at ho29; rw [← Ny311.out] at ho29))
      have n0_ := Aside0.mk (Kd.R_lower ho29 (below_size (by repeat (first | (with_reducible first | exact HB.out | apply below_alloc | apply pw_below_drewN | apply below_drew1 | refine below_set ?_ GE290.out) | exact HB.out))))
      have n1_ := Aside0.mk (blk_below (g := gb290) (o := .cells #[.int .i64 t301, .int .i64 t302, .int .i64 t303, .int .i64 t304, .int .i64 t305, .int .i64 t306, .int .i64 t307, .int .i64 t308, .bool false] 25 (0, 0)) (by (with_reducible repeat (first | refine blk_drewN ?_ _ | refine blk_drew ?_ | refine blk_alloc ?_ _)); exact BK290.out) hb)
      have n2_ := Aside0.mk (below_step (by repeat (first | (with_reducible first | exact HB.out | apply below_alloc | apply pw_below_drewN | apply below_drew1 | refine below_set ?_ GE290.out) | exact HB.out)) hb)
      clear BK290
      clear HB
      have HO313 := n0_
      have BK290 := n1_
      have HB := n2_
      clear n0_ n1_ n2_
      clear hb ho29
      obtain ⟨Ao30, co30, eo30⟩ := Kd.R_slice HO313.out
      (first | subst eo30 | (injection eo30 with f1_ f2_ f3_; have f4_ := f1_.symm; have f5_ := f3_.symm; clear f1_ f2_ f3_; subst f4_; subst f5_))
      refine hK.out _ _ ⟨(blk_cell BK290.out 0).trans rfl, (blk_cell BK290.out 1).trans rfl, (blk_cell BK290.out 2).trans rfl, (blk_cell BK290.out 3).trans rfl, (blk_cell BK290.out 4).trans rfl, (blk_cell BK290.out 5).trans rfl, (blk_cell BK290.out 6).trans rfl, (blk_cell BK290.out 7).trans rfl, (blk_cell BK290.out 8).trans rfl⟩ (fun hHeld => ?_)
      clear hK K
      refine norm_ (a' := ?_) ?_ ?_
      rotate_left
      ·
       show Act.put _ (some 58) _ = _
       simp only [Act.put, List.setIfInBounds_toArray, List.set_cons_zero, List.set_cons_succ, i64_w, i32_w]
       rfl
      refine one_ (i := 2) (N := some 59) #[t9, t9, t9, f9, f9, f9, f9, f9] rfl rfl (one_of HT_.out (by kernel_rfl)) (by decide) (fun K hK => ?_)
      refine goes_ Try.func15 (by kernel_rfl) rfl #[.agg #[.int .i64 t301, .int .i64 t302, .int .i64 t303, .int .i64 t304, .int .i64 t305, .int .i64 t306, .int .i64 t307, .int .i64 t308, .bool false], .slice Ao30 y311.length co30] (by rfl) rfl rfl (by (try simp only [List.map_toArray, List.map_cons, List.map_nil]); first | done | rfl | (simp only [List.length_drop, List.length_take]; rfl)) ?_
      with_reducible refine (impl_Ticks.calls kj8 t301 t302 t303 t304 t305 t306 t307 t308 false _ _ y311 t314 t317 _ ?side1 ?side2 A23.out).mono ?_
      (case side1 => repeat (first | exact (Kd.R_reads' HO313.out).2.2 | (with_reducible refine Kd.C_alloc ?_ _) | (with_reducible refine Kd.C_drewN ?_ _) | (with_reducible refine Kd.C_drew ?_)))
      (case side2 => exact (Kd.R_reads' HO313.out).2.1)
      rintro e w31 ⟨v315, rfl, ho0, hb⟩
      refine ⟨_, rfl, ?_⟩
      have n0_ := Aside0.mk (Kd.R_below (by (with_reducible repeat (first | apply Kd.R_alloc | apply Kd.R_drewN | apply Kd.R_drew)); exact HO313.out) hb)
      have n1_ := Aside0.mk (Kd.R_lower (Kd.R_newB ho0 (g := gb290) (o := .cells #[.int .i64 t301, .int .i64 t302, .int .i64 t303, .int .i64 t304, .int .i64 t305, .int .i64 t306, .int .i64 t307, .int .i64 t308, .bool false] 25 (0, 0)) (by (with_reducible repeat (first | refine blk_drewN ?_ _ | refine blk_drew ?_ | refine blk_alloc ?_ _)); exact BK290.out)) (below_size (by repeat (first | (with_reducible first | exact HB.out | apply below_alloc | apply pw_below_drewN | apply below_drew1 | refine below_set ?_ GE290.out) | exact HB.out))))
      have n2_ := Aside0.mk (blk_below (g := gb290) (o := .cells #[.int .i64 t301, .int .i64 t302, .int .i64 t303, .int .i64 t304, .int .i64 t305, .int .i64 t306, .int .i64 t307, .int .i64 t308, .bool false] 25 (0, 0)) (by (with_reducible repeat (first | refine blk_drewN ?_ _ | refine blk_drew ?_ | refine blk_alloc ?_ _)); exact BK290.out) hb)
      have n3_ := Aside0.mk (below_step (by repeat (first | (with_reducible first | exact HB.out | apply below_alloc | apply pw_below_drewN | apply below_drew1 | refine below_set ?_ GE290.out) | exact HB.out)) hb)
      clear HO313
      clear BK290
      clear HB
      have HO313 := n0_
      have HO316 := n1_
      have BK290 := n2_
      have HB := n3_
      clear n0_ n1_ n2_ n3_
      (try clear hb)
      (try clear hb2)
      (try clear hk)
      (try clear hi)
      (try clear ho0)
      refine hK.out _ _ ⟨(blk_cell BK290.out 0).trans rfl, (blk_cell BK290.out 1).trans rfl, (blk_cell BK290.out 2).trans rfl, (blk_cell BK290.out 3).trans rfl, (blk_cell BK290.out 4).trans rfl, (blk_cell BK290.out 5).trans rfl, (blk_cell BK290.out 6).trans rfl, (blk_cell BK290.out 7).trans rfl, (blk_cell BK290.out 8).trans rfl⟩ (fun hHeld => ?_)
      clear hK K
      refine norm_ (a' := ?_) ?_ ?_
      rotate_left
      ·
       show Act.put _ (some 59) _ = _
       simp only [Act.put, List.setIfInBounds_toArray, List.set_cons_zero, List.set_cons_succ, i64_w, i32_w]
       rfl
      refine pure_ (i := 3) (N := some 56) (v := ?_) (a' := ?_) #[t9, t9, t9, t9, f9, f9, f9, f9] rfl rfl (any_of HT_.out (by kernel_rfl)) (fun _ _ _ h => h) (Or.inl ⟨by rfl, ?_⟩) ?_ ?_
      rotate_left
      ·
       intro w'
       go_simp
       with_reducible rfl
      rotate_left
      ·
       simp only [Act.put, List.setIfInBounds_toArray, List.set_cons_zero, List.set_cons_succ, i64_w, i32_w]
       rfl
      refine pure_ (i := 4) (N := some 60) (v := ?_) (a' := ?_) #[t9, t9, t9, t9, t9, f9, f9, f9] rfl rfl (any_of HT_.out (by kernel_rfl)) (fun _ _ _ h => h) (Or.inl ⟨by rfl, ?_⟩) ?_ ?_
      rotate_left
      ·
       intro w'
       go_simp
       with_reducible rfl
      rotate_left
      ·
       simp only [Act.put, List.setIfInBounds_toArray, List.set_cons_zero, List.set_cons_succ, i64_w, i32_w]
       rfl
      refine pure_ (i := 5) (N := some 61) (v := ?_) (a' := ?_) #[t9, t9, t9, t9, t9, t9, f9, f9] rfl rfl (any_of HT_.out (by kernel_rfl)) (fun _ _ _ h => h) (Or.inl ⟨by rfl, ?_⟩) ?_ ?_
      rotate_left
      ·
       intro w'
       go_simp
       with_reducible rfl
      rotate_left
      ·
       simp only [Act.put, List.setIfInBounds_toArray, List.set_cons_zero, List.set_cons_succ, i64_w, i32_w]
       rfl
      refine pure_ (i := 6) (N := some 8) (v := ?_) (a' := ?_) #[t9, t9, t9, t9, t9, t9, t9, f9] rfl rfl (any_of HT_.out (by kernel_rfl)) (fun _ _ _ h => h) (Or.inl ⟨by rfl, ?_⟩) ?_ ?_
      rotate_left
      ·
       intro w'
       go_simp
       with_reducible rfl
      rotate_left
      ·
       simp only [Act.put, List.setIfInBounds_toArray, List.set_cons_zero, List.set_cons_succ, i64_w, i32_w]
       rfl
      refine pure_ (i := 7) (N := some 9) (v := ?_) (a' := ?_) #[t9, t9, t9, t9, t9, t9, t9, t9] rfl rfl (any_of HT_.out (by kernel_rfl)) (fun _ _ _ h => h) (Or.inl ⟨by rfl, ?_⟩) ?_ ?_
      rotate_left
      ·
       intro w'
       go_simp
       with_reducible rfl
      rotate_left
      ·
       simp only [Act.put, List.setIfInBounds_toArray, List.set_cons_zero, List.set_cons_succ, i64_w, i32_w]
       rfl
      refine done_ (done_of HT_.out (by kernel_rfl)) ?_
      go_upto_region 11 with (fail)
      go_cut [76] (fun v76 wc => ∃ (kq : Nat) (x76_23 : Bool), v76 = .bool x76_23 ∧ Aside0 (laws_FnTurned.j1 kq (Int.tmod (wrap64 (t287 * 3)) 360) (Int.tmod (wrap64 (t288 * 7)) 360) t314 x76_23 t301 t302 t303 t304 t305 t306 t307 t308 false = some r) ∧ Aside0 (kq ≤ kj8) ∧ Aside0 (Kd.R k25 25 wc w.heap.size (fun k_ => k_ ≠ gb290) v315 t314) ∧ Aside0 (wc.heap[gb290]? = some (.cells #[.int .i64 t301, .int .i64 t302, .int .i64 t303, .int .i64 t304, .int .i64 t305, .int .i64 t306, .int .i64 t307, .int .i64 t308, .bool false] 25 (0, 0))) ∧ Aside0 (Below w.heap.size w wc))
      case first =>
       have H := HC24.out
       clear HC24
       by_cases c32 : t317 = true
       ·
        subst c32
        have H1 : (if (t314.length : Int) = 60 then (if 59 < (t314.length : Int) then (laws_FnTurned.j1 kj8 (Int.tmod (wrap64 (t287 * 3)) 360) (Int.tmod (wrap64 (t288 * 7)) 360) t314 (((rd_T25 t314 59).f5) != (Int.tmod (wrap64 (t288 * 7)) 360)) t301 t302 t303 t304 t305 t306 t307 t308 false) else (none)) else (laws_FnTurned.j1 kj8 (Int.tmod (wrap64 (t287 * 3)) 360) (Int.tmod (wrap64 (t288 * 7)) 360) t314 true t301 t302 t303 t304 t305 t306 t307 t308 false)) = some r := by rw [if_pos rfl] at H; exact H
        clear H
        have H := H1
        clear H1
        by_cases c33 : (t314.length : Int) = 60
        ·
         rw [if_pos c33] at H
         have c33b0 : ((t314.length : Int) == 60) = true := beq_iff_eq.mpr c33
         have c33b1 : ((t314.length : Int) != 60) = false := bne_eq_false_iff_eq.mpr c33
         clear c33
         (first | rw [c33b0] | (simp only [i64_w, i32_w]; rw [c33b0]) | skip)
         by_cases c34 : 59 < (t314.length : Int)
         ·
          rw [if_pos c34] at H
          have c34b0 : decide (59 < (t314.length : Int)) = true := decide_eq_true c34
          have c34b1 : decide (59 < t314.length) = true := decide_eq_true (by omega)
          clear c34
          have H' := Aside0.mk H
          clear H
          obtain ⟨Ao35, co35, eo35⟩ := Kd.R_slice HO316.out
          subst eo35
          have p318 : 0 ≤ (59 : Int) := (by omega)
          have q318 : 59 < (t314.length : Int) := of_decide_eq_true (by first | (with_reducible assumption) | assumption)
          obtain ⟨ad318, e318, hx318_0, hx318_1, hx318_2, hx318_3, hx318_4, hx318_5, hx318_6, hx318_7, hx318_8⟩ := at_T25 (Kd.R_reads' HO316.out).2.2 59 p318 q318
          cases e318
          (try simp only [show (59 : Int).toNat = 59 from rfl, Nat.reduceMul, Nat.reduceEqDiff, Go.Addr.add, ↓reduceIte] at hx318_0)
          (try simp only [show (59 : Int).toNat = 59 from rfl, Nat.reduceMul, Nat.reduceEqDiff, Go.Addr.add, ↓reduceIte] at hx318_1)
          (try simp only [show (59 : Int).toNat = 59 from rfl, Nat.reduceMul, Nat.reduceEqDiff, Go.Addr.add, ↓reduceIte] at hx318_2)
          (try simp only [show (59 : Int).toNat = 59 from rfl, Nat.reduceMul, Nat.reduceEqDiff, Go.Addr.add, ↓reduceIte] at hx318_3)
          (try simp only [show (59 : Int).toNat = 59 from rfl, Nat.reduceMul, Nat.reduceEqDiff, Go.Addr.add, ↓reduceIte] at hx318_4)
          (try simp only [show (59 : Int).toNat = 59 from rfl, Nat.reduceMul, Nat.reduceEqDiff, Go.Addr.add, ↓reduceIte] at hx318_5)
          (try simp only [show (59 : Int).toNat = 59 from rfl, Nat.reduceMul, Nat.reduceEqDiff, Go.Addr.add, ↓reduceIte] at hx318_6)
          (try simp only [show (59 : Int).toNat = 59 from rfl, Nat.reduceMul, Nat.reduceEqDiff, Go.Addr.add, ↓reduceIte] at hx318_7)
          (try simp only [show (59 : Int).toNat = 59 from rfl, Nat.reduceMul, Nat.reduceEqDiff, Go.Addr.add, ↓reduceIte] at hx318_8)
          have qi318 : (59 < t314.length) = True := eq_true (by omega)
          (try rw [show ((59 : Int)).toNat = 59 from rfl] at hx318_0)
          (try rw [show 59 * 9 = 531 from rfl] at hx318_0)
          (try rw [show ((59 : Int)).toNat = 59 from rfl] at hx318_1)
          (try rw [show 59 * 9 = 531 from rfl] at hx318_1)
          (try rw [show ((59 : Int)).toNat = 59 from rfl] at hx318_2)
          (try rw [show 59 * 9 = 531 from rfl] at hx318_2)
          (try rw [show ((59 : Int)).toNat = 59 from rfl] at hx318_3)
          (try rw [show 59 * 9 = 531 from rfl] at hx318_3)
          (try rw [show ((59 : Int)).toNat = 59 from rfl] at hx318_4)
          (try rw [show 59 * 9 = 531 from rfl] at hx318_4)
          (try rw [show ((59 : Int)).toNat = 59 from rfl] at hx318_5)
          (try rw [show 59 * 9 = 531 from rfl] at hx318_5)
          (try rw [show ((59 : Int)).toNat = 59 from rfl] at hx318_6)
          (try rw [show 59 * 9 = 531 from rfl] at hx318_6)
          (try rw [show ((59 : Int)).toNat = 59 from rfl] at hx318_7)
          (try rw [show 59 * 9 = 531 from rfl] at hx318_7)
          (try rw [show ((59 : Int)).toNat = 59 from rfl] at hx318_8)
          (try rw [show 59 * 9 = 531 from rfl] at hx318_8)
          replace p318 := eq_true p318
          replace q318 := eq_true q318
          go_wp2
          go_meet
          case rel => exact ⟨_, ((((rd_T25 t314 59).f5) != (Int.tmod (wrap64 (t288 * 7)) 360))), (by first | rfl | (simp; done) | (simp [*]; done)), H', ⟨by have := HJ8.out; first | omega | exact Nat.le_refl _⟩, ⟨by (with_reducible repeat (first | apply Kd.R_alloc | apply Kd.R_drewN | apply Kd.R_drew)); exact Kd.R_mono HO316.out (fun _ hk => hk.2)⟩, ⟨by (with_reducible repeat (first | refine blk_drewN ?_ _ | refine blk_drew ?_ | refine blk_alloc ?_ _)); exact BK290.out⟩, ⟨by repeat (first | (with_reducible first | exact HB.out | apply below_alloc | apply pw_below_drewN | apply below_drew1 | refine below_set ?_ GE290.out) | exact HB.out)⟩⟩
         ·
          rw [if_neg c34] at H
          exact absurd H (by simp)
        ·
         rw [if_neg c33] at H
         have c33b0 : ((t314.length : Int) == 60) = false := beq_eq_false_iff_ne.mpr c33
         have c33b1 : ((t314.length : Int) != 60) = true := bne_iff_ne.mpr c33
         (first | rw [c33b0] | (simp only [i64_w, i32_w]; rw [c33b0]) | skip)
         have H' := Aside0.mk H
         clear H
         obtain ⟨Ao36, co36, eo36⟩ := Kd.R_slice HO316.out
         subst eo36
         go_wp2
         go_meet
         case rel => exact ⟨_, (true), (by first | rfl | (simp; done) | (simp [*]; done)), H', ⟨by have := HJ8.out; first | omega | exact Nat.le_refl _⟩, ⟨by (with_reducible repeat (first | apply Kd.R_alloc | apply Kd.R_drewN | apply Kd.R_drew)); exact Kd.R_mono HO316.out (fun _ hk => hk.2)⟩, ⟨by (with_reducible repeat (first | refine blk_drewN ?_ _ | refine blk_drew ?_ | refine blk_alloc ?_ _)); exact BK290.out⟩, ⟨by repeat (first | (with_reducible first | exact HB.out | apply below_alloc | apply pw_below_drewN | apply below_drew1 | refine below_set ?_ GE290.out) | exact HB.out)⟩⟩
       ·
        replace c32 := Bool.eq_false_iff.mpr c32
        subst c32
        have H1 : (laws_FnTurned.j1 kj8 (Int.tmod (wrap64 (t287 * 3)) 360) (Int.tmod (wrap64 (t288 * 7)) 360) t314 true t301 t302 t303 t304 t305 t306 t307 t308 false) = some r := by rw [if_neg (show ¬ (false = true) by decide)] at H; exact H
        clear H
        have H := H1
        clear H1
        have H' := Aside0.mk H
        clear H
        go_wp2
        go_meet
        case rel => exact ⟨_, (true), (by first | rfl | (simp; done) | (simp [*]; done)), H', ⟨by have := HJ8.out; first | omega | exact Nat.le_refl _⟩, ⟨by (with_reducible repeat (first | apply Kd.R_alloc | apply Kd.R_drewN | apply Kd.R_drew)); exact Kd.R_mono HO316.out (fun _ hk => hk.2)⟩, ⟨by (with_reducible repeat (first | refine blk_drewN ?_ _ | refine blk_drew ?_ | refine blk_alloc ?_ _)); exact BK290.out⟩, ⟨by repeat (first | (with_reducible first | exact HB.out | apply below_alloc | apply pw_below_drewN | apply below_drew1 | refine below_set ?_ GE290.out) | exact HB.out)⟩⟩
      case rest =>
       clear HC24
       try clear c1
       try clear c2
       try clear p2
       try clear c3
       try clear p3
       try clear q3
       try clear hx3
       try clear qi3
       try clear c6
       try clear p6
       try clear c12
       try clear c13
       try clear c14
       try clear c15
       try clear c16
       try clear c17
       try clear c18
       try clear c18b0
       try clear c18b1
       try clear c21
       try clear c22
       try clear c22b0
       try clear c22b1
       try clear p31
       try clear q31
       try clear hx31
       try clear qi31
       try clear c32
       try clear c33
       try clear c33b0
       try clear c33b1
       try clear c34
       try clear c34b0
       try clear c34b1
       try clear hcz11_0
       try clear hcz11_1
       try clear hcz11_2
       try clear hcz11_3
       try clear hcz11_4
       try clear hcz11_5
       try clear hcz11_6
       try clear hcz11_7
       try clear hcz11_8
       try clear hcz13_0
       try clear hcz13_1
       try clear hcz13_2
       try clear hcz13_3
       try clear hcz13_4
       try clear hcz13_5
       try clear hcz13_6
       try clear hcz13_7
       try clear hcz13_8
       try clear hcz15_0
       try clear hcz15_1
       try clear hcz15_2
       try clear hcz15_3
       try clear hcz15_4
       try clear hcz15_5
       try clear hcz15_6
       try clear hcz15_7
       try clear hcz15_8
       try clear hcz19_0
       try clear hcz19_1
       try clear hcz19_2
       try clear hcz19_3
       try clear hcz19_4
       try clear hcz19_5
       try clear hcz19_6
       try clear hcz19_7
       try clear hcz19_8
       try clear hcz20_0
       try clear hcz20_1
       try clear hcz20_2
       try clear hcz20_3
       try clear hcz20_4
       try clear hcz20_5
       try clear hcz20_6
       try clear hcz20_7
       try clear hcz20_8
       try clear hcz25_0
       try clear hcz25_1
       try clear hcz25_2
       try clear hcz25_3
       try clear hcz25_4
       try clear hcz25_5
       try clear hcz25_6
       try clear hcz25_7
       try clear hcz25_8
       try clear hfz11_0
       try clear hfz11_1
       try clear hfz11_2
       try clear hfz11_3
       try clear hfz11_4
       try clear hfz11_5
       try clear hfz11_6
       try clear hfz11_7
       try clear hfz11_8
       try clear hfz13_0
       try clear hfz13_1
       try clear hfz13_2
       try clear hfz13_3
       try clear hfz13_4
       try clear hfz13_5
       try clear hfz13_6
       try clear hfz13_7
       try clear hfz13_8
       try clear hfz15_0
       try clear hfz15_1
       try clear hfz15_2
       try clear hfz15_3
       try clear hfz15_4
       try clear hfz15_5
       try clear hfz15_6
       try clear hfz15_7
       try clear hfz15_8
       try clear hfz19_0
       try clear hfz19_1
       try clear hfz19_2
       try clear hfz19_3
       try clear hfz19_4
       try clear hfz19_5
       try clear hfz19_6
       try clear hfz19_7
       try clear hfz19_8
       try clear hfz20_0
       try clear hfz20_1
       try clear hfz20_2
       try clear hfz20_3
       try clear hfz20_4
       try clear hfz20_5
       try clear hfz20_6
       try clear hfz20_7
       try clear hfz20_8
       try clear hfz25_0
       try clear hfz25_1
       try clear hfz25_2
       try clear hfz25_3
       try clear hfz25_4
       try clear hfz25_5
       try clear hfz25_6
       try clear hfz25_7
       try clear hfz25_8
       try clear hx318_0
       try clear hx318_1
       try clear hx318_2
       try clear hx318_3
       try clear hx318_4
       try clear hx318_5
       try clear hx318_6
       try clear hx318_7
       try clear hx318_8
       try clear p2
       try clear p318
       try clear p6
       try clear q318
       obtain ⟨kq, x76_23, rfl, HA, HJ23, HO_8, BK290, HB⟩ := hcut
       cases kq with
       | zero => exact absurd HA.out (by simp [laws_FnTurned.j1])
       | succ kj23 =>
        have H := HA.out
        clear HA
        simp only [laws_FnTurned.j1] at H
        by_cases c37 : x76_23 = true
        ·
         subst c37
         have H1 : (some false) = some r := by rw [if_pos rfl] at H; exact H
         clear H
         have H := H1
         clear H1
         obtain rfl := Option.some.inj H
         go_wp2
         go_ret
         exact ⟨by first | rfl | (simp [errW_none, errW_some] <;> rfl) | (simp [*, errW_none, errW_some] <;> rfl), by repeat (first | (with_reducible first | exact HB.out | apply below_alloc | apply pw_below_drewN | apply below_drew1 | refine below_set ?_ GE290.out) | exact HB.out)⟩
        ·
         replace c37 := Bool.eq_false_iff.mpr c37
         subst c37
         have H1 : (if (Int.tmod (wrap64 ((wrap64 ((Int.tmod (wrap64 (t288 * 7)) 360) - (Int.tmod (wrap64 (t287 * 3)) 360))) + 360)) 360) > 180 then (if (wrap64 (Int.tdiv (wrap64 ((wrap64 (360 - (Int.tmod (wrap64 ((wrap64 ((Int.tmod (wrap64 (t288 * 7)) 360) - (Int.tmod (wrap64 (t287 * 3)) 360))) + 360)) 360))) + 2)) 3)) > 0 then (if (wrap64 (Int.tdiv (wrap64 ((wrap64 (360 - (Int.tmod (wrap64 ((wrap64 ((Int.tmod (wrap64 (t288 * 7)) 360) - (Int.tmod (wrap64 (t287 * 3)) 360))) + 360)) 360))) + 2)) 3)) < 60 then (if 0 ≤ (wrap64 ((wrap64 (Int.tdiv (wrap64 ((wrap64 (360 - (Int.tmod (wrap64 ((wrap64 ((Int.tmod (wrap64 (t288 * 7)) 360) - (Int.tmod (wrap64 (t287 * 3)) 360))) + 360)) 360))) + 2)) 3)) - 1)) then (if (wrap64 ((wrap64 (Int.tdiv (wrap64 ((wrap64 (360 - (Int.tmod (wrap64 ((wrap64 ((Int.tmod (wrap64 (t288 * 7)) 360) - (Int.tmod (wrap64 (t287 * 3)) 360))) + 360)) 360))) + 2)) 3)) - 1)) < (t314.length : Int) then (laws_FnTurned.j2 kj23 (((rd_T25 t314 (wrap64 ((wrap64 (Int.tdiv (wrap64 ((wrap64 (360 - (Int.tmod (wrap64 ((wrap64 ((Int.tmod (wrap64 (t288 * 7)) 360) - (Int.tmod (wrap64 (t287 * 3)) 360))) + 360)) 360))) + 2)) 3)) - 1))).f5) != (Int.tmod (wrap64 (t288 * 7)) 360)) t301 t302 t303 t304 t305 t306 t307 t308 false) else (none)) else (none)) else (laws_FnTurned.j2 kj23 false t301 t302 t303 t304 t305 t306 t307 t308 false)) else (laws_FnTurned.j2 kj23 false t301 t302 t303 t304 t305 t306 t307 t308 false)) else (if (wrap64 (Int.tdiv (wrap64 ((Int.tmod (wrap64 ((wrap64 ((Int.tmod (wrap64 (t288 * 7)) 360) - (Int.tmod (wrap64 (t287 * 3)) 360))) + 360)) 360) + 2)) 3)) > 0 then (if (wrap64 (Int.tdiv (wrap64 ((Int.tmod (wrap64 ((wrap64 ((Int.tmod (wrap64 (t288 * 7)) 360) - (Int.tmod (wrap64 (t287 * 3)) 360))) + 360)) 360) + 2)) 3)) < 60 then (if 0 ≤ (wrap64 ((wrap64 (Int.tdiv (wrap64 ((Int.tmod (wrap64 ((wrap64 ((Int.tmod (wrap64 (t288 * 7)) 360) - (Int.tmod (wrap64 (t287 * 3)) 360))) + 360)) 360) + 2)) 3)) - 1)) then (if (wrap64 ((wrap64 (Int.tdiv (wrap64 ((Int.tmod (wrap64 ((wrap64 ((Int.tmod (wrap64 (t288 * 7)) 360) - (Int.tmod (wrap64 (t287 * 3)) 360))) + 360)) 360) + 2)) 3)) - 1)) < (t314.length : Int) then (laws_FnTurned.j3 kj23 (((rd_T25 t314 (wrap64 ((wrap64 (Int.tdiv (wrap64 ((Int.tmod (wrap64 ((wrap64 ((Int.tmod (wrap64 (t288 * 7)) 360) - (Int.tmod (wrap64 (t287 * 3)) 360))) + 360)) 360) + 2)) 3)) - 1))).f5) != (Int.tmod (wrap64 (t288 * 7)) 360)) t301 t302 t303 t304 t305 t306 t307 t308 false) else (none)) else (none)) else (laws_FnTurned.j3 kj23 false t301 t302 t303 t304 t305 t306 t307 t308 false)) else (laws_FnTurned.j3 kj23 false t301 t302 t303 t304 t305 t306 t307 t308 false))) = some r := by rw [if_neg (show ¬ (false = true) by decide)] at H; exact H
         clear H
         have H := H1
         clear H1
         by_cases c38 : (Int.tmod (wrap64 ((wrap64 ((Int.tmod (wrap64 (t288 * 7)) 360) - (Int.tmod (wrap64 (t287 * 3)) 360))) + 360)) 360) > 180
         ·
          rw [if_pos c38] at H
          have c38b0 : decide (180 < (Int.tmod (wrap64 ((wrap64 ((Int.tmod (wrap64 (t288 * 7)) 360) - (Int.tmod (wrap64 (t287 * 3)) 360))) + 360)) 360)) = true := decide_eq_true c38
          clear c38
          have HC39 := Aside0.mk H
          clear H
          go_upto_region 17 with (fail)
          go_cut [104, 83] (fun v104 v83 wc => ∃ (kq : Nat) (x104_38 : Bool), v104 = .bool x104_38 ∧ Aside0 (laws_FnTurned.j2 kq x104_38 t301 t302 t303 t304 t305 t306 t307 t308 false = some r) ∧ Aside0 (kq ≤ kj23) ∧ Aside0 (wc.heap[gb290]? = some (.cells #[.int .i64 t301, .int .i64 t302, .int .i64 t303, .int .i64 t304, .int .i64 t305, .int .i64 t306, .int .i64 t307, .int .i64 t308, .bool false] 25 (0, 0))) ∧ Aside0 (Below w.heap.size w wc))
          case first =>
           have H := HC39.out
           clear HC39
           by_cases c40 : (wrap64 (Int.tdiv (wrap64 ((wrap64 (360 - (Int.tmod (wrap64 ((wrap64 ((Int.tmod (wrap64 (t288 * 7)) 360) - (Int.tmod (wrap64 (t287 * 3)) 360))) + 360)) 360))) + 2)) 3)) > 0
           ·
            rw [if_pos c40] at H
            have c40b0 : decide (0 < (wrap64 (Int.tdiv (wrap64 ((wrap64 (360 - (Int.tmod (wrap64 ((wrap64 ((Int.tmod (wrap64 (t288 * 7)) 360) - (Int.tmod (wrap64 (t287 * 3)) 360))) + 360)) 360))) + 2)) 3))) = true := decide_eq_true c40
            clear c40
            (first | rw [c40b0] | (simp only [i64_w, i32_w]; rw [c40b0]) | skip)
            by_cases c41 : (wrap64 (Int.tdiv (wrap64 ((wrap64 (360 - (Int.tmod (wrap64 ((wrap64 ((Int.tmod (wrap64 (t288 * 7)) 360) - (Int.tmod (wrap64 (t287 * 3)) 360))) + 360)) 360))) + 2)) 3)) < 60
            ·
             rw [if_pos c41] at H
             have c41b0 : decide ((wrap64 (Int.tdiv (wrap64 ((wrap64 (360 - (Int.tmod (wrap64 ((wrap64 ((Int.tmod (wrap64 (t288 * 7)) 360) - (Int.tmod (wrap64 (t287 * 3)) 360))) + 360)) 360))) + 2)) 3)) < 60) = true := decide_eq_true c41
             clear c41
             obtain ⟨ji42, hji42⟩ : ∃ j_ : Int, (wrap64 ((wrap64 (Int.tdiv (wrap64 ((wrap64 (360 - (Int.tmod (wrap64 ((wrap64 ((Int.tmod (wrap64 (t288 * 7)) 360) - (Int.tmod (wrap64 (t287 * 3)) 360))) + 360)) 360))) + 2)) 3)) - 1)) = j_ := ⟨_, rfl⟩
             replace H : (if 0 ≤ (ji42) then (if (ji42) < (t314.length : Int) then (laws_FnTurned.j2 kj23 (((rd_T25 t314 (ji42)).f5) != (Int.tmod (wrap64 (t288 * 7)) 360)) t301 t302 t303 t304 t305 t306 t307 t308 false) else (none)) else (none)) = some r := by first | (rw [hji42] at H; exact H) | (simp only [hji42] at H ⊢; exact H)
             have hji42w : (IntKind.i64.wrap ((wrap64 (Int.tdiv (wrap64 ((wrap64 (360 - (Int.tmod (wrap64 ((wrap64 ((Int.tmod (wrap64 (t288 * 7)) 360) - (Int.tmod (wrap64 (t287 * 3)) 360))) + 360)) 360))) + 2)) 3)) - 1)) = ji42 := (i64_w _).trans hji42
             by_cases c43 : 0 ≤ (ji42)
             ·
              rw [if_pos c43] at H
              have c43b0 : decide (0 ≤ (ji42)) = true := decide_eq_true c43
              clear c43
              by_cases c44 : (ji42) < (t314.length : Int)
              ·
               rw [if_pos c44] at H
               have c44b0 : decide ((ji42) < (t314.length : Int)) = true := decide_eq_true c44
               clear c44
               have H' := Aside0.mk H
               clear H
               obtain ⟨Ao45, co45, eo45⟩ := Kd.R_slice HO_8.out
               subst eo45
               have p319 : 0 ≤ ((ji42) : Int) := of_decide_eq_true (by first | (with_reducible assumption) | assumption)
               have q319 : (ji42) < (t314.length : Int) := of_decide_eq_true (by first | (with_reducible assumption) | assumption)
               obtain ⟨ad319, e319, hx319_0, hx319_1, hx319_2, hx319_3, hx319_4, hx319_5, hx319_6, hx319_7, hx319_8⟩ := at_T25 (Kd.R_reads' HO_8.out).2.2 (ji42) p319 q319
               cases e319
               replace p319 := eq_true p319
               replace q319 := eq_true q319
               go_wp2
               go_meet
               case rel => exact ⟨_, ((((rd_T25 t314 (ji42)).f5) != (Int.tmod (wrap64 (t288 * 7)) 360))), (by first | rfl | (simp; done) | (simp only [← hji42] <;> (first | rfl | simp)) | (simp [*]; done)), H', ⟨by have := HJ8.out; have := HJ23.out; first | omega | exact Nat.le_refl _⟩, ⟨by (with_reducible repeat (first | refine blk_drewN ?_ _ | refine blk_drew ?_ | refine blk_alloc ?_ _)); exact BK290.out⟩, ⟨by repeat (first | (with_reducible first | exact HB.out | apply below_alloc | apply pw_below_drewN | apply below_drew1 | refine below_set ?_ GE290.out) | exact HB.out)⟩⟩
              ·
               rw [if_neg c44] at H
               exact absurd H (by simp)
             ·
              rw [if_neg c43] at H
              exact absurd H (by simp)
            ·
             rw [if_neg c41] at H
             have c41b0 : decide ((wrap64 (Int.tdiv (wrap64 ((wrap64 (360 - (Int.tmod (wrap64 ((wrap64 ((Int.tmod (wrap64 (t288 * 7)) 360) - (Int.tmod (wrap64 (t287 * 3)) 360))) + 360)) 360))) + 2)) 3)) < 60) = false := decide_eq_false c41
             clear c41
             have H' := Aside0.mk H
             clear H
             go_wp2
             go_meet
             case rel => exact ⟨_, (false), (by first | rfl | (simp; done) | (simp [*]; done)), H', ⟨by have := HJ8.out; have := HJ23.out; first | omega | exact Nat.le_refl _⟩, ⟨by (with_reducible repeat (first | refine blk_drewN ?_ _ | refine blk_drew ?_ | refine blk_alloc ?_ _)); exact BK290.out⟩, ⟨by repeat (first | (with_reducible first | exact HB.out | apply below_alloc | apply pw_below_drewN | apply below_drew1 | refine below_set ?_ GE290.out) | exact HB.out)⟩⟩
           ·
            rw [if_neg c40] at H
            have c40b0 : decide (0 < (wrap64 (Int.tdiv (wrap64 ((wrap64 (360 - (Int.tmod (wrap64 ((wrap64 ((Int.tmod (wrap64 (t288 * 7)) 360) - (Int.tmod (wrap64 (t287 * 3)) 360))) + 360)) 360))) + 2)) 3))) = false := decide_eq_false c40
            clear c40
            (first | rw [c40b0] | (simp only [i64_w, i32_w]; rw [c40b0]) | skip)
            have H' := Aside0.mk H
            clear H
            go_wp2
            go_meet
            case rel => exact ⟨_, (false), (by first | rfl | (simp; done) | (simp [*]; done)), H', ⟨by have := HJ8.out; have := HJ23.out; first | omega | exact Nat.le_refl _⟩, ⟨by (with_reducible repeat (first | refine blk_drewN ?_ _ | refine blk_drew ?_ | refine blk_alloc ?_ _)); exact BK290.out⟩, ⟨by repeat (first | (with_reducible first | exact HB.out | apply below_alloc | apply pw_below_drewN | apply below_drew1 | refine below_set ?_ GE290.out) | exact HB.out)⟩⟩
          case rest =>
           clear HC39
           try clear c1
           try clear c2
           try clear p2
           try clear c3
           try clear p3
           try clear q3
           try clear hx3
           try clear qi3
           try clear c4
           try clear c6
           try clear p6
           try clear c12
           try clear c13
           try clear c14
           try clear c15
           try clear c16
           try clear c17
           try clear c18
           try clear c18b0
           try clear c18b1
           try clear c21
           try clear c22
           try clear c22b0
           try clear c22b1
           try clear p31
           try clear q31
           try clear hx31
           try clear qi31
           try clear c32
           try clear c33
           try clear c33b0
           try clear c33b1
           try clear c34
           try clear c34b0
           try clear c34b1
           try clear c37
           try clear c38
           try clear c38b0
           try clear c40
           try clear c40b0
           try clear c41
           try clear c41b0
           try clear c43
           try clear c43b0
           try clear c44
           try clear c44b0
           try clear hcz11_0
           try clear hcz11_1
           try clear hcz11_2
           try clear hcz11_3
           try clear hcz11_4
           try clear hcz11_5
           try clear hcz11_6
           try clear hcz11_7
           try clear hcz11_8
           try clear hcz13_0
           try clear hcz13_1
           try clear hcz13_2
           try clear hcz13_3
           try clear hcz13_4
           try clear hcz13_5
           try clear hcz13_6
           try clear hcz13_7
           try clear hcz13_8
           try clear hcz15_0
           try clear hcz15_1
           try clear hcz15_2
           try clear hcz15_3
           try clear hcz15_4
           try clear hcz15_5
           try clear hcz15_6
           try clear hcz15_7
           try clear hcz15_8
           try clear hcz19_0
           try clear hcz19_1
           try clear hcz19_2
           try clear hcz19_3
           try clear hcz19_4
           try clear hcz19_5
           try clear hcz19_6
           try clear hcz19_7
           try clear hcz19_8
           try clear hcz20_0
           try clear hcz20_1
           try clear hcz20_2
           try clear hcz20_3
           try clear hcz20_4
           try clear hcz20_5
           try clear hcz20_6
           try clear hcz20_7
           try clear hcz20_8
           try clear hcz25_0
           try clear hcz25_1
           try clear hcz25_2
           try clear hcz25_3
           try clear hcz25_4
           try clear hcz25_5
           try clear hcz25_6
           try clear hcz25_7
           try clear hcz25_8
           try clear hfz11_0
           try clear hfz11_1
           try clear hfz11_2
           try clear hfz11_3
           try clear hfz11_4
           try clear hfz11_5
           try clear hfz11_6
           try clear hfz11_7
           try clear hfz11_8
           try clear hfz13_0
           try clear hfz13_1
           try clear hfz13_2
           try clear hfz13_3
           try clear hfz13_4
           try clear hfz13_5
           try clear hfz13_6
           try clear hfz13_7
           try clear hfz13_8
           try clear hfz15_0
           try clear hfz15_1
           try clear hfz15_2
           try clear hfz15_3
           try clear hfz15_4
           try clear hfz15_5
           try clear hfz15_6
           try clear hfz15_7
           try clear hfz15_8
           try clear hfz19_0
           try clear hfz19_1
           try clear hfz19_2
           try clear hfz19_3
           try clear hfz19_4
           try clear hfz19_5
           try clear hfz19_6
           try clear hfz19_7
           try clear hfz19_8
           try clear hfz20_0
           try clear hfz20_1
           try clear hfz20_2
           try clear hfz20_3
           try clear hfz20_4
           try clear hfz20_5
           try clear hfz20_6
           try clear hfz20_7
           try clear hfz20_8
           try clear hfz25_0
           try clear hfz25_1
           try clear hfz25_2
           try clear hfz25_3
           try clear hfz25_4
           try clear hfz25_5
           try clear hfz25_6
           try clear hfz25_7
           try clear hfz25_8
           try clear hx318_0
           try clear hx318_1
           try clear hx318_2
           try clear hx318_3
           try clear hx318_4
           try clear hx318_5
           try clear hx318_6
           try clear hx318_7
           try clear hx318_8
           try clear hx319_0
           try clear hx319_1
           try clear hx319_2
           try clear hx319_3
           try clear hx319_4
           try clear hx319_5
           try clear hx319_6
           try clear hx319_7
           try clear hx319_8
           try clear p2
           try clear p3
           try clear p31
           try clear p318
           try clear p319
           try clear p6
           try clear q3
           try clear q31
           try clear q318
           try clear q319
           obtain ⟨kq, x104_38, rfl, HA, HJ38, BK290, HB⟩ := hcut
           cases kq with
           | zero => exact absurd HA.out (by simp [laws_FnTurned.j2])
           | succ kj38 =>
            have H := HA.out
            clear HA
            simp only [laws_FnTurned.j2] at H
            by_cases c46 : x104_38 = true
            ·
             subst c46
             have H1 : (some false) = some r := by rw [if_pos rfl] at H; exact H
             clear H
             have H := H1
             clear H1
             obtain rfl := Option.some.inj H
             go_wp2
             go_ret
             exact ⟨by first | rfl | (simp [errW_none, errW_some] <;> rfl) | (simp [*, errW_none, errW_some] <;> rfl), by repeat (first | (with_reducible first | exact HB.out | apply below_alloc | apply pw_below_drewN | apply below_drew1 | refine below_set ?_ GE290.out) | exact HB.out)⟩
            ·
             replace c46 := Bool.eq_false_iff.mpr c46
             subst c46
             have H1 : (if 20 ≤ 35184372088832 then ((impl_Ticks.f kj38 t301 t302 t303 t304 t305 t306 t307 t308 true (List.replicate 20 0)).bind fun bt323 => (if bt323.2 = true then (if 0 < (bt323.1.length : Int) then (if ((rd_T25 bt323.1 0).f1) = 3 then (if ((rd_T25 bt323.1 0).f8 = true) then (some false) else (if 19 < (bt323.1.length : Int) then (if ((rd_T25 bt323.1 19).f1) = 2 then (some (((rd_T25 bt323.1 19).f7) == 0)) else (some false)) else (none))) else (some false)) else (none)) else (some false))) else (none)) = some r := by rw [if_neg (show ¬ (false = true) by decide)] at H; exact H
             clear H
             have H := H1
             clear H1
             by_cases c47 : 20 ≤ 35184372088832
             ·
              rw [if_pos c47] at H
              have c47b0 := eq_true c47
              have c47b1 : decide (20 ≤ 35184372088832) = true := decide_eq_true c47
              clear c47
              obtain ⟨y320, hy320⟩ : ∃ y_ : List Int, y_ = (List.replicate 20 0) := ⟨_, rfl⟩
              replace H : ((impl_Ticks.f kj38 t301 t302 t303 t304 t305 t306 t307 t308 true y320).bind fun bt323 => (if bt323.2 = true then (if 0 < (bt323.1.length : Int) then (if ((rd_T25 bt323.1 0).f1) = 3 then (if ((rd_T25 bt323.1 0).f8 = true) then (some false) else (if 19 < (bt323.1.length : Int) then (if ((rd_T25 bt323.1 19).f1) = 2 then (some (((rd_T25 bt323.1 19).f7) == 0)) else (some false)) else (none))) else (some false)) else (none)) else (some false))) = some r := by first | (rw [hy320]; with_reducible exact H) | (have H2_ := (Option.bind_some _ _).symm.trans H; rw [hy320]; with_reducible exact H2_) | (have H2_ := (Option.bind_some _ _).symm.trans H; with_reducible exact H2_) | with_reducible exact H | (rw [hy320]; exact H) | exact H
              have Ny320 := Aside0.mk hy320
              clear hy320
              replace H := Option.bind_eq_some_iff.mp H
              obtain ⟨⟨t323, t326⟩, A480, H⟩ := H
              replace H : (if t326 = true then (if 0 < (t323.length : Int) then (if ((rd_T25 t323 0).f1) = 3 then (if ((rd_T25 t323 0).f8 = true) then (some false) else (if 19 < (t323.length : Int) then (if ((rd_T25 t323 19).f1) = 2 then (some (((rd_T25 t323 19).f7) == 0)) else (some false)) else (none))) else (some false)) else (none)) else (some false)) = some r := H
              have A48 := Aside0.mk A480
              clear A480
              have HC49 := Aside0.mk H
              clear H
              have hcz50_0 : wc.cell? ⟨gb290, 0, none⟩ = some (.int .i64 t301) := (blk_cell BK290.out 0).trans rfl
              have hcz50_1 : wc.cell? ⟨gb290, 1, none⟩ = some (.int .i64 t302) := (blk_cell BK290.out 1).trans rfl
              have hcz50_2 : wc.cell? ⟨gb290, 2, none⟩ = some (.int .i64 t303) := (blk_cell BK290.out 2).trans rfl
              have hcz50_3 : wc.cell? ⟨gb290, 3, none⟩ = some (.int .i64 t304) := (blk_cell BK290.out 3).trans rfl
              have hcz50_4 : wc.cell? ⟨gb290, 4, none⟩ = some (.int .i64 t305) := (blk_cell BK290.out 4).trans rfl
              have hcz50_5 : wc.cell? ⟨gb290, 5, none⟩ = some (.int .i64 t306) := (blk_cell BK290.out 5).trans rfl
              have hcz50_6 : wc.cell? ⟨gb290, 6, none⟩ = some (.int .i64 t307) := (blk_cell BK290.out 6).trans rfl
              have hcz50_7 : wc.cell? ⟨gb290, 7, none⟩ = some (.int .i64 t308) := (blk_cell BK290.out 7).trans rfl
              have hcz50_8 : wc.cell? ⟨gb290, 8, none⟩ = some (.bool false) := (blk_cell BK290.out 8).trans rfl
              have hfz50_0 := blk_frozen BK290.out 0
              have hfz50_1 := blk_frozen BK290.out 1
              have hfz50_2 := blk_frozen BK290.out 2
              have hfz50_3 := blk_frozen BK290.out 3
              have hfz50_4 := blk_frozen BK290.out 4
              have hfz50_5 := blk_frozen BK290.out 5
              have hfz50_6 := blk_frozen BK290.out 6
              have hfz50_7 := blk_frozen BK290.out 7
              have hfz50_8 := blk_frozen BK290.out 8
              try go_wp2
              have n0_ : Aside0 ((wc.setCell ⟨gb290, 8, none⟩ (.bool true)).heap[gb290]? = some (.cells #[.int .i64 t301, .int .i64 t302, .int .i64 t303, .int .i64 t304, .int .i64 t305, .int .i64 t306, .int .i64 t307, .int .i64 t308, .bool true] 25 (0, 0))) := ⟨by (with_reducible repeat (first | refine blk_drewN ?_ _ | refine blk_drew ?_ | refine blk_alloc ?_ _)); refine blk_put (cs := #[.int .i64 t301, .int .i64 t302, .int .i64 t303, .int .i64 t304, .int .i64 t305, .int .i64 t306, .int .i64 t307, .int .i64 t308, .bool false]) ?_ 8 _ rfl; (with_reducible repeat (first | refine blk_drewN ?_ _ | refine blk_drew ?_ | refine blk_alloc ?_ _)); exact BK290.out⟩
              have n1_ : Aside0 (Below w.heap.size w (wc.setCell ⟨gb290, 8, none⟩ (.bool true))) := ⟨by repeat (first | (with_reducible first | exact HB.out | apply below_alloc | apply pw_below_drewN | apply below_drew1 | refine below_set ?_ GE290.out) | exact HB.out)⟩
              (try (have hsd_ : ∀ (W_ : World) (n_ : Nat) (a_ : Addr) (v_ : Value), (W_.drewN n_).setCell a_ v_ = (W_.setCell a_ v_).drewN n_ := fun _ _ _ _ => rfl); simp only [hsd_]; clear hsd_)
              (try clear BK290)
              (try clear HB)
              generalize (wc.setCell ⟨gb290, 8, none⟩ (.bool true)) = w51 at n0_ n1_ ⊢
              have BK290 := n0_
              have HB := n1_
              clear n0_ n1_
              have n0_ := Aside0.mk (blk_drew BK290.out)
              have n1_ := Aside0.mk (below_drew1 HB.out)
              clear BK290
              clear HB
              have BK290 := n0_
              have HB := n1_
              clear n0_ n1_
              refine start_ (n := 8) (S := fun w' => w'.cell? ⟨gb290, 0, none⟩ = some (.int .i64 t301) ∧ w'.cell? ⟨gb290, 1, none⟩ = some (.int .i64 t302) ∧ w'.cell? ⟨gb290, 2, none⟩ = some (.int .i64 t303) ∧ w'.cell? ⟨gb290, 3, none⟩ = some (.int .i64 t304) ∧ w'.cell? ⟨gb290, 4, none⟩ = some (.int .i64 t305) ∧ w'.cell? ⟨gb290, 5, none⟩ = some (.int .i64 t306) ∧ w'.cell? ⟨gb290, 6, none⟩ = some (.int .i64 t307) ∧ w'.cell? ⟨gb290, 7, none⟩ = some (.int .i64 t308) ∧ w'.cell? ⟨gb290, 8, none⟩ = some (.bool true)) (ds := []) #[f9, f9, f9, f9, f9, f9, f9, f9] (by kernel_rfl) rfl rfl ⟨(blk_cell BK290.out 0).trans rfl, (blk_cell BK290.out 1).trans rfl, (blk_cell BK290.out 2).trans rfl, (blk_cell BK290.out 3).trans rfl, (blk_cell BK290.out 4).trans rfl, (blk_cell BK290.out 5).trans rfl, (blk_cell BK290.out 6).trans rfl, (blk_cell BK290.out 7).trans rfl, (blk_cell BK290.out 8).trans rfl⟩ (fun hHeld => ?_); refine with_tabW laws_FnTurned.tab20 laws_FnTurned.bits20 (fun HT_ HW_ => ?_)
              generalize w51.drew = w52 at BK290 HB hHeld ⊢
              refine take_ (i := 0) (N := some 107) (v := ?_) (a' := ?_) #[t9, f9, f9, f9, f9, f9, f9, f9] rfl rfl (take_ofW HT_.out HW_.out (by kernel_rfl)) (fun _ _ _ h => h) (Or.inl ⟨by rfl, ?_⟩) hHeld ?_ ?_
              rotate_left
              ·
               rintro w' ⟨s0, s1, s2, s3, s4, s5, s6, s7, s8⟩
               go_simp
               with_reducible rfl
              rotate_left
              ·
               simp only [Act.put, List.setIfInBounds_toArray, List.set_cons_zero, List.set_cons_succ, i64_w, i32_w]
               rfl
              refine one_ (i := 1) (N := some 108) #[t9, t9, f9, f9, f9, f9, f9, f9] rfl rfl (one_of HT_.out (by kernel_rfl)) (by decide) (fun K hK => ?_)
              refine Kd.R_make_step (Kd.int .i64) _ 3 (by rfl) (N := 108) rfl 36 _ _ rfl 20 rfl rfl Try.underlying36 (.int .i64 0) 8 info3 rfl (by decide) (by omega) 0 (ok := fun _ => True) (okp := fun _ => True) rfl (fun _ hk => hk) trivial (by omega) (by omega) (Below.refl _ _) (Nat.le_refl _) ?_
              intro v321 w53 ho54 hb hg_ hnew_
              clear hg_ hnew_
              (first | rw [← Ny320.out] at ho54 | (simp only [Int.reduceToNat] at ho54; rw [← Ny320.out] at ho54))
              have n0_ := Aside0.mk (Kd.R_lower ho54 (below_size (by repeat (first | (with_reducible first | exact HB.out | apply below_alloc | apply pw_below_drewN | apply below_drew1 | refine below_set ?_ GE290.out) | exact HB.out))))
              have n1_ := Aside0.mk (blk_below (g := gb290) (o := .cells #[.int .i64 t301, .int .i64 t302, .int .i64 t303, .int .i64 t304, .int .i64 t305, .int .i64 t306, .int .i64 t307, .int .i64 t308, .bool true] 25 (0, 0)) (by (with_reducible repeat (first | refine blk_drewN ?_ _ | refine blk_drew ?_ | refine blk_alloc ?_ _)); exact BK290.out) hb)
              have n2_ := Aside0.mk (below_step (by repeat (first | (with_reducible first | exact HB.out | apply below_alloc | apply pw_below_drewN | apply below_drew1 | refine below_set ?_ GE290.out) | exact HB.out)) hb)
              clear BK290
              clear HB
              have HO322 := n0_
              have BK290 := n1_
              have HB := n2_
              clear n0_ n1_ n2_
              clear hb ho54
              obtain ⟨Ao55, co55, eo55⟩ := Kd.R_slice HO322.out
              (first | subst eo55 | (injection eo55 with f1_ f2_ f3_; have f4_ := f1_.symm; have f5_ := f3_.symm; clear f1_ f2_ f3_; subst f4_; subst f5_))
              refine hK.out _ _ ⟨(blk_cell BK290.out 0).trans rfl, (blk_cell BK290.out 1).trans rfl, (blk_cell BK290.out 2).trans rfl, (blk_cell BK290.out 3).trans rfl, (blk_cell BK290.out 4).trans rfl, (blk_cell BK290.out 5).trans rfl, (blk_cell BK290.out 6).trans rfl, (blk_cell BK290.out 7).trans rfl, (blk_cell BK290.out 8).trans rfl⟩ (fun hHeld => ?_)
              clear hK K
              refine norm_ (a' := ?_) ?_ ?_
              rotate_left
              ·
               show Act.put _ (some 108) _ = _
               simp only [Act.put, List.setIfInBounds_toArray, List.set_cons_zero, List.set_cons_succ, i64_w, i32_w]
               rfl
              refine one_ (i := 2) (N := some 109) #[t9, t9, t9, f9, f9, f9, f9, f9] rfl rfl (one_of HT_.out (by kernel_rfl)) (by decide) (fun K hK => ?_)
              refine goes_ Try.func15 (by kernel_rfl) rfl #[.agg #[.int .i64 t301, .int .i64 t302, .int .i64 t303, .int .i64 t304, .int .i64 t305, .int .i64 t306, .int .i64 t307, .int .i64 t308, .bool true], .slice Ao55 y320.length co55] (by rfl) rfl rfl (by (try simp only [List.map_toArray, List.map_cons, List.map_nil]); first | done | rfl | (simp only [List.length_drop, List.length_take]; rfl)) ?_
              with_reducible refine (impl_Ticks.calls kj38 t301 t302 t303 t304 t305 t306 t307 t308 true _ _ y320 t323 t326 _ ?side1 ?side2 A48.out).mono ?_
              (case side1 => repeat (first | exact (Kd.R_reads' HO322.out).2.2 | (with_reducible refine Kd.C_alloc ?_ _) | (with_reducible refine Kd.C_drewN ?_ _) | (with_reducible refine Kd.C_drew ?_)))
              (case side2 => exact (Kd.R_reads' HO322.out).2.1)
              rintro e w56 ⟨v324, rfl, ho0, hb⟩
              refine ⟨_, rfl, ?_⟩
              have n0_ := Aside0.mk (Kd.R_below (by (with_reducible repeat (first | apply Kd.R_alloc | apply Kd.R_drewN | apply Kd.R_drew)); exact HO322.out) hb)
              have n1_ := Aside0.mk (Kd.R_lower (Kd.R_newB ho0 (g := gb290) (o := .cells #[.int .i64 t301, .int .i64 t302, .int .i64 t303, .int .i64 t304, .int .i64 t305, .int .i64 t306, .int .i64 t307, .int .i64 t308, .bool true] 25 (0, 0)) (by (with_reducible repeat (first | refine blk_drewN ?_ _ | refine blk_drew ?_ | refine blk_alloc ?_ _)); exact BK290.out)) (below_size (by repeat (first | (with_reducible first | exact HB.out | apply below_alloc | apply pw_below_drewN | apply below_drew1 | refine below_set ?_ GE290.out) | exact HB.out))))
              have n2_ := Aside0.mk (blk_below (g := gb290) (o := .cells #[.int .i64 t301, .int .i64 t302, .int .i64 t303, .int .i64 t304, .int .i64 t305, .int .i64 t306, .int .i64 t307, .int .i64 t308, .bool true] 25 (0, 0)) (by (with_reducible repeat (first | refine blk_drewN ?_ _ | refine blk_drew ?_ | refine blk_alloc ?_ _)); exact BK290.out) hb)
              have n3_ := Aside0.mk (below_step (by repeat (first | (with_reducible first | exact HB.out | apply below_alloc | apply pw_below_drewN | apply below_drew1 | refine below_set ?_ GE290.out) | exact HB.out)) hb)
              clear HO322
              clear BK290
              clear HB
              have HO322 := n0_
              have HO325 := n1_
              have BK290 := n2_
              have HB := n3_
              clear n0_ n1_ n2_ n3_
              (try clear hb)
              (try clear hb2)
              (try clear hk)
              (try clear hi)
              (try clear ho0)
              refine hK.out _ _ ⟨(blk_cell BK290.out 0).trans rfl, (blk_cell BK290.out 1).trans rfl, (blk_cell BK290.out 2).trans rfl, (blk_cell BK290.out 3).trans rfl, (blk_cell BK290.out 4).trans rfl, (blk_cell BK290.out 5).trans rfl, (blk_cell BK290.out 6).trans rfl, (blk_cell BK290.out 7).trans rfl, (blk_cell BK290.out 8).trans rfl⟩ (fun hHeld => ?_)
              clear hK K
              refine norm_ (a' := ?_) ?_ ?_
              rotate_left
              ·
               show Act.put _ (some 109) _ = _
               simp only [Act.put, List.setIfInBounds_toArray, List.set_cons_zero, List.set_cons_succ, i64_w, i32_w]
               rfl
              refine pure_ (i := 3) (N := some 106) (v := ?_) (a' := ?_) #[t9, t9, t9, t9, f9, f9, f9, f9] rfl rfl (any_of HT_.out (by kernel_rfl)) (fun _ _ _ h => h) (Or.inl ⟨by rfl, ?_⟩) ?_ ?_
              rotate_left
              ·
               intro w'
               go_simp
               with_reducible rfl
              rotate_left
              ·
               simp only [Act.put, List.setIfInBounds_toArray, List.set_cons_zero, List.set_cons_succ, i64_w, i32_w]
               rfl
              refine pure_ (i := 4) (N := some 110) (v := ?_) (a' := ?_) #[t9, t9, t9, t9, t9, f9, f9, f9] rfl rfl (any_of HT_.out (by kernel_rfl)) (fun _ _ _ h => h) (Or.inl ⟨by rfl, ?_⟩) ?_ ?_
              rotate_left
              ·
               intro w'
               go_simp
               with_reducible rfl
              rotate_left
              ·
               simp only [Act.put, List.setIfInBounds_toArray, List.set_cons_zero, List.set_cons_succ, i64_w, i32_w]
               rfl
              refine pure_ (i := 5) (N := some 111) (v := ?_) (a' := ?_) #[t9, t9, t9, t9, t9, t9, f9, f9] rfl rfl (any_of HT_.out (by kernel_rfl)) (fun _ _ _ h => h) (Or.inl ⟨by rfl, ?_⟩) ?_ ?_
              rotate_left
              ·
               intro w'
               go_simp
               with_reducible rfl
              rotate_left
              ·
               simp only [Act.put, List.setIfInBounds_toArray, List.set_cons_zero, List.set_cons_succ, i64_w, i32_w]
               rfl
              refine pure_ (i := 6) (N := some 8) (v := ?_) (a' := ?_) #[t9, t9, t9, t9, t9, t9, t9, f9] rfl rfl (any_of HT_.out (by kernel_rfl)) (fun _ _ _ h => h) (Or.inl ⟨by rfl, ?_⟩) ?_ ?_
              rotate_left
              ·
               intro w'
               go_simp
               with_reducible rfl
              rotate_left
              ·
               simp only [Act.put, List.setIfInBounds_toArray, List.set_cons_zero, List.set_cons_succ, i64_w, i32_w]
               rfl
              refine pure_ (i := 7) (N := some 9) (v := ?_) (a' := ?_) #[t9, t9, t9, t9, t9, t9, t9, t9] rfl rfl (any_of HT_.out (by kernel_rfl)) (fun _ _ _ h => h) (Or.inl ⟨by rfl, ?_⟩) ?_ ?_
              rotate_left
              ·
               intro w'
               go_simp
               with_reducible rfl
              rotate_left
              ·
               simp only [Act.put, List.setIfInBounds_toArray, List.set_cons_zero, List.set_cons_succ, i64_w, i32_w]
               rfl
              refine done_ (done_of HT_.out (by kernel_rfl)) ?_
              go_upto_region 21 with (fail)
              have H := HC49.out
              clear HC49
              by_cases c57 : t326 = true
              ·
               subst c57
               have H1 : (if 0 < (t323.length : Int) then (if ((rd_T25 t323 0).f1) = 3 then (if ((rd_T25 t323 0).f8 = true) then (some false) else (if 19 < (t323.length : Int) then (if ((rd_T25 t323 19).f1) = 2 then (some (((rd_T25 t323 19).f7) == 0)) else (some false)) else (none))) else (some false)) else (none)) = some r := by rw [if_pos rfl] at H; exact H
               clear H
               have H := H1
               clear H1
               by_cases c58 : 0 < (t323.length : Int)
               ·
                rw [if_pos c58] at H
                have c58b0 : decide (0 < (t323.length : Int)) = true := decide_eq_true c58
                have c58b1 : decide (0 < t323.length) = true := decide_eq_true (by omega)
                clear c58
                (first | rw [c58b0] | (simp only [i64_w, i32_w]; rw [c58b0]) | skip)
                by_cases c59 : ((rd_T25 t323 0).f1) = 3
                ·
                 rw [if_pos c59] at H
                 have c59b0 : (((rd_T25 t323 0).f1) == 3) = true := beq_iff_eq.mpr c59
                 have c59b1 : (((rd_T25 t323 0).f1) != 3) = false := bne_eq_false_iff_eq.mpr c59
                 clear c59
                 obtain ⟨bq60, hbq60⟩ : ∃ b_ : Bool, b_ = ((rd_T25 t323 0).f8) := ⟨_, rfl⟩
                 replace H : (if (bq60 = true) then (some false) else (if 19 < (t323.length : Int) then (if ((rd_T25 t323 19).f1) = 2 then (some (((rd_T25 t323 19).f7) == 0)) else (some false)) else (none))) = some r := by rw [← hbq60] at H; exact H
                 have Nbq60 := Aside0.mk hbq60
                 clear hbq60
                 by_cases c61 : (bq60 = true)
                 ·
                  subst c61
                  have H1 : (some false) = some r := by rw [if_pos rfl] at H; exact H
                  clear H
                  have H := H1
                  clear H1
                  obtain rfl := Option.some.inj H
                  obtain ⟨Ao62, co62, eo62⟩ := Kd.R_slice HO325.out
                  subst eo62
                  have p327 : 0 ≤ (0 : Int) := (by omega)
                  have q327 : 0 < (t323.length : Int) := of_decide_eq_true (by first | (with_reducible assumption) | assumption)
                  obtain ⟨ad327, e327, hx327_0, hx327_1, hx327_2, hx327_3, hx327_4, hx327_5, hx327_6, hx327_7, hx327_8⟩ := at_T25 (Kd.R_reads' HO325.out).2.2 0 p327 q327
                  (try rw [← Nbq60.out] at hx327_8)
                  cases e327
                  have qi327 : (0 < t323.length) = True := eq_true (by omega)
                  (try rw [show ((0 : Int)).toNat = 0 from rfl] at hx327_0)
                  (try rw [show 0 * 9 = 0 from rfl] at hx327_0)
                  (try rw [Addr.add_zero'] at hx327_0)
                  (try rw [show ((0 : Int)).toNat = 0 from rfl] at hx327_1)
                  (try rw [show 0 * 9 = 0 from rfl] at hx327_1)
                  (try rw [Addr.add_zero'] at hx327_1)
                  (try rw [show ((0 : Int)).toNat = 0 from rfl] at hx327_2)
                  (try rw [show 0 * 9 = 0 from rfl] at hx327_2)
                  (try rw [Addr.add_zero'] at hx327_2)
                  (try rw [show ((0 : Int)).toNat = 0 from rfl] at hx327_3)
                  (try rw [show 0 * 9 = 0 from rfl] at hx327_3)
                  (try rw [Addr.add_zero'] at hx327_3)
                  (try rw [show ((0 : Int)).toNat = 0 from rfl] at hx327_4)
                  (try rw [show 0 * 9 = 0 from rfl] at hx327_4)
                  (try rw [Addr.add_zero'] at hx327_4)
                  (try rw [show ((0 : Int)).toNat = 0 from rfl] at hx327_5)
                  (try rw [show 0 * 9 = 0 from rfl] at hx327_5)
                  (try rw [Addr.add_zero'] at hx327_5)
                  (try rw [show ((0 : Int)).toNat = 0 from rfl] at hx327_6)
                  (try rw [show 0 * 9 = 0 from rfl] at hx327_6)
                  (try rw [Addr.add_zero'] at hx327_6)
                  (try rw [show ((0 : Int)).toNat = 0 from rfl] at hx327_7)
                  (try rw [show 0 * 9 = 0 from rfl] at hx327_7)
                  (try rw [Addr.add_zero'] at hx327_7)
                  (try rw [show ((0 : Int)).toNat = 0 from rfl] at hx327_8)
                  (try rw [show 0 * 9 = 0 from rfl] at hx327_8)
                  (try rw [Addr.add_zero'] at hx327_8)
                  replace p327 := eq_true p327
                  replace q327 := eq_true q327
                  have p328 : 0 ≤ (0 : Int) := (by omega)
                  have q328 : 0 < (t323.length : Int) := of_decide_eq_true (by first | (with_reducible assumption) | assumption)
                  obtain ⟨ad328, e328, hx328_0, hx328_1, hx328_2, hx328_3, hx328_4, hx328_5, hx328_6, hx328_7, hx328_8⟩ := at_T25 (Kd.R_reads' HO325.out).2.2 0 p328 q328
                  (try rw [← Nbq60.out] at hx328_8)
                  obtain rfl : ad327 = ad328 := (by injection e328)
                  have qi328 : (0 < t323.length) = True := eq_true (by omega)
                  (try rw [show ((0 : Int)).toNat = 0 from rfl] at hx328_0)
                  (try rw [show 0 * 9 = 0 from rfl] at hx328_0)
                  (try rw [Addr.add_zero'] at hx328_0)
                  (try rw [show ((0 : Int)).toNat = 0 from rfl] at hx328_1)
                  (try rw [show 0 * 9 = 0 from rfl] at hx328_1)
                  (try rw [Addr.add_zero'] at hx328_1)
                  (try rw [show ((0 : Int)).toNat = 0 from rfl] at hx328_2)
                  (try rw [show 0 * 9 = 0 from rfl] at hx328_2)
                  (try rw [Addr.add_zero'] at hx328_2)
                  (try rw [show ((0 : Int)).toNat = 0 from rfl] at hx328_3)
                  (try rw [show 0 * 9 = 0 from rfl] at hx328_3)
                  (try rw [Addr.add_zero'] at hx328_3)
                  (try rw [show ((0 : Int)).toNat = 0 from rfl] at hx328_4)
                  (try rw [show 0 * 9 = 0 from rfl] at hx328_4)
                  (try rw [Addr.add_zero'] at hx328_4)
                  (try rw [show ((0 : Int)).toNat = 0 from rfl] at hx328_5)
                  (try rw [show 0 * 9 = 0 from rfl] at hx328_5)
                  (try rw [Addr.add_zero'] at hx328_5)
                  (try rw [show ((0 : Int)).toNat = 0 from rfl] at hx328_6)
                  (try rw [show 0 * 9 = 0 from rfl] at hx328_6)
                  (try rw [Addr.add_zero'] at hx328_6)
                  (try rw [show ((0 : Int)).toNat = 0 from rfl] at hx328_7)
                  (try rw [show 0 * 9 = 0 from rfl] at hx328_7)
                  (try rw [Addr.add_zero'] at hx328_7)
                  (try rw [show ((0 : Int)).toNat = 0 from rfl] at hx328_8)
                  (try rw [show 0 * 9 = 0 from rfl] at hx328_8)
                  (try rw [Addr.add_zero'] at hx328_8)
                  replace p328 := eq_true p328
                  replace q328 := eq_true q328
                  go_wp2
                  go_ret
                  exact ⟨by first | rfl | (simp [errW_none, errW_some] <;> rfl) | (simp [*, errW_none, errW_some] <;> rfl), by repeat (first | (with_reducible first | exact HB.out | apply below_alloc | apply pw_below_drewN | apply below_drew1 | refine below_set ?_ GE290.out) | exact HB.out)⟩
                 ·
                  replace c61 := Bool.eq_false_iff.mpr c61
                  subst c61
                  have H1 : (if 19 < (t323.length : Int) then (if ((rd_T25 t323 19).f1) = 2 then (some (((rd_T25 t323 19).f7) == 0)) else (some false)) else (none)) = some r := by rw [if_neg (show ¬ (false = true) by decide)] at H; exact H
                  clear H
                  have H := H1
                  clear H1
                  by_cases c63 : 19 < (t323.length : Int)
                  ·
                   rw [if_pos c63] at H
                   have c63b0 : decide (19 < (t323.length : Int)) = true := decide_eq_true c63
                   have c63b1 : decide (19 < t323.length) = true := decide_eq_true (by omega)
                   clear c63
                   by_cases c64 : ((rd_T25 t323 19).f1) = 2
                   ·
                    rw [if_pos c64] at H
                    have c64b0 : (((rd_T25 t323 19).f1) == 2) = true := beq_iff_eq.mpr c64
                    have c64b1 : (((rd_T25 t323 19).f1) != 2) = false := bne_eq_false_iff_eq.mpr c64
                    clear c64
                    obtain rfl := Option.some.inj H
                    obtain ⟨Ao65, co65, eo65⟩ := Kd.R_slice HO325.out
                    subst eo65
                    have p327 : 0 ≤ (0 : Int) := (by omega)
                    have q327 : 0 < (t323.length : Int) := of_decide_eq_true (by first | (with_reducible assumption) | assumption)
                    obtain ⟨ad327, e327, hx327_0, hx327_1, hx327_2, hx327_3, hx327_4, hx327_5, hx327_6, hx327_7, hx327_8⟩ := at_T25 (Kd.R_reads' HO325.out).2.2 0 p327 q327
                    (try rw [← Nbq60.out] at hx327_8)
                    cases e327
                    have qi327 : (0 < t323.length) = True := eq_true (by omega)
                    (try rw [show ((0 : Int)).toNat = 0 from rfl] at hx327_0)
                    (try rw [show 0 * 9 = 0 from rfl] at hx327_0)
                    (try rw [Addr.add_zero'] at hx327_0)
                    (try rw [show ((0 : Int)).toNat = 0 from rfl] at hx327_1)
                    (try rw [show 0 * 9 = 0 from rfl] at hx327_1)
                    (try rw [Addr.add_zero'] at hx327_1)
                    (try rw [show ((0 : Int)).toNat = 0 from rfl] at hx327_2)
                    (try rw [show 0 * 9 = 0 from rfl] at hx327_2)
                    (try rw [Addr.add_zero'] at hx327_2)
                    (try rw [show ((0 : Int)).toNat = 0 from rfl] at hx327_3)
                    (try rw [show 0 * 9 = 0 from rfl] at hx327_3)
                    (try rw [Addr.add_zero'] at hx327_3)
                    (try rw [show ((0 : Int)).toNat = 0 from rfl] at hx327_4)
                    (try rw [show 0 * 9 = 0 from rfl] at hx327_4)
                    (try rw [Addr.add_zero'] at hx327_4)
                    (try rw [show ((0 : Int)).toNat = 0 from rfl] at hx327_5)
                    (try rw [show 0 * 9 = 0 from rfl] at hx327_5)
                    (try rw [Addr.add_zero'] at hx327_5)
                    (try rw [show ((0 : Int)).toNat = 0 from rfl] at hx327_6)
                    (try rw [show 0 * 9 = 0 from rfl] at hx327_6)
                    (try rw [Addr.add_zero'] at hx327_6)
                    (try rw [show ((0 : Int)).toNat = 0 from rfl] at hx327_7)
                    (try rw [show 0 * 9 = 0 from rfl] at hx327_7)
                    (try rw [Addr.add_zero'] at hx327_7)
                    (try rw [show ((0 : Int)).toNat = 0 from rfl] at hx327_8)
                    (try rw [show 0 * 9 = 0 from rfl] at hx327_8)
                    (try rw [Addr.add_zero'] at hx327_8)
                    replace p327 := eq_true p327
                    replace q327 := eq_true q327
                    have p328 : 0 ≤ (0 : Int) := (by omega)
                    have q328 : 0 < (t323.length : Int) := of_decide_eq_true (by first | (with_reducible assumption) | assumption)
                    obtain ⟨ad328, e328, hx328_0, hx328_1, hx328_2, hx328_3, hx328_4, hx328_5, hx328_6, hx328_7, hx328_8⟩ := at_T25 (Kd.R_reads' HO325.out).2.2 0 p328 q328
                    (try rw [← Nbq60.out] at hx328_8)
                    obtain rfl : ad327 = ad328 := (by injection e328)
                    have qi328 : (0 < t323.length) = True := eq_true (by omega)
                    (try rw [show ((0 : Int)).toNat = 0 from rfl] at hx328_0)
                    (try rw [show 0 * 9 = 0 from rfl] at hx328_0)
                    (try rw [Addr.add_zero'] at hx328_0)
                    (try rw [show ((0 : Int)).toNat = 0 from rfl] at hx328_1)
                    (try rw [show 0 * 9 = 0 from rfl] at hx328_1)
                    (try rw [Addr.add_zero'] at hx328_1)
                    (try rw [show ((0 : Int)).toNat = 0 from rfl] at hx328_2)
                    (try rw [show 0 * 9 = 0 from rfl] at hx328_2)
                    (try rw [Addr.add_zero'] at hx328_2)
                    (try rw [show ((0 : Int)).toNat = 0 from rfl] at hx328_3)
                    (try rw [show 0 * 9 = 0 from rfl] at hx328_3)
                    (try rw [Addr.add_zero'] at hx328_3)
                    (try rw [show ((0 : Int)).toNat = 0 from rfl] at hx328_4)
                    (try rw [show 0 * 9 = 0 from rfl] at hx328_4)
                    (try rw [Addr.add_zero'] at hx328_4)
                    (try rw [show ((0 : Int)).toNat = 0 from rfl] at hx328_5)
                    (try rw [show 0 * 9 = 0 from rfl] at hx328_5)
                    (try rw [Addr.add_zero'] at hx328_5)
                    (try rw [show ((0 : Int)).toNat = 0 from rfl] at hx328_6)
                    (try rw [show 0 * 9 = 0 from rfl] at hx328_6)
                    (try rw [Addr.add_zero'] at hx328_6)
                    (try rw [show ((0 : Int)).toNat = 0 from rfl] at hx328_7)
                    (try rw [show 0 * 9 = 0 from rfl] at hx328_7)
                    (try rw [Addr.add_zero'] at hx328_7)
                    (try rw [show ((0 : Int)).toNat = 0 from rfl] at hx328_8)
                    (try rw [show 0 * 9 = 0 from rfl] at hx328_8)
                    (try rw [Addr.add_zero'] at hx328_8)
                    replace p328 := eq_true p328
                    replace q328 := eq_true q328
                    have p329 : 0 ≤ (19 : Int) := (by omega)
                    have q329 : 19 < (t323.length : Int) := of_decide_eq_true (by first | (with_reducible assumption) | assumption)
                    obtain ⟨ad329, e329, hx329_0, hx329_1, hx329_2, hx329_3, hx329_4, hx329_5, hx329_6, hx329_7, hx329_8⟩ := at_T25 (Kd.R_reads' HO325.out).2.2 19 p329 q329
                    (try rw [← Nbq60.out] at hx329_8)
                    obtain rfl : ad327 = ad329 := (by injection e329)
                    (try simp only [show (19 : Int).toNat = 19 from rfl, Nat.reduceMul, Nat.reduceEqDiff, Go.Addr.add, ↓reduceIte] at hx329_0)
                    (try simp only [show (19 : Int).toNat = 19 from rfl, Nat.reduceMul, Nat.reduceEqDiff, Go.Addr.add, ↓reduceIte] at hx329_1)
                    (try simp only [show (19 : Int).toNat = 19 from rfl, Nat.reduceMul, Nat.reduceEqDiff, Go.Addr.add, ↓reduceIte] at hx329_2)
                    (try simp only [show (19 : Int).toNat = 19 from rfl, Nat.reduceMul, Nat.reduceEqDiff, Go.Addr.add, ↓reduceIte] at hx329_3)
                    (try simp only [show (19 : Int).toNat = 19 from rfl, Nat.reduceMul, Nat.reduceEqDiff, Go.Addr.add, ↓reduceIte] at hx329_4)
                    (try simp only [show (19 : Int).toNat = 19 from rfl, Nat.reduceMul, Nat.reduceEqDiff, Go.Addr.add, ↓reduceIte] at hx329_5)
                    (try simp only [show (19 : Int).toNat = 19 from rfl, Nat.reduceMul, Nat.reduceEqDiff, Go.Addr.add, ↓reduceIte] at hx329_6)
                    (try simp only [show (19 : Int).toNat = 19 from rfl, Nat.reduceMul, Nat.reduceEqDiff, Go.Addr.add, ↓reduceIte] at hx329_7)
                    (try simp only [show (19 : Int).toNat = 19 from rfl, Nat.reduceMul, Nat.reduceEqDiff, Go.Addr.add, ↓reduceIte] at hx329_8)
                    have qi329 : (19 < t323.length) = True := eq_true (by omega)
                    (try rw [show ((19 : Int)).toNat = 19 from rfl] at hx329_0)
                    (try rw [show 19 * 9 = 171 from rfl] at hx329_0)
                    (try rw [show ((19 : Int)).toNat = 19 from rfl] at hx329_1)
                    (try rw [show 19 * 9 = 171 from rfl] at hx329_1)
                    (try rw [show ((19 : Int)).toNat = 19 from rfl] at hx329_2)
                    (try rw [show 19 * 9 = 171 from rfl] at hx329_2)
                    (try rw [show ((19 : Int)).toNat = 19 from rfl] at hx329_3)
                    (try rw [show 19 * 9 = 171 from rfl] at hx329_3)
                    (try rw [show ((19 : Int)).toNat = 19 from rfl] at hx329_4)
                    (try rw [show 19 * 9 = 171 from rfl] at hx329_4)
                    (try rw [show ((19 : Int)).toNat = 19 from rfl] at hx329_5)
                    (try rw [show 19 * 9 = 171 from rfl] at hx329_5)
                    (try rw [show ((19 : Int)).toNat = 19 from rfl] at hx329_6)
                    (try rw [show 19 * 9 = 171 from rfl] at hx329_6)
                    (try rw [show ((19 : Int)).toNat = 19 from rfl] at hx329_7)
                    (try rw [show 19 * 9 = 171 from rfl] at hx329_7)
                    (try rw [show ((19 : Int)).toNat = 19 from rfl] at hx329_8)
                    (try rw [show 19 * 9 = 171 from rfl] at hx329_8)
                    replace p329 := eq_true p329
                    replace q329 := eq_true q329
                    have p330 : 0 ≤ (19 : Int) := (by omega)
                    have q330 : 19 < (t323.length : Int) := of_decide_eq_true (by first | (with_reducible assumption) | assumption)
                    obtain ⟨ad330, e330, hx330_0, hx330_1, hx330_2, hx330_3, hx330_4, hx330_5, hx330_6, hx330_7, hx330_8⟩ := at_T25 (Kd.R_reads' HO325.out).2.2 19 p330 q330
                    (try rw [← Nbq60.out] at hx330_8)
                    obtain rfl : ad327 = ad330 := (by injection e330)
                    (try simp only [show (19 : Int).toNat = 19 from rfl, Nat.reduceMul, Nat.reduceEqDiff, Go.Addr.add, ↓reduceIte] at hx330_0)
                    (try simp only [show (19 : Int).toNat = 19 from rfl, Nat.reduceMul, Nat.reduceEqDiff, Go.Addr.add, ↓reduceIte] at hx330_1)
                    (try simp only [show (19 : Int).toNat = 19 from rfl, Nat.reduceMul, Nat.reduceEqDiff, Go.Addr.add, ↓reduceIte] at hx330_2)
                    (try simp only [show (19 : Int).toNat = 19 from rfl, Nat.reduceMul, Nat.reduceEqDiff, Go.Addr.add, ↓reduceIte] at hx330_3)
                    (try simp only [show (19 : Int).toNat = 19 from rfl, Nat.reduceMul, Nat.reduceEqDiff, Go.Addr.add, ↓reduceIte] at hx330_4)
                    (try simp only [show (19 : Int).toNat = 19 from rfl, Nat.reduceMul, Nat.reduceEqDiff, Go.Addr.add, ↓reduceIte] at hx330_5)
                    (try simp only [show (19 : Int).toNat = 19 from rfl, Nat.reduceMul, Nat.reduceEqDiff, Go.Addr.add, ↓reduceIte] at hx330_6)
                    (try simp only [show (19 : Int).toNat = 19 from rfl, Nat.reduceMul, Nat.reduceEqDiff, Go.Addr.add, ↓reduceIte] at hx330_7)
                    (try simp only [show (19 : Int).toNat = 19 from rfl, Nat.reduceMul, Nat.reduceEqDiff, Go.Addr.add, ↓reduceIte] at hx330_8)
                    have qi330 : (19 < t323.length) = True := eq_true (by omega)
                    (try rw [show ((19 : Int)).toNat = 19 from rfl] at hx330_0)
                    (try rw [show 19 * 9 = 171 from rfl] at hx330_0)
                    (try rw [show ((19 : Int)).toNat = 19 from rfl] at hx330_1)
                    (try rw [show 19 * 9 = 171 from rfl] at hx330_1)
                    (try rw [show ((19 : Int)).toNat = 19 from rfl] at hx330_2)
                    (try rw [show 19 * 9 = 171 from rfl] at hx330_2)
                    (try rw [show ((19 : Int)).toNat = 19 from rfl] at hx330_3)
                    (try rw [show 19 * 9 = 171 from rfl] at hx330_3)
                    (try rw [show ((19 : Int)).toNat = 19 from rfl] at hx330_4)
                    (try rw [show 19 * 9 = 171 from rfl] at hx330_4)
                    (try rw [show ((19 : Int)).toNat = 19 from rfl] at hx330_5)
                    (try rw [show 19 * 9 = 171 from rfl] at hx330_5)
                    (try rw [show ((19 : Int)).toNat = 19 from rfl] at hx330_6)
                    (try rw [show 19 * 9 = 171 from rfl] at hx330_6)
                    (try rw [show ((19 : Int)).toNat = 19 from rfl] at hx330_7)
                    (try rw [show 19 * 9 = 171 from rfl] at hx330_7)
                    (try rw [show ((19 : Int)).toNat = 19 from rfl] at hx330_8)
                    (try rw [show 19 * 9 = 171 from rfl] at hx330_8)
                    replace p330 := eq_true p330
                    replace q330 := eq_true q330
                    go_wp2
                    go_ret
                    exact ⟨by first | rfl | (simp [errW_none, errW_some] <;> rfl) | (simp [*, errW_none, errW_some] <;> rfl), by repeat (first | (with_reducible first | exact HB.out | apply below_alloc | apply pw_below_drewN | apply below_drew1 | refine below_set ?_ GE290.out) | exact HB.out)⟩
                   ·
                    rw [if_neg c64] at H
                    have c64b0 : (((rd_T25 t323 19).f1) == 2) = false := beq_eq_false_iff_ne.mpr c64
                    have c64b1 : (((rd_T25 t323 19).f1) != 2) = true := bne_iff_ne.mpr c64
                    obtain rfl := Option.some.inj H
                    obtain ⟨Ao66, co66, eo66⟩ := Kd.R_slice HO325.out
                    subst eo66
                    have p327 : 0 ≤ (0 : Int) := (by omega)
                    have q327 : 0 < (t323.length : Int) := of_decide_eq_true (by first | (with_reducible assumption) | assumption)
                    obtain ⟨ad327, e327, hx327_0, hx327_1, hx327_2, hx327_3, hx327_4, hx327_5, hx327_6, hx327_7, hx327_8⟩ := at_T25 (Kd.R_reads' HO325.out).2.2 0 p327 q327
                    (try rw [← Nbq60.out] at hx327_8)
                    cases e327
                    have qi327 : (0 < t323.length) = True := eq_true (by omega)
                    (try rw [show ((0 : Int)).toNat = 0 from rfl] at hx327_0)
                    (try rw [show 0 * 9 = 0 from rfl] at hx327_0)
                    (try rw [Addr.add_zero'] at hx327_0)
                    (try rw [show ((0 : Int)).toNat = 0 from rfl] at hx327_1)
                    (try rw [show 0 * 9 = 0 from rfl] at hx327_1)
                    (try rw [Addr.add_zero'] at hx327_1)
                    (try rw [show ((0 : Int)).toNat = 0 from rfl] at hx327_2)
                    (try rw [show 0 * 9 = 0 from rfl] at hx327_2)
                    (try rw [Addr.add_zero'] at hx327_2)
                    (try rw [show ((0 : Int)).toNat = 0 from rfl] at hx327_3)
                    (try rw [show 0 * 9 = 0 from rfl] at hx327_3)
                    (try rw [Addr.add_zero'] at hx327_3)
                    (try rw [show ((0 : Int)).toNat = 0 from rfl] at hx327_4)
                    (try rw [show 0 * 9 = 0 from rfl] at hx327_4)
                    (try rw [Addr.add_zero'] at hx327_4)
                    (try rw [show ((0 : Int)).toNat = 0 from rfl] at hx327_5)
                    (try rw [show 0 * 9 = 0 from rfl] at hx327_5)
                    (try rw [Addr.add_zero'] at hx327_5)
                    (try rw [show ((0 : Int)).toNat = 0 from rfl] at hx327_6)
                    (try rw [show 0 * 9 = 0 from rfl] at hx327_6)
                    (try rw [Addr.add_zero'] at hx327_6)
                    (try rw [show ((0 : Int)).toNat = 0 from rfl] at hx327_7)
                    (try rw [show 0 * 9 = 0 from rfl] at hx327_7)
                    (try rw [Addr.add_zero'] at hx327_7)
                    (try rw [show ((0 : Int)).toNat = 0 from rfl] at hx327_8)
                    (try rw [show 0 * 9 = 0 from rfl] at hx327_8)
                    (try rw [Addr.add_zero'] at hx327_8)
                    replace p327 := eq_true p327
                    replace q327 := eq_true q327
                    have p328 : 0 ≤ (0 : Int) := (by omega)
                    have q328 : 0 < (t323.length : Int) := of_decide_eq_true (by first | (with_reducible assumption) | assumption)
                    obtain ⟨ad328, e328, hx328_0, hx328_1, hx328_2, hx328_3, hx328_4, hx328_5, hx328_6, hx328_7, hx328_8⟩ := at_T25 (Kd.R_reads' HO325.out).2.2 0 p328 q328
                    (try rw [← Nbq60.out] at hx328_8)
                    obtain rfl : ad327 = ad328 := (by injection e328)
                    have qi328 : (0 < t323.length) = True := eq_true (by omega)
                    (try rw [show ((0 : Int)).toNat = 0 from rfl] at hx328_0)
                    (try rw [show 0 * 9 = 0 from rfl] at hx328_0)
                    (try rw [Addr.add_zero'] at hx328_0)
                    (try rw [show ((0 : Int)).toNat = 0 from rfl] at hx328_1)
                    (try rw [show 0 * 9 = 0 from rfl] at hx328_1)
                    (try rw [Addr.add_zero'] at hx328_1)
                    (try rw [show ((0 : Int)).toNat = 0 from rfl] at hx328_2)
                    (try rw [show 0 * 9 = 0 from rfl] at hx328_2)
                    (try rw [Addr.add_zero'] at hx328_2)
                    (try rw [show ((0 : Int)).toNat = 0 from rfl] at hx328_3)
                    (try rw [show 0 * 9 = 0 from rfl] at hx328_3)
                    (try rw [Addr.add_zero'] at hx328_3)
                    (try rw [show ((0 : Int)).toNat = 0 from rfl] at hx328_4)
                    (try rw [show 0 * 9 = 0 from rfl] at hx328_4)
                    (try rw [Addr.add_zero'] at hx328_4)
                    (try rw [show ((0 : Int)).toNat = 0 from rfl] at hx328_5)
                    (try rw [show 0 * 9 = 0 from rfl] at hx328_5)
                    (try rw [Addr.add_zero'] at hx328_5)
                    (try rw [show ((0 : Int)).toNat = 0 from rfl] at hx328_6)
                    (try rw [show 0 * 9 = 0 from rfl] at hx328_6)
                    (try rw [Addr.add_zero'] at hx328_6)
                    (try rw [show ((0 : Int)).toNat = 0 from rfl] at hx328_7)
                    (try rw [show 0 * 9 = 0 from rfl] at hx328_7)
                    (try rw [Addr.add_zero'] at hx328_7)
                    (try rw [show ((0 : Int)).toNat = 0 from rfl] at hx328_8)
                    (try rw [show 0 * 9 = 0 from rfl] at hx328_8)
                    (try rw [Addr.add_zero'] at hx328_8)
                    replace p328 := eq_true p328
                    replace q328 := eq_true q328
                    have p329 : 0 ≤ (19 : Int) := (by omega)
                    have q329 : 19 < (t323.length : Int) := of_decide_eq_true (by first | (with_reducible assumption) | assumption)
                    obtain ⟨ad329, e329, hx329_0, hx329_1, hx329_2, hx329_3, hx329_4, hx329_5, hx329_6, hx329_7, hx329_8⟩ := at_T25 (Kd.R_reads' HO325.out).2.2 19 p329 q329
                    (try rw [← Nbq60.out] at hx329_8)
                    obtain rfl : ad327 = ad329 := (by injection e329)
                    (try simp only [show (19 : Int).toNat = 19 from rfl, Nat.reduceMul, Nat.reduceEqDiff, Go.Addr.add, ↓reduceIte] at hx329_0)
                    (try simp only [show (19 : Int).toNat = 19 from rfl, Nat.reduceMul, Nat.reduceEqDiff, Go.Addr.add, ↓reduceIte] at hx329_1)
                    (try simp only [show (19 : Int).toNat = 19 from rfl, Nat.reduceMul, Nat.reduceEqDiff, Go.Addr.add, ↓reduceIte] at hx329_2)
                    (try simp only [show (19 : Int).toNat = 19 from rfl, Nat.reduceMul, Nat.reduceEqDiff, Go.Addr.add, ↓reduceIte] at hx329_3)
                    (try simp only [show (19 : Int).toNat = 19 from rfl, Nat.reduceMul, Nat.reduceEqDiff, Go.Addr.add, ↓reduceIte] at hx329_4)
                    (try simp only [show (19 : Int).toNat = 19 from rfl, Nat.reduceMul, Nat.reduceEqDiff, Go.Addr.add, ↓reduceIte] at hx329_5)
                    (try simp only [show (19 : Int).toNat = 19 from rfl, Nat.reduceMul, Nat.reduceEqDiff, Go.Addr.add, ↓reduceIte] at hx329_6)
                    (try simp only [show (19 : Int).toNat = 19 from rfl, Nat.reduceMul, Nat.reduceEqDiff, Go.Addr.add, ↓reduceIte] at hx329_7)
                    (try simp only [show (19 : Int).toNat = 19 from rfl, Nat.reduceMul, Nat.reduceEqDiff, Go.Addr.add, ↓reduceIte] at hx329_8)
                    have qi329 : (19 < t323.length) = True := eq_true (by omega)
                    (try rw [show ((19 : Int)).toNat = 19 from rfl] at hx329_0)
                    (try rw [show 19 * 9 = 171 from rfl] at hx329_0)
                    (try rw [show ((19 : Int)).toNat = 19 from rfl] at hx329_1)
                    (try rw [show 19 * 9 = 171 from rfl] at hx329_1)
                    (try rw [show ((19 : Int)).toNat = 19 from rfl] at hx329_2)
                    (try rw [show 19 * 9 = 171 from rfl] at hx329_2)
                    (try rw [show ((19 : Int)).toNat = 19 from rfl] at hx329_3)
                    (try rw [show 19 * 9 = 171 from rfl] at hx329_3)
                    (try rw [show ((19 : Int)).toNat = 19 from rfl] at hx329_4)
                    (try rw [show 19 * 9 = 171 from rfl] at hx329_4)
                    (try rw [show ((19 : Int)).toNat = 19 from rfl] at hx329_5)
                    (try rw [show 19 * 9 = 171 from rfl] at hx329_5)
                    (try rw [show ((19 : Int)).toNat = 19 from rfl] at hx329_6)
                    (try rw [show 19 * 9 = 171 from rfl] at hx329_6)
                    (try rw [show ((19 : Int)).toNat = 19 from rfl] at hx329_7)
                    (try rw [show 19 * 9 = 171 from rfl] at hx329_7)
                    (try rw [show ((19 : Int)).toNat = 19 from rfl] at hx329_8)
                    (try rw [show 19 * 9 = 171 from rfl] at hx329_8)
                    replace p329 := eq_true p329
                    replace q329 := eq_true q329
                    go_wp2
                    go_ret
                    exact ⟨by first | rfl | (simp [errW_none, errW_some] <;> rfl) | (simp [*, errW_none, errW_some] <;> rfl), by repeat (first | (with_reducible first | exact HB.out | apply below_alloc | apply pw_below_drewN | apply below_drew1 | refine below_set ?_ GE290.out) | exact HB.out)⟩
                  ·
                   rw [if_neg c63] at H
                   exact absurd H (by simp)
                ·
                 rw [if_neg c59] at H
                 have c59b0 : (((rd_T25 t323 0).f1) == 3) = false := beq_eq_false_iff_ne.mpr c59
                 have c59b1 : (((rd_T25 t323 0).f1) != 3) = true := bne_iff_ne.mpr c59
                 obtain rfl := Option.some.inj H
                 obtain ⟨Ao67, co67, eo67⟩ := Kd.R_slice HO325.out
                 subst eo67
                 have p327 : 0 ≤ (0 : Int) := (by omega)
                 have q327 : 0 < (t323.length : Int) := of_decide_eq_true (by first | (with_reducible assumption) | assumption)
                 obtain ⟨ad327, e327, hx327_0, hx327_1, hx327_2, hx327_3, hx327_4, hx327_5, hx327_6, hx327_7, hx327_8⟩ := at_T25 (Kd.R_reads' HO325.out).2.2 0 p327 q327
                 cases e327
                 have qi327 : (0 < t323.length) = True := eq_true (by omega)
                 (try rw [show ((0 : Int)).toNat = 0 from rfl] at hx327_0)
                 (try rw [show 0 * 9 = 0 from rfl] at hx327_0)
                 (try rw [Addr.add_zero'] at hx327_0)
                 (try rw [show ((0 : Int)).toNat = 0 from rfl] at hx327_1)
                 (try rw [show 0 * 9 = 0 from rfl] at hx327_1)
                 (try rw [Addr.add_zero'] at hx327_1)
                 (try rw [show ((0 : Int)).toNat = 0 from rfl] at hx327_2)
                 (try rw [show 0 * 9 = 0 from rfl] at hx327_2)
                 (try rw [Addr.add_zero'] at hx327_2)
                 (try rw [show ((0 : Int)).toNat = 0 from rfl] at hx327_3)
                 (try rw [show 0 * 9 = 0 from rfl] at hx327_3)
                 (try rw [Addr.add_zero'] at hx327_3)
                 (try rw [show ((0 : Int)).toNat = 0 from rfl] at hx327_4)
                 (try rw [show 0 * 9 = 0 from rfl] at hx327_4)
                 (try rw [Addr.add_zero'] at hx327_4)
                 (try rw [show ((0 : Int)).toNat = 0 from rfl] at hx327_5)
                 (try rw [show 0 * 9 = 0 from rfl] at hx327_5)
                 (try rw [Addr.add_zero'] at hx327_5)
                 (try rw [show ((0 : Int)).toNat = 0 from rfl] at hx327_6)
                 (try rw [show 0 * 9 = 0 from rfl] at hx327_6)
                 (try rw [Addr.add_zero'] at hx327_6)
                 (try rw [show ((0 : Int)).toNat = 0 from rfl] at hx327_7)
                 (try rw [show 0 * 9 = 0 from rfl] at hx327_7)
                 (try rw [Addr.add_zero'] at hx327_7)
                 (try rw [show ((0 : Int)).toNat = 0 from rfl] at hx327_8)
                 (try rw [show 0 * 9 = 0 from rfl] at hx327_8)
                 (try rw [Addr.add_zero'] at hx327_8)
                 replace p327 := eq_true p327
                 replace q327 := eq_true q327
                 go_wp2
                 go_ret
                 exact ⟨by first | rfl | (simp [errW_none, errW_some] <;> rfl) | (simp [*, errW_none, errW_some] <;> rfl), by repeat (first | (with_reducible first | exact HB.out | apply below_alloc | apply pw_below_drewN | apply below_drew1 | refine below_set ?_ GE290.out) | exact HB.out)⟩
               ·
                rw [if_neg c58] at H
                exact absurd H (by simp)
              ·
               replace c57 := Bool.eq_false_iff.mpr c57
               subst c57
               have H1 : (some false) = some r := by rw [if_neg (show ¬ (false = true) by decide)] at H; exact H
               clear H
               have H := H1
               clear H1
               obtain rfl := Option.some.inj H
               go_wp2
               go_ret
               exact ⟨by first | rfl | (simp [errW_none, errW_some] <;> rfl) | (simp [*, errW_none, errW_some] <;> rfl), by repeat (first | (with_reducible first | exact HB.out | apply below_alloc | apply pw_below_drewN | apply below_drew1 | refine below_set ?_ GE290.out) | exact HB.out)⟩
             ·
              rw [if_neg c47] at H
              exact absurd H (by simp)
         ·
          rw [if_neg c38] at H
          have c38b0 : decide (180 < (Int.tmod (wrap64 ((wrap64 ((Int.tmod (wrap64 (t288 * 7)) 360) - (Int.tmod (wrap64 (t287 * 3)) 360))) + 360)) 360)) = false := decide_eq_false c38
          clear c38
          have HC68 := Aside0.mk H
          clear H
          go_upto_region 17 with (fail)
          go_cut [104, 83] (fun v104 v83 wc => ∃ (kq : Nat) (x104_67 : Bool), v104 = .bool x104_67 ∧ Aside0 (laws_FnTurned.j3 kq x104_67 t301 t302 t303 t304 t305 t306 t307 t308 false = some r) ∧ Aside0 (kq ≤ kj23) ∧ Aside0 (wc.heap[gb290]? = some (.cells #[.int .i64 t301, .int .i64 t302, .int .i64 t303, .int .i64 t304, .int .i64 t305, .int .i64 t306, .int .i64 t307, .int .i64 t308, .bool false] 25 (0, 0))) ∧ Aside0 (Below w.heap.size w wc))
          case first =>
           have H := HC68.out
           clear HC68
           by_cases c69 : (wrap64 (Int.tdiv (wrap64 ((Int.tmod (wrap64 ((wrap64 ((Int.tmod (wrap64 (t288 * 7)) 360) - (Int.tmod (wrap64 (t287 * 3)) 360))) + 360)) 360) + 2)) 3)) > 0
           ·
            rw [if_pos c69] at H
            have c69b0 : decide (0 < (wrap64 (Int.tdiv (wrap64 ((Int.tmod (wrap64 ((wrap64 ((Int.tmod (wrap64 (t288 * 7)) 360) - (Int.tmod (wrap64 (t287 * 3)) 360))) + 360)) 360) + 2)) 3))) = true := decide_eq_true c69
            clear c69
            (first | rw [c69b0] | (simp only [i64_w, i32_w]; rw [c69b0]) | skip)
            by_cases c70 : (wrap64 (Int.tdiv (wrap64 ((Int.tmod (wrap64 ((wrap64 ((Int.tmod (wrap64 (t288 * 7)) 360) - (Int.tmod (wrap64 (t287 * 3)) 360))) + 360)) 360) + 2)) 3)) < 60
            ·
             rw [if_pos c70] at H
             have c70b0 : decide ((wrap64 (Int.tdiv (wrap64 ((Int.tmod (wrap64 ((wrap64 ((Int.tmod (wrap64 (t288 * 7)) 360) - (Int.tmod (wrap64 (t287 * 3)) 360))) + 360)) 360) + 2)) 3)) < 60) = true := decide_eq_true c70
             clear c70
             obtain ⟨ji71, hji71⟩ : ∃ j_ : Int, (wrap64 ((wrap64 (Int.tdiv (wrap64 ((Int.tmod (wrap64 ((wrap64 ((Int.tmod (wrap64 (t288 * 7)) 360) - (Int.tmod (wrap64 (t287 * 3)) 360))) + 360)) 360) + 2)) 3)) - 1)) = j_ := ⟨_, rfl⟩
             replace H : (if 0 ≤ (ji71) then (if (ji71) < (t314.length : Int) then (laws_FnTurned.j3 kj23 (((rd_T25 t314 (ji71)).f5) != (Int.tmod (wrap64 (t288 * 7)) 360)) t301 t302 t303 t304 t305 t306 t307 t308 false) else (none)) else (none)) = some r := by first | (rw [hji71] at H; exact H) | (simp only [hji71] at H ⊢; exact H)
             have hji71w : (IntKind.i64.wrap ((wrap64 (Int.tdiv (wrap64 ((Int.tmod (wrap64 ((wrap64 ((Int.tmod (wrap64 (t288 * 7)) 360) - (Int.tmod (wrap64 (t287 * 3)) 360))) + 360)) 360) + 2)) 3)) - 1)) = ji71 := (i64_w _).trans hji71
             by_cases c72 : 0 ≤ (ji71)
             ·
              rw [if_pos c72] at H
              have c72b0 : decide (0 ≤ (ji71)) = true := decide_eq_true c72
              clear c72
              by_cases c73 : (ji71) < (t314.length : Int)
              ·
               rw [if_pos c73] at H
               have c73b0 : decide ((ji71) < (t314.length : Int)) = true := decide_eq_true c73
               clear c73
               have H' := Aside0.mk H
               clear H
               obtain ⟨Ao74, co74, eo74⟩ := Kd.R_slice HO_8.out
               subst eo74
               have p331 : 0 ≤ ((ji71) : Int) := of_decide_eq_true (by first | (with_reducible assumption) | assumption)
               have q331 : (ji71) < (t314.length : Int) := of_decide_eq_true (by first | (with_reducible assumption) | assumption)
               obtain ⟨ad331, e331, hx331_0, hx331_1, hx331_2, hx331_3, hx331_4, hx331_5, hx331_6, hx331_7, hx331_8⟩ := at_T25 (Kd.R_reads' HO_8.out).2.2 (ji71) p331 q331
               cases e331
               replace p331 := eq_true p331
               replace q331 := eq_true q331
               go_wp2
               go_meet
               case rel => exact ⟨_, ((((rd_T25 t314 (ji71)).f5) != (Int.tmod (wrap64 (t288 * 7)) 360))), (by first | rfl | (simp; done) | (simp only [← hji71] <;> (first | rfl | simp)) | (simp [*]; done)), H', ⟨by have := HJ8.out; have := HJ23.out; first | omega | exact Nat.le_refl _⟩, ⟨by (with_reducible repeat (first | refine blk_drewN ?_ _ | refine blk_drew ?_ | refine blk_alloc ?_ _)); exact BK290.out⟩, ⟨by repeat (first | (with_reducible first | exact HB.out | apply below_alloc | apply pw_below_drewN | apply below_drew1 | refine below_set ?_ GE290.out) | exact HB.out)⟩⟩
              ·
               rw [if_neg c73] at H
               exact absurd H (by simp)
             ·
              rw [if_neg c72] at H
              exact absurd H (by simp)
            ·
             rw [if_neg c70] at H
             have c70b0 : decide ((wrap64 (Int.tdiv (wrap64 ((Int.tmod (wrap64 ((wrap64 ((Int.tmod (wrap64 (t288 * 7)) 360) - (Int.tmod (wrap64 (t287 * 3)) 360))) + 360)) 360) + 2)) 3)) < 60) = false := decide_eq_false c70
             clear c70
             have H' := Aside0.mk H
             clear H
             go_wp2
             go_meet
             case rel => exact ⟨_, (false), (by first | rfl | (simp; done) | (simp [*]; done)), H', ⟨by have := HJ8.out; have := HJ23.out; first | omega | exact Nat.le_refl _⟩, ⟨by (with_reducible repeat (first | refine blk_drewN ?_ _ | refine blk_drew ?_ | refine blk_alloc ?_ _)); exact BK290.out⟩, ⟨by repeat (first | (with_reducible first | exact HB.out | apply below_alloc | apply pw_below_drewN | apply below_drew1 | refine below_set ?_ GE290.out) | exact HB.out)⟩⟩
           ·
            rw [if_neg c69] at H
            have c69b0 : decide (0 < (wrap64 (Int.tdiv (wrap64 ((Int.tmod (wrap64 ((wrap64 ((Int.tmod (wrap64 (t288 * 7)) 360) - (Int.tmod (wrap64 (t287 * 3)) 360))) + 360)) 360) + 2)) 3))) = false := decide_eq_false c69
            clear c69
            (first | rw [c69b0] | (simp only [i64_w, i32_w]; rw [c69b0]) | skip)
            have H' := Aside0.mk H
            clear H
            go_wp2
            go_meet
            case rel => exact ⟨_, (false), (by first | rfl | (simp; done) | (simp [*]; done)), H', ⟨by have := HJ8.out; have := HJ23.out; first | omega | exact Nat.le_refl _⟩, ⟨by (with_reducible repeat (first | refine blk_drewN ?_ _ | refine blk_drew ?_ | refine blk_alloc ?_ _)); exact BK290.out⟩, ⟨by repeat (first | (with_reducible first | exact HB.out | apply below_alloc | apply pw_below_drewN | apply below_drew1 | refine below_set ?_ GE290.out) | exact HB.out)⟩⟩
          case rest =>
           clear HC68
           try clear c1
           try clear p2
           try clear c3
           try clear p3
           try clear q3
           try clear hx3
           try clear qi3
           try clear c4
           try clear c5
           try clear c6
           try clear p6
           try clear q6
           try clear c7
           try clear c15
           try clear p32
           try clear q32
           try clear hx32
           try clear qi32
           try clear p33
           try clear q33
           try clear hx33
           try clear qi33
           try clear c38
           try clear c38b0
           try clear c47
           try clear c57
           try clear c58
           try clear c58b0
           try clear c58b1
           try clear c59
           try clear c59b0
           try clear c59b1
           try clear q60
           try clear c61
           try clear c63
           try clear c63b0
           try clear c63b1
           try clear c64
           try clear c64b0
           try clear c64b1
           try clear p64
           try clear c69
           try clear c69b0
           try clear c70
           try clear c70b0
           try clear c72
           try clear c72b0
           try clear c73
           try clear c73b0
           try clear hx327_0
           try clear hx327_1
           try clear hx327_2
           try clear hx327_3
           try clear hx327_4
           try clear hx327_5
           try clear hx327_6
           try clear hx327_7
           try clear hx327_8
           try clear hx328_0
           try clear hx328_1
           try clear hx328_2
           try clear hx328_3
           try clear hx328_4
           try clear hx328_5
           try clear hx328_6
           try clear hx328_7
           try clear hx328_8
           try clear hx329_0
           try clear hx329_1
           try clear hx329_2
           try clear hx329_3
           try clear hx329_4
           try clear hx329_5
           try clear hx329_6
           try clear hx329_7
           try clear hx329_8
           try clear hx330_0
           try clear hx330_1
           try clear hx330_2
           try clear hx330_3
           try clear hx330_4
           try clear hx330_5
           try clear hx330_6
           try clear hx330_7
           try clear hx330_8
           try clear hx331_0
           try clear hx331_1
           try clear hx331_2
           try clear hx331_3
           try clear hx331_4
           try clear hx331_5
           try clear hx331_6
           try clear hx331_7
           try clear hx331_8
           try clear p327
           try clear p328
           try clear p329
           try clear p330
           try clear p331
           try clear q327
           try clear q328
           try clear q329
           try clear q330
           try clear q331
           obtain ⟨kq, x104_67, rfl, HA, HJ67, BK290, HB⟩ := hcut
           cases kq with
           | zero => exact absurd HA.out (by simp [laws_FnTurned.j3])
           | succ kj67 =>
            have H := HA.out
            clear HA
            simp only [laws_FnTurned.j3] at H
            by_cases c75 : x104_67 = true
            ·
             subst c75
             have H1 : (some false) = some r := by rw [if_pos rfl] at H; exact H
             clear H
             have H := H1
             clear H1
             obtain rfl := Option.some.inj H
             go_wp2
             go_ret
             exact ⟨by first | rfl | (simp [errW_none, errW_some] <;> rfl) | (simp [*, errW_none, errW_some] <;> rfl), by repeat (first | (with_reducible first | exact HB.out | apply below_alloc | apply pw_below_drewN | apply below_drew1 | refine below_set ?_ GE290.out) | exact HB.out)⟩
            ·
             replace c75 := Bool.eq_false_iff.mpr c75
             subst c75
             have H1 : (if 20 ≤ 35184372088832 then ((impl_Ticks.f kj67 t301 t302 t303 t304 t305 t306 t307 t308 true (List.replicate 20 0)).bind fun bt335 => (if bt335.2 = true then (if 0 < (bt335.1.length : Int) then (if ((rd_T25 bt335.1 0).f1) = 3 then (if ((rd_T25 bt335.1 0).f8 = true) then (some false) else (if 19 < (bt335.1.length : Int) then (if ((rd_T25 bt335.1 19).f1) = 2 then (some (((rd_T25 bt335.1 19).f7) == 0)) else (some false)) else (none))) else (some false)) else (none)) else (some false))) else (none)) = some r := by rw [if_neg (show ¬ (false = true) by decide)] at H; exact H
             clear H
             have H := H1
             clear H1
             by_cases c76 : 20 ≤ 35184372088832
             ·
              rw [if_pos c76] at H
              have c76b0 := eq_true c76
              have c76b1 : decide (20 ≤ 35184372088832) = true := decide_eq_true c76
              clear c76
              obtain ⟨y332, hy332⟩ : ∃ y_ : List Int, y_ = (List.replicate 20 0) := ⟨_, rfl⟩
              replace H : ((impl_Ticks.f kj67 t301 t302 t303 t304 t305 t306 t307 t308 true y332).bind fun bt335 => (if bt335.2 = true then (if 0 < (bt335.1.length : Int) then (if ((rd_T25 bt335.1 0).f1) = 3 then (if ((rd_T25 bt335.1 0).f8 = true) then (some false) else (if 19 < (bt335.1.length : Int) then (if ((rd_T25 bt335.1 19).f1) = 2 then (some (((rd_T25 bt335.1 19).f7) == 0)) else (some false)) else (none))) else (some false)) else (none)) else (some false))) = some r := by first | (rw [hy332]; with_reducible exact H) | (have H2_ := (Option.bind_some _ _).symm.trans H; rw [hy332]; with_reducible exact H2_) | (have H2_ := (Option.bind_some _ _).symm.trans H; with_reducible exact H2_) | with_reducible exact H | (rw [hy332]; exact H) | exact H
              have Ny332 := Aside0.mk hy332
              clear hy332
              replace H := Option.bind_eq_some_iff.mp H
              obtain ⟨⟨t335, t338⟩, A770, H⟩ := H
              replace H : (if t338 = true then (if 0 < (t335.length : Int) then (if ((rd_T25 t335 0).f1) = 3 then (if ((rd_T25 t335 0).f8 = true) then (some false) else (if 19 < (t335.length : Int) then (if ((rd_T25 t335 19).f1) = 2 then (some (((rd_T25 t335 19).f7) == 0)) else (some false)) else (none))) else (some false)) else (none)) else (some false)) = some r := H
              have A77 := Aside0.mk A770
              clear A770
              have HC78 := Aside0.mk H
              clear H
              have hcz79_0 : wc.cell? ⟨gb290, 0, none⟩ = some (.int .i64 t301) := (blk_cell BK290.out 0).trans rfl
              have hcz79_1 : wc.cell? ⟨gb290, 1, none⟩ = some (.int .i64 t302) := (blk_cell BK290.out 1).trans rfl
              have hcz79_2 : wc.cell? ⟨gb290, 2, none⟩ = some (.int .i64 t303) := (blk_cell BK290.out 2).trans rfl
              have hcz79_3 : wc.cell? ⟨gb290, 3, none⟩ = some (.int .i64 t304) := (blk_cell BK290.out 3).trans rfl
              have hcz79_4 : wc.cell? ⟨gb290, 4, none⟩ = some (.int .i64 t305) := (blk_cell BK290.out 4).trans rfl
              have hcz79_5 : wc.cell? ⟨gb290, 5, none⟩ = some (.int .i64 t306) := (blk_cell BK290.out 5).trans rfl
              have hcz79_6 : wc.cell? ⟨gb290, 6, none⟩ = some (.int .i64 t307) := (blk_cell BK290.out 6).trans rfl
              have hcz79_7 : wc.cell? ⟨gb290, 7, none⟩ = some (.int .i64 t308) := (blk_cell BK290.out 7).trans rfl
              have hcz79_8 : wc.cell? ⟨gb290, 8, none⟩ = some (.bool false) := (blk_cell BK290.out 8).trans rfl
              have hfz79_0 := blk_frozen BK290.out 0
              have hfz79_1 := blk_frozen BK290.out 1
              have hfz79_2 := blk_frozen BK290.out 2
              have hfz79_3 := blk_frozen BK290.out 3
              have hfz79_4 := blk_frozen BK290.out 4
              have hfz79_5 := blk_frozen BK290.out 5
              have hfz79_6 := blk_frozen BK290.out 6
              have hfz79_7 := blk_frozen BK290.out 7
              have hfz79_8 := blk_frozen BK290.out 8
              try go_wp2
              have n0_ : Aside0 ((wc.setCell ⟨gb290, 8, none⟩ (.bool true)).heap[gb290]? = some (.cells #[.int .i64 t301, .int .i64 t302, .int .i64 t303, .int .i64 t304, .int .i64 t305, .int .i64 t306, .int .i64 t307, .int .i64 t308, .bool true] 25 (0, 0))) := ⟨by (with_reducible repeat (first | refine blk_drewN ?_ _ | refine blk_drew ?_ | refine blk_alloc ?_ _)); refine blk_put (cs := #[.int .i64 t301, .int .i64 t302, .int .i64 t303, .int .i64 t304, .int .i64 t305, .int .i64 t306, .int .i64 t307, .int .i64 t308, .bool false]) ?_ 8 _ rfl; (with_reducible repeat (first | refine blk_drewN ?_ _ | refine blk_drew ?_ | refine blk_alloc ?_ _)); exact BK290.out⟩
              have n1_ : Aside0 (Below w.heap.size w (wc.setCell ⟨gb290, 8, none⟩ (.bool true))) := ⟨by repeat (first | (with_reducible first | exact HB.out | apply below_alloc | apply pw_below_drewN | apply below_drew1 | refine below_set ?_ GE290.out) | exact HB.out)⟩
              (try (have hsd_ : ∀ (W_ : World) (n_ : Nat) (a_ : Addr) (v_ : Value), (W_.drewN n_).setCell a_ v_ = (W_.setCell a_ v_).drewN n_ := fun _ _ _ _ => rfl); simp only [hsd_]; clear hsd_)
              (try clear BK290)
              (try clear HB)
              generalize (wc.setCell ⟨gb290, 8, none⟩ (.bool true)) = w80 at n0_ n1_ ⊢
              have BK290 := n0_
              have HB := n1_
              clear n0_ n1_
              have n0_ := Aside0.mk (blk_drew BK290.out)
              have n1_ := Aside0.mk (below_drew1 HB.out)
              clear BK290
              clear HB
              have BK290 := n0_
              have HB := n1_
              clear n0_ n1_
              refine start_ (n := 8) (S := fun w' => w'.cell? ⟨gb290, 0, none⟩ = some (.int .i64 t301) ∧ w'.cell? ⟨gb290, 1, none⟩ = some (.int .i64 t302) ∧ w'.cell? ⟨gb290, 2, none⟩ = some (.int .i64 t303) ∧ w'.cell? ⟨gb290, 3, none⟩ = some (.int .i64 t304) ∧ w'.cell? ⟨gb290, 4, none⟩ = some (.int .i64 t305) ∧ w'.cell? ⟨gb290, 5, none⟩ = some (.int .i64 t306) ∧ w'.cell? ⟨gb290, 6, none⟩ = some (.int .i64 t307) ∧ w'.cell? ⟨gb290, 7, none⟩ = some (.int .i64 t308) ∧ w'.cell? ⟨gb290, 8, none⟩ = some (.bool true)) (ds := []) #[f9, f9, f9, f9, f9, f9, f9, f9] (by kernel_rfl) rfl rfl ⟨(blk_cell BK290.out 0).trans rfl, (blk_cell BK290.out 1).trans rfl, (blk_cell BK290.out 2).trans rfl, (blk_cell BK290.out 3).trans rfl, (blk_cell BK290.out 4).trans rfl, (blk_cell BK290.out 5).trans rfl, (blk_cell BK290.out 6).trans rfl, (blk_cell BK290.out 7).trans rfl, (blk_cell BK290.out 8).trans rfl⟩ (fun hHeld => ?_); refine with_tabW laws_FnTurned.tab20 laws_FnTurned.bits20 (fun HT_ HW_ => ?_)
              generalize w80.drew = w81 at BK290 HB hHeld ⊢
              refine take_ (i := 0) (N := some 107) (v := ?_) (a' := ?_) #[t9, f9, f9, f9, f9, f9, f9, f9] rfl rfl (take_ofW HT_.out HW_.out (by kernel_rfl)) (fun _ _ _ h => h) (Or.inl ⟨by rfl, ?_⟩) hHeld ?_ ?_
              rotate_left
              ·
               rintro w' ⟨s0, s1, s2, s3, s4, s5, s6, s7, s8⟩
               go_simp
               with_reducible rfl
              rotate_left
              ·
               simp only [Act.put, List.setIfInBounds_toArray, List.set_cons_zero, List.set_cons_succ, i64_w, i32_w]
               rfl
              refine one_ (i := 1) (N := some 108) #[t9, t9, f9, f9, f9, f9, f9, f9] rfl rfl (one_of HT_.out (by kernel_rfl)) (by decide) (fun K hK => ?_)
              refine Kd.R_make_step (Kd.int .i64) _ 3 (by rfl) (N := 108) rfl 36 _ _ rfl 20 rfl rfl Try.underlying36 (.int .i64 0) 8 info3 rfl (by decide) (by omega) 0 (ok := fun _ => True) (okp := fun _ => True) rfl (fun _ hk => hk) trivial (by omega) (by omega) (Below.refl _ _) (Nat.le_refl _) ?_
              intro v333 w82 ho83 hb hg_ hnew_
              clear hg_ hnew_
              (first | rw [← Ny332.out] at ho83 | (simp only [Int.reduceToNat] at ho83; rw [← Ny332.out] at ho83))
              have n0_ := Aside0.mk (Kd.R_lower ho83 (below_size (by repeat (first | (with_reducible first | exact HB.out | apply below_alloc | apply pw_below_drewN | apply below_drew1 | refine below_set ?_ GE290.out) | exact HB.out))))
              have n1_ := Aside0.mk (blk_below (g := gb290) (o := .cells #[.int .i64 t301, .int .i64 t302, .int .i64 t303, .int .i64 t304, .int .i64 t305, .int .i64 t306, .int .i64 t307, .int .i64 t308, .bool true] 25 (0, 0)) (by (with_reducible repeat (first | refine blk_drewN ?_ _ | refine blk_drew ?_ | refine blk_alloc ?_ _)); exact BK290.out) hb)
              have n2_ := Aside0.mk (below_step (by repeat (first | (with_reducible first | exact HB.out | apply below_alloc | apply pw_below_drewN | apply below_drew1 | refine below_set ?_ GE290.out) | exact HB.out)) hb)
              clear BK290
              clear HB
              have HO334 := n0_
              have BK290 := n1_
              have HB := n2_
              clear n0_ n1_ n2_
              clear hb ho83
              obtain ⟨Ao84, co84, eo84⟩ := Kd.R_slice HO334.out
              (first | subst eo84 | (injection eo84 with f1_ f2_ f3_; have f4_ := f1_.symm; have f5_ := f3_.symm; clear f1_ f2_ f3_; subst f4_; subst f5_))
              refine hK.out _ _ ⟨(blk_cell BK290.out 0).trans rfl, (blk_cell BK290.out 1).trans rfl, (blk_cell BK290.out 2).trans rfl, (blk_cell BK290.out 3).trans rfl, (blk_cell BK290.out 4).trans rfl, (blk_cell BK290.out 5).trans rfl, (blk_cell BK290.out 6).trans rfl, (blk_cell BK290.out 7).trans rfl, (blk_cell BK290.out 8).trans rfl⟩ (fun hHeld => ?_)
              clear hK K
              refine norm_ (a' := ?_) ?_ ?_
              rotate_left
              ·
               show Act.put _ (some 108) _ = _
               simp only [Act.put, List.setIfInBounds_toArray, List.set_cons_zero, List.set_cons_succ, i64_w, i32_w]
               rfl
              refine one_ (i := 2) (N := some 109) #[t9, t9, t9, f9, f9, f9, f9, f9] rfl rfl (one_of HT_.out (by kernel_rfl)) (by decide) (fun K hK => ?_)
              refine goes_ Try.func15 (by kernel_rfl) rfl #[.agg #[.int .i64 t301, .int .i64 t302, .int .i64 t303, .int .i64 t304, .int .i64 t305, .int .i64 t306, .int .i64 t307, .int .i64 t308, .bool true], .slice Ao84 y332.length co84] (by rfl) rfl rfl (by (try simp only [List.map_toArray, List.map_cons, List.map_nil]); first | done | rfl | (simp only [List.length_drop, List.length_take]; rfl)) ?_
              with_reducible refine (impl_Ticks.calls kj67 t301 t302 t303 t304 t305 t306 t307 t308 true _ _ y332 t335 t338 _ ?side1 ?side2 A77.out).mono ?_
              (case side1 => repeat (first | exact (Kd.R_reads' HO334.out).2.2 | (with_reducible refine Kd.C_alloc ?_ _) | (with_reducible refine Kd.C_drewN ?_ _) | (with_reducible refine Kd.C_drew ?_)))
              (case side2 => exact (Kd.R_reads' HO334.out).2.1)
              rintro e w85 ⟨v336, rfl, ho0, hb⟩
              refine ⟨_, rfl, ?_⟩
              have n0_ := Aside0.mk (Kd.R_below (by (with_reducible repeat (first | apply Kd.R_alloc | apply Kd.R_drewN | apply Kd.R_drew)); exact HO334.out) hb)
              have n1_ := Aside0.mk (Kd.R_lower (Kd.R_newB ho0 (g := gb290) (o := .cells #[.int .i64 t301, .int .i64 t302, .int .i64 t303, .int .i64 t304, .int .i64 t305, .int .i64 t306, .int .i64 t307, .int .i64 t308, .bool true] 25 (0, 0)) (by (with_reducible repeat (first | refine blk_drewN ?_ _ | refine blk_drew ?_ | refine blk_alloc ?_ _)); exact BK290.out)) (below_size (by repeat (first | (with_reducible first | exact HB.out | apply below_alloc | apply pw_below_drewN | apply below_drew1 | refine below_set ?_ GE290.out) | exact HB.out))))
              have n2_ := Aside0.mk (blk_below (g := gb290) (o := .cells #[.int .i64 t301, .int .i64 t302, .int .i64 t303, .int .i64 t304, .int .i64 t305, .int .i64 t306, .int .i64 t307, .int .i64 t308, .bool true] 25 (0, 0)) (by (with_reducible repeat (first | refine blk_drewN ?_ _ | refine blk_drew ?_ | refine blk_alloc ?_ _)); exact BK290.out) hb)
              have n3_ := Aside0.mk (below_step (by repeat (first | (with_reducible first | exact HB.out | apply below_alloc | apply pw_below_drewN | apply below_drew1 | refine below_set ?_ GE290.out) | exact HB.out)) hb)
              clear HO334
              clear BK290
              clear HB
              have HO334 := n0_
              have HO337 := n1_
              have BK290 := n2_
              have HB := n3_
              clear n0_ n1_ n2_ n3_
              (try clear hb)
              (try clear hb2)
              (try clear hk)
              (try clear hi)
              (try clear ho0)
              refine hK.out _ _ ⟨(blk_cell BK290.out 0).trans rfl, (blk_cell BK290.out 1).trans rfl, (blk_cell BK290.out 2).trans rfl, (blk_cell BK290.out 3).trans rfl, (blk_cell BK290.out 4).trans rfl, (blk_cell BK290.out 5).trans rfl, (blk_cell BK290.out 6).trans rfl, (blk_cell BK290.out 7).trans rfl, (blk_cell BK290.out 8).trans rfl⟩ (fun hHeld => ?_)
              clear hK K
              refine norm_ (a' := ?_) ?_ ?_
              rotate_left
              ·
               show Act.put _ (some 109) _ = _
               simp only [Act.put, List.setIfInBounds_toArray, List.set_cons_zero, List.set_cons_succ, i64_w, i32_w]
               rfl
              refine pure_ (i := 3) (N := some 106) (v := ?_) (a' := ?_) #[t9, t9, t9, t9, f9, f9, f9, f9] rfl rfl (any_of HT_.out (by kernel_rfl)) (fun _ _ _ h => h) (Or.inl ⟨by rfl, ?_⟩) ?_ ?_
              rotate_left
              ·
               intro w'
               go_simp
               with_reducible rfl
              rotate_left
              ·
               simp only [Act.put, List.setIfInBounds_toArray, List.set_cons_zero, List.set_cons_succ, i64_w, i32_w]
               rfl
              refine pure_ (i := 4) (N := some 110) (v := ?_) (a' := ?_) #[t9, t9, t9, t9, t9, f9, f9, f9] rfl rfl (any_of HT_.out (by kernel_rfl)) (fun _ _ _ h => h) (Or.inl ⟨by rfl, ?_⟩) ?_ ?_
              rotate_left
              ·
               intro w'
               go_simp
               with_reducible rfl
              rotate_left
              ·
               simp only [Act.put, List.setIfInBounds_toArray, List.set_cons_zero, List.set_cons_succ, i64_w, i32_w]
               rfl
              refine pure_ (i := 5) (N := some 111) (v := ?_) (a' := ?_) #[t9, t9, t9, t9, t9, t9, f9, f9] rfl rfl (any_of HT_.out (by kernel_rfl)) (fun _ _ _ h => h) (Or.inl ⟨by rfl, ?_⟩) ?_ ?_
              rotate_left
              ·
               intro w'
               go_simp
               with_reducible rfl
              rotate_left
              ·
               simp only [Act.put, List.setIfInBounds_toArray, List.set_cons_zero, List.set_cons_succ, i64_w, i32_w]
               rfl
              refine pure_ (i := 6) (N := some 8) (v := ?_) (a' := ?_) #[t9, t9, t9, t9, t9, t9, t9, f9] rfl rfl (any_of HT_.out (by kernel_rfl)) (fun _ _ _ h => h) (Or.inl ⟨by rfl, ?_⟩) ?_ ?_
              rotate_left
              ·
               intro w'
               go_simp
               with_reducible rfl
              rotate_left
              ·
               simp only [Act.put, List.setIfInBounds_toArray, List.set_cons_zero, List.set_cons_succ, i64_w, i32_w]
               rfl
              refine pure_ (i := 7) (N := some 9) (v := ?_) (a' := ?_) #[t9, t9, t9, t9, t9, t9, t9, t9] rfl rfl (any_of HT_.out (by kernel_rfl)) (fun _ _ _ h => h) (Or.inl ⟨by rfl, ?_⟩) ?_ ?_
              rotate_left
              ·
               intro w'
               go_simp
               with_reducible rfl
              rotate_left
              ·
               simp only [Act.put, List.setIfInBounds_toArray, List.set_cons_zero, List.set_cons_succ, i64_w, i32_w]
               rfl
              refine done_ (done_of HT_.out (by kernel_rfl)) ?_
              go_upto_region 21 with (fail)
              have H := HC78.out
              clear HC78
              by_cases c86 : t338 = true
              ·
               subst c86
               have H1 : (if 0 < (t335.length : Int) then (if ((rd_T25 t335 0).f1) = 3 then (if ((rd_T25 t335 0).f8 = true) then (some false) else (if 19 < (t335.length : Int) then (if ((rd_T25 t335 19).f1) = 2 then (some (((rd_T25 t335 19).f7) == 0)) else (some false)) else (none))) else (some false)) else (none)) = some r := by rw [if_pos rfl] at H; exact H
               clear H
               have H := H1
               clear H1
               by_cases c87 : 0 < (t335.length : Int)
               ·
                rw [if_pos c87] at H
                have c87b0 : decide (0 < (t335.length : Int)) = true := decide_eq_true c87
                have c87b1 : decide (0 < t335.length) = true := decide_eq_true (by omega)
                clear c87
                (first | rw [c87b0] | (simp only [i64_w, i32_w]; rw [c87b0]) | skip)
                by_cases c88 : ((rd_T25 t335 0).f1) = 3
                ·
                 rw [if_pos c88] at H
                 have c88b0 : (((rd_T25 t335 0).f1) == 3) = true := beq_iff_eq.mpr c88
                 have c88b1 : (((rd_T25 t335 0).f1) != 3) = false := bne_eq_false_iff_eq.mpr c88
                 clear c88
                 obtain ⟨bq89, hbq89⟩ : ∃ b_ : Bool, b_ = ((rd_T25 t335 0).f8) := ⟨_, rfl⟩
                 replace H : (if (bq89 = true) then (some false) else (if 19 < (t335.length : Int) then (if ((rd_T25 t335 19).f1) = 2 then (some (((rd_T25 t335 19).f7) == 0)) else (some false)) else (none))) = some r := by rw [← hbq89] at H; exact H
                 have Nbq89 := Aside0.mk hbq89
                 clear hbq89
                 by_cases c90 : (bq89 = true)
                 ·
                  subst c90
                  have H1 : (some false) = some r := by rw [if_pos rfl] at H; exact H
                  clear H
                  have H := H1
                  clear H1
                  obtain rfl := Option.some.inj H
                  obtain ⟨Ao91, co91, eo91⟩ := Kd.R_slice HO337.out
                  subst eo91
                  have p339 : 0 ≤ (0 : Int) := (by omega)
                  have q339 : 0 < (t335.length : Int) := of_decide_eq_true (by first | (with_reducible assumption) | assumption)
                  obtain ⟨ad339, e339, hx339_0, hx339_1, hx339_2, hx339_3, hx339_4, hx339_5, hx339_6, hx339_7, hx339_8⟩ := at_T25 (Kd.R_reads' HO337.out).2.2 0 p339 q339
                  (try rw [← Nbq89.out] at hx339_8)
                  cases e339
                  have qi339 : (0 < t335.length) = True := eq_true (by omega)
                  (try rw [show ((0 : Int)).toNat = 0 from rfl] at hx339_0)
                  (try rw [show 0 * 9 = 0 from rfl] at hx339_0)
                  (try rw [Addr.add_zero'] at hx339_0)
                  (try rw [show ((0 : Int)).toNat = 0 from rfl] at hx339_1)
                  (try rw [show 0 * 9 = 0 from rfl] at hx339_1)
                  (try rw [Addr.add_zero'] at hx339_1)
                  (try rw [show ((0 : Int)).toNat = 0 from rfl] at hx339_2)
                  (try rw [show 0 * 9 = 0 from rfl] at hx339_2)
                  (try rw [Addr.add_zero'] at hx339_2)
                  (try rw [show ((0 : Int)).toNat = 0 from rfl] at hx339_3)
                  (try rw [show 0 * 9 = 0 from rfl] at hx339_3)
                  (try rw [Addr.add_zero'] at hx339_3)
                  (try rw [show ((0 : Int)).toNat = 0 from rfl] at hx339_4)
                  (try rw [show 0 * 9 = 0 from rfl] at hx339_4)
                  (try rw [Addr.add_zero'] at hx339_4)
                  (try rw [show ((0 : Int)).toNat = 0 from rfl] at hx339_5)
                  (try rw [show 0 * 9 = 0 from rfl] at hx339_5)
                  (try rw [Addr.add_zero'] at hx339_5)
                  (try rw [show ((0 : Int)).toNat = 0 from rfl] at hx339_6)
                  (try rw [show 0 * 9 = 0 from rfl] at hx339_6)
                  (try rw [Addr.add_zero'] at hx339_6)
                  (try rw [show ((0 : Int)).toNat = 0 from rfl] at hx339_7)
                  (try rw [show 0 * 9 = 0 from rfl] at hx339_7)
                  (try rw [Addr.add_zero'] at hx339_7)
                  (try rw [show ((0 : Int)).toNat = 0 from rfl] at hx339_8)
                  (try rw [show 0 * 9 = 0 from rfl] at hx339_8)
                  (try rw [Addr.add_zero'] at hx339_8)
                  replace p339 := eq_true p339
                  replace q339 := eq_true q339
                  have p340 : 0 ≤ (0 : Int) := (by omega)
                  have q340 : 0 < (t335.length : Int) := of_decide_eq_true (by first | (with_reducible assumption) | assumption)
                  obtain ⟨ad340, e340, hx340_0, hx340_1, hx340_2, hx340_3, hx340_4, hx340_5, hx340_6, hx340_7, hx340_8⟩ := at_T25 (Kd.R_reads' HO337.out).2.2 0 p340 q340
                  (try rw [← Nbq89.out] at hx340_8)
                  obtain rfl : ad339 = ad340 := (by injection e340)
                  have qi340 : (0 < t335.length) = True := eq_true (by omega)
                  (try rw [show ((0 : Int)).toNat = 0 from rfl] at hx340_0)
                  (try rw [show 0 * 9 = 0 from rfl] at hx340_0)
                  (try rw [Addr.add_zero'] at hx340_0)
                  (try rw [show ((0 : Int)).toNat = 0 from rfl] at hx340_1)
                  (try rw [show 0 * 9 = 0 from rfl] at hx340_1)
                  (try rw [Addr.add_zero'] at hx340_1)
                  (try rw [show ((0 : Int)).toNat = 0 from rfl] at hx340_2)
                  (try rw [show 0 * 9 = 0 from rfl] at hx340_2)
                  (try rw [Addr.add_zero'] at hx340_2)
                  (try rw [show ((0 : Int)).toNat = 0 from rfl] at hx340_3)
                  (try rw [show 0 * 9 = 0 from rfl] at hx340_3)
                  (try rw [Addr.add_zero'] at hx340_3)
                  (try rw [show ((0 : Int)).toNat = 0 from rfl] at hx340_4)
                  (try rw [show 0 * 9 = 0 from rfl] at hx340_4)
                  (try rw [Addr.add_zero'] at hx340_4)
                  (try rw [show ((0 : Int)).toNat = 0 from rfl] at hx340_5)
                  (try rw [show 0 * 9 = 0 from rfl] at hx340_5)
                  (try rw [Addr.add_zero'] at hx340_5)
                  (try rw [show ((0 : Int)).toNat = 0 from rfl] at hx340_6)
                  (try rw [show 0 * 9 = 0 from rfl] at hx340_6)
                  (try rw [Addr.add_zero'] at hx340_6)
                  (try rw [show ((0 : Int)).toNat = 0 from rfl] at hx340_7)
                  (try rw [show 0 * 9 = 0 from rfl] at hx340_7)
                  (try rw [Addr.add_zero'] at hx340_7)
                  (try rw [show ((0 : Int)).toNat = 0 from rfl] at hx340_8)
                  (try rw [show 0 * 9 = 0 from rfl] at hx340_8)
                  (try rw [Addr.add_zero'] at hx340_8)
                  replace p340 := eq_true p340
                  replace q340 := eq_true q340
                  go_wp2
                  go_ret
                  exact ⟨by first | rfl | (simp [errW_none, errW_some] <;> rfl) | (simp [*, errW_none, errW_some] <;> rfl), by repeat (first | (with_reducible first | exact HB.out | apply below_alloc | apply pw_below_drewN | apply below_drew1 | refine below_set ?_ GE290.out) | exact HB.out)⟩
                 ·
                  replace c90 := Bool.eq_false_iff.mpr c90
                  subst c90
                  have H1 : (if 19 < (t335.length : Int) then (if ((rd_T25 t335 19).f1) = 2 then (some (((rd_T25 t335 19).f7) == 0)) else (some false)) else (none)) = some r := by rw [if_neg (show ¬ (false = true) by decide)] at H; exact H
                  clear H
                  have H := H1
                  clear H1
                  by_cases c92 : 19 < (t335.length : Int)
                  ·
                   rw [if_pos c92] at H
                   have c92b0 : decide (19 < (t335.length : Int)) = true := decide_eq_true c92
                   have c92b1 : decide (19 < t335.length) = true := decide_eq_true (by omega)
                   clear c92
                   by_cases c93 : ((rd_T25 t335 19).f1) = 2
                   ·
                    rw [if_pos c93] at H
                    have c93b0 : (((rd_T25 t335 19).f1) == 2) = true := beq_iff_eq.mpr c93
                    have c93b1 : (((rd_T25 t335 19).f1) != 2) = false := bne_eq_false_iff_eq.mpr c93
                    clear c93
                    obtain rfl := Option.some.inj H
                    obtain ⟨Ao94, co94, eo94⟩ := Kd.R_slice HO337.out
                    subst eo94
                    have p339 : 0 ≤ (0 : Int) := (by omega)
                    have q339 : 0 < (t335.length : Int) := of_decide_eq_true (by first | (with_reducible assumption) | assumption)
                    obtain ⟨ad339, e339, hx339_0, hx339_1, hx339_2, hx339_3, hx339_4, hx339_5, hx339_6, hx339_7, hx339_8⟩ := at_T25 (Kd.R_reads' HO337.out).2.2 0 p339 q339
                    (try rw [← Nbq89.out] at hx339_8)
                    cases e339
                    have qi339 : (0 < t335.length) = True := eq_true (by omega)
                    (try rw [show ((0 : Int)).toNat = 0 from rfl] at hx339_0)
                    (try rw [show 0 * 9 = 0 from rfl] at hx339_0)
                    (try rw [Addr.add_zero'] at hx339_0)
                    (try rw [show ((0 : Int)).toNat = 0 from rfl] at hx339_1)
                    (try rw [show 0 * 9 = 0 from rfl] at hx339_1)
                    (try rw [Addr.add_zero'] at hx339_1)
                    (try rw [show ((0 : Int)).toNat = 0 from rfl] at hx339_2)
                    (try rw [show 0 * 9 = 0 from rfl] at hx339_2)
                    (try rw [Addr.add_zero'] at hx339_2)
                    (try rw [show ((0 : Int)).toNat = 0 from rfl] at hx339_3)
                    (try rw [show 0 * 9 = 0 from rfl] at hx339_3)
                    (try rw [Addr.add_zero'] at hx339_3)
                    (try rw [show ((0 : Int)).toNat = 0 from rfl] at hx339_4)
                    (try rw [show 0 * 9 = 0 from rfl] at hx339_4)
                    (try rw [Addr.add_zero'] at hx339_4)
                    (try rw [show ((0 : Int)).toNat = 0 from rfl] at hx339_5)
                    (try rw [show 0 * 9 = 0 from rfl] at hx339_5)
                    (try rw [Addr.add_zero'] at hx339_5)
                    (try rw [show ((0 : Int)).toNat = 0 from rfl] at hx339_6)
                    (try rw [show 0 * 9 = 0 from rfl] at hx339_6)
                    (try rw [Addr.add_zero'] at hx339_6)
                    (try rw [show ((0 : Int)).toNat = 0 from rfl] at hx339_7)
                    (try rw [show 0 * 9 = 0 from rfl] at hx339_7)
                    (try rw [Addr.add_zero'] at hx339_7)
                    (try rw [show ((0 : Int)).toNat = 0 from rfl] at hx339_8)
                    (try rw [show 0 * 9 = 0 from rfl] at hx339_8)
                    (try rw [Addr.add_zero'] at hx339_8)
                    replace p339 := eq_true p339
                    replace q339 := eq_true q339
                    have p340 : 0 ≤ (0 : Int) := (by omega)
                    have q340 : 0 < (t335.length : Int) := of_decide_eq_true (by first | (with_reducible assumption) | assumption)
                    obtain ⟨ad340, e340, hx340_0, hx340_1, hx340_2, hx340_3, hx340_4, hx340_5, hx340_6, hx340_7, hx340_8⟩ := at_T25 (Kd.R_reads' HO337.out).2.2 0 p340 q340
                    (try rw [← Nbq89.out] at hx340_8)
                    obtain rfl : ad339 = ad340 := (by injection e340)
                    have qi340 : (0 < t335.length) = True := eq_true (by omega)
                    (try rw [show ((0 : Int)).toNat = 0 from rfl] at hx340_0)
                    (try rw [show 0 * 9 = 0 from rfl] at hx340_0)
                    (try rw [Addr.add_zero'] at hx340_0)
                    (try rw [show ((0 : Int)).toNat = 0 from rfl] at hx340_1)
                    (try rw [show 0 * 9 = 0 from rfl] at hx340_1)
                    (try rw [Addr.add_zero'] at hx340_1)
                    (try rw [show ((0 : Int)).toNat = 0 from rfl] at hx340_2)
                    (try rw [show 0 * 9 = 0 from rfl] at hx340_2)
                    (try rw [Addr.add_zero'] at hx340_2)
                    (try rw [show ((0 : Int)).toNat = 0 from rfl] at hx340_3)
                    (try rw [show 0 * 9 = 0 from rfl] at hx340_3)
                    (try rw [Addr.add_zero'] at hx340_3)
                    (try rw [show ((0 : Int)).toNat = 0 from rfl] at hx340_4)
                    (try rw [show 0 * 9 = 0 from rfl] at hx340_4)
                    (try rw [Addr.add_zero'] at hx340_4)
                    (try rw [show ((0 : Int)).toNat = 0 from rfl] at hx340_5)
                    (try rw [show 0 * 9 = 0 from rfl] at hx340_5)
                    (try rw [Addr.add_zero'] at hx340_5)
                    (try rw [show ((0 : Int)).toNat = 0 from rfl] at hx340_6)
                    (try rw [show 0 * 9 = 0 from rfl] at hx340_6)
                    (try rw [Addr.add_zero'] at hx340_6)
                    (try rw [show ((0 : Int)).toNat = 0 from rfl] at hx340_7)
                    (try rw [show 0 * 9 = 0 from rfl] at hx340_7)
                    (try rw [Addr.add_zero'] at hx340_7)
                    (try rw [show ((0 : Int)).toNat = 0 from rfl] at hx340_8)
                    (try rw [show 0 * 9 = 0 from rfl] at hx340_8)
                    (try rw [Addr.add_zero'] at hx340_8)
                    replace p340 := eq_true p340
                    replace q340 := eq_true q340
                    have p341 : 0 ≤ (19 : Int) := (by omega)
                    have q341 : 19 < (t335.length : Int) := of_decide_eq_true (by first | (with_reducible assumption) | assumption)
                    obtain ⟨ad341, e341, hx341_0, hx341_1, hx341_2, hx341_3, hx341_4, hx341_5, hx341_6, hx341_7, hx341_8⟩ := at_T25 (Kd.R_reads' HO337.out).2.2 19 p341 q341
                    (try rw [← Nbq89.out] at hx341_8)
                    obtain rfl : ad339 = ad341 := (by injection e341)
                    (try simp only [show (19 : Int).toNat = 19 from rfl, Nat.reduceMul, Nat.reduceEqDiff, Go.Addr.add, ↓reduceIte] at hx341_0)
                    (try simp only [show (19 : Int).toNat = 19 from rfl, Nat.reduceMul, Nat.reduceEqDiff, Go.Addr.add, ↓reduceIte] at hx341_1)
                    (try simp only [show (19 : Int).toNat = 19 from rfl, Nat.reduceMul, Nat.reduceEqDiff, Go.Addr.add, ↓reduceIte] at hx341_2)
                    (try simp only [show (19 : Int).toNat = 19 from rfl, Nat.reduceMul, Nat.reduceEqDiff, Go.Addr.add, ↓reduceIte] at hx341_3)
                    (try simp only [show (19 : Int).toNat = 19 from rfl, Nat.reduceMul, Nat.reduceEqDiff, Go.Addr.add, ↓reduceIte] at hx341_4)
                    (try simp only [show (19 : Int).toNat = 19 from rfl, Nat.reduceMul, Nat.reduceEqDiff, Go.Addr.add, ↓reduceIte] at hx341_5)
                    (try simp only [show (19 : Int).toNat = 19 from rfl, Nat.reduceMul, Nat.reduceEqDiff, Go.Addr.add, ↓reduceIte] at hx341_6)
                    (try simp only [show (19 : Int).toNat = 19 from rfl, Nat.reduceMul, Nat.reduceEqDiff, Go.Addr.add, ↓reduceIte] at hx341_7)
                    (try simp only [show (19 : Int).toNat = 19 from rfl, Nat.reduceMul, Nat.reduceEqDiff, Go.Addr.add, ↓reduceIte] at hx341_8)
                    have qi341 : (19 < t335.length) = True := eq_true (by omega)
                    (try rw [show ((19 : Int)).toNat = 19 from rfl] at hx341_0)
                    (try rw [show 19 * 9 = 171 from rfl] at hx341_0)
                    (try rw [show ((19 : Int)).toNat = 19 from rfl] at hx341_1)
                    (try rw [show 19 * 9 = 171 from rfl] at hx341_1)
                    (try rw [show ((19 : Int)).toNat = 19 from rfl] at hx341_2)
                    (try rw [show 19 * 9 = 171 from rfl] at hx341_2)
                    (try rw [show ((19 : Int)).toNat = 19 from rfl] at hx341_3)
                    (try rw [show 19 * 9 = 171 from rfl] at hx341_3)
                    (try rw [show ((19 : Int)).toNat = 19 from rfl] at hx341_4)
                    (try rw [show 19 * 9 = 171 from rfl] at hx341_4)
                    (try rw [show ((19 : Int)).toNat = 19 from rfl] at hx341_5)
                    (try rw [show 19 * 9 = 171 from rfl] at hx341_5)
                    (try rw [show ((19 : Int)).toNat = 19 from rfl] at hx341_6)
                    (try rw [show 19 * 9 = 171 from rfl] at hx341_6)
                    (try rw [show ((19 : Int)).toNat = 19 from rfl] at hx341_7)
                    (try rw [show 19 * 9 = 171 from rfl] at hx341_7)
                    (try rw [show ((19 : Int)).toNat = 19 from rfl] at hx341_8)
                    (try rw [show 19 * 9 = 171 from rfl] at hx341_8)
                    replace p341 := eq_true p341
                    replace q341 := eq_true q341
                    have p342 : 0 ≤ (19 : Int) := (by omega)
                    have q342 : 19 < (t335.length : Int) := of_decide_eq_true (by first | (with_reducible assumption) | assumption)
                    obtain ⟨ad342, e342, hx342_0, hx342_1, hx342_2, hx342_3, hx342_4, hx342_5, hx342_6, hx342_7, hx342_8⟩ := at_T25 (Kd.R_reads' HO337.out).2.2 19 p342 q342
                    (try rw [← Nbq89.out] at hx342_8)
                    obtain rfl : ad339 = ad342 := (by injection e342)
                    (try simp only [show (19 : Int).toNat = 19 from rfl, Nat.reduceMul, Nat.reduceEqDiff, Go.Addr.add, ↓reduceIte] at hx342_0)
                    (try simp only [show (19 : Int).toNat = 19 from rfl, Nat.reduceMul, Nat.reduceEqDiff, Go.Addr.add, ↓reduceIte] at hx342_1)
                    (try simp only [show (19 : Int).toNat = 19 from rfl, Nat.reduceMul, Nat.reduceEqDiff, Go.Addr.add, ↓reduceIte] at hx342_2)
                    (try simp only [show (19 : Int).toNat = 19 from rfl, Nat.reduceMul, Nat.reduceEqDiff, Go.Addr.add, ↓reduceIte] at hx342_3)
                    (try simp only [show (19 : Int).toNat = 19 from rfl, Nat.reduceMul, Nat.reduceEqDiff, Go.Addr.add, ↓reduceIte] at hx342_4)
                    (try simp only [show (19 : Int).toNat = 19 from rfl, Nat.reduceMul, Nat.reduceEqDiff, Go.Addr.add, ↓reduceIte] at hx342_5)
                    (try simp only [show (19 : Int).toNat = 19 from rfl, Nat.reduceMul, Nat.reduceEqDiff, Go.Addr.add, ↓reduceIte] at hx342_6)
                    (try simp only [show (19 : Int).toNat = 19 from rfl, Nat.reduceMul, Nat.reduceEqDiff, Go.Addr.add, ↓reduceIte] at hx342_7)
                    (try simp only [show (19 : Int).toNat = 19 from rfl, Nat.reduceMul, Nat.reduceEqDiff, Go.Addr.add, ↓reduceIte] at hx342_8)
                    have qi342 : (19 < t335.length) = True := eq_true (by omega)
                    (try rw [show ((19 : Int)).toNat = 19 from rfl] at hx342_0)
                    (try rw [show 19 * 9 = 171 from rfl] at hx342_0)
                    (try rw [show ((19 : Int)).toNat = 19 from rfl] at hx342_1)
                    (try rw [show 19 * 9 = 171 from rfl] at hx342_1)
                    (try rw [show ((19 : Int)).toNat = 19 from rfl] at hx342_2)
                    (try rw [show 19 * 9 = 171 from rfl] at hx342_2)
                    (try rw [show ((19 : Int)).toNat = 19 from rfl] at hx342_3)
                    (try rw [show 19 * 9 = 171 from rfl] at hx342_3)
                    (try rw [show ((19 : Int)).toNat = 19 from rfl] at hx342_4)
                    (try rw [show 19 * 9 = 171 from rfl] at hx342_4)
                    (try rw [show ((19 : Int)).toNat = 19 from rfl] at hx342_5)
                    (try rw [show 19 * 9 = 171 from rfl] at hx342_5)
                    (try rw [show ((19 : Int)).toNat = 19 from rfl] at hx342_6)
                    (try rw [show 19 * 9 = 171 from rfl] at hx342_6)
                    (try rw [show ((19 : Int)).toNat = 19 from rfl] at hx342_7)
                    (try rw [show 19 * 9 = 171 from rfl] at hx342_7)
                    (try rw [show ((19 : Int)).toNat = 19 from rfl] at hx342_8)
                    (try rw [show 19 * 9 = 171 from rfl] at hx342_8)
                    replace p342 := eq_true p342
                    replace q342 := eq_true q342
                    go_wp2
                    go_ret
                    exact ⟨by first | rfl | (simp [errW_none, errW_some] <;> rfl) | (simp [*, errW_none, errW_some] <;> rfl), by repeat (first | (with_reducible first | exact HB.out | apply below_alloc | apply pw_below_drewN | apply below_drew1 | refine below_set ?_ GE290.out) | exact HB.out)⟩
                   ·
                    rw [if_neg c93] at H
                    have c93b0 : (((rd_T25 t335 19).f1) == 2) = false := beq_eq_false_iff_ne.mpr c93
                    have c93b1 : (((rd_T25 t335 19).f1) != 2) = true := bne_iff_ne.mpr c93
                    obtain rfl := Option.some.inj H
                    obtain ⟨Ao95, co95, eo95⟩ := Kd.R_slice HO337.out
                    subst eo95
                    have p339 : 0 ≤ (0 : Int) := (by omega)
                    have q339 : 0 < (t335.length : Int) := of_decide_eq_true (by first | (with_reducible assumption) | assumption)
                    obtain ⟨ad339, e339, hx339_0, hx339_1, hx339_2, hx339_3, hx339_4, hx339_5, hx339_6, hx339_7, hx339_8⟩ := at_T25 (Kd.R_reads' HO337.out).2.2 0 p339 q339
                    (try rw [← Nbq89.out] at hx339_8)
                    cases e339
                    have qi339 : (0 < t335.length) = True := eq_true (by omega)
                    (try rw [show ((0 : Int)).toNat = 0 from rfl] at hx339_0)
                    (try rw [show 0 * 9 = 0 from rfl] at hx339_0)
                    (try rw [Addr.add_zero'] at hx339_0)
                    (try rw [show ((0 : Int)).toNat = 0 from rfl] at hx339_1)
                    (try rw [show 0 * 9 = 0 from rfl] at hx339_1)
                    (try rw [Addr.add_zero'] at hx339_1)
                    (try rw [show ((0 : Int)).toNat = 0 from rfl] at hx339_2)
                    (try rw [show 0 * 9 = 0 from rfl] at hx339_2)
                    (try rw [Addr.add_zero'] at hx339_2)
                    (try rw [show ((0 : Int)).toNat = 0 from rfl] at hx339_3)
                    (try rw [show 0 * 9 = 0 from rfl] at hx339_3)
                    (try rw [Addr.add_zero'] at hx339_3)
                    (try rw [show ((0 : Int)).toNat = 0 from rfl] at hx339_4)
                    (try rw [show 0 * 9 = 0 from rfl] at hx339_4)
                    (try rw [Addr.add_zero'] at hx339_4)
                    (try rw [show ((0 : Int)).toNat = 0 from rfl] at hx339_5)
                    (try rw [show 0 * 9 = 0 from rfl] at hx339_5)
                    (try rw [Addr.add_zero'] at hx339_5)
                    (try rw [show ((0 : Int)).toNat = 0 from rfl] at hx339_6)
                    (try rw [show 0 * 9 = 0 from rfl] at hx339_6)
                    (try rw [Addr.add_zero'] at hx339_6)
                    (try rw [show ((0 : Int)).toNat = 0 from rfl] at hx339_7)
                    (try rw [show 0 * 9 = 0 from rfl] at hx339_7)
                    (try rw [Addr.add_zero'] at hx339_7)
                    (try rw [show ((0 : Int)).toNat = 0 from rfl] at hx339_8)
                    (try rw [show 0 * 9 = 0 from rfl] at hx339_8)
                    (try rw [Addr.add_zero'] at hx339_8)
                    replace p339 := eq_true p339
                    replace q339 := eq_true q339
                    have p340 : 0 ≤ (0 : Int) := (by omega)
                    have q340 : 0 < (t335.length : Int) := of_decide_eq_true (by first | (with_reducible assumption) | assumption)
                    obtain ⟨ad340, e340, hx340_0, hx340_1, hx340_2, hx340_3, hx340_4, hx340_5, hx340_6, hx340_7, hx340_8⟩ := at_T25 (Kd.R_reads' HO337.out).2.2 0 p340 q340
                    (try rw [← Nbq89.out] at hx340_8)
                    obtain rfl : ad339 = ad340 := (by injection e340)
                    have qi340 : (0 < t335.length) = True := eq_true (by omega)
                    (try rw [show ((0 : Int)).toNat = 0 from rfl] at hx340_0)
                    (try rw [show 0 * 9 = 0 from rfl] at hx340_0)
                    (try rw [Addr.add_zero'] at hx340_0)
                    (try rw [show ((0 : Int)).toNat = 0 from rfl] at hx340_1)
                    (try rw [show 0 * 9 = 0 from rfl] at hx340_1)
                    (try rw [Addr.add_zero'] at hx340_1)
                    (try rw [show ((0 : Int)).toNat = 0 from rfl] at hx340_2)
                    (try rw [show 0 * 9 = 0 from rfl] at hx340_2)
                    (try rw [Addr.add_zero'] at hx340_2)
                    (try rw [show ((0 : Int)).toNat = 0 from rfl] at hx340_3)
                    (try rw [show 0 * 9 = 0 from rfl] at hx340_3)
                    (try rw [Addr.add_zero'] at hx340_3)
                    (try rw [show ((0 : Int)).toNat = 0 from rfl] at hx340_4)
                    (try rw [show 0 * 9 = 0 from rfl] at hx340_4)
                    (try rw [Addr.add_zero'] at hx340_4)
                    (try rw [show ((0 : Int)).toNat = 0 from rfl] at hx340_5)
                    (try rw [show 0 * 9 = 0 from rfl] at hx340_5)
                    (try rw [Addr.add_zero'] at hx340_5)
                    (try rw [show ((0 : Int)).toNat = 0 from rfl] at hx340_6)
                    (try rw [show 0 * 9 = 0 from rfl] at hx340_6)
                    (try rw [Addr.add_zero'] at hx340_6)
                    (try rw [show ((0 : Int)).toNat = 0 from rfl] at hx340_7)
                    (try rw [show 0 * 9 = 0 from rfl] at hx340_7)
                    (try rw [Addr.add_zero'] at hx340_7)
                    (try rw [show ((0 : Int)).toNat = 0 from rfl] at hx340_8)
                    (try rw [show 0 * 9 = 0 from rfl] at hx340_8)
                    (try rw [Addr.add_zero'] at hx340_8)
                    replace p340 := eq_true p340
                    replace q340 := eq_true q340
                    have p341 : 0 ≤ (19 : Int) := (by omega)
                    have q341 : 19 < (t335.length : Int) := of_decide_eq_true (by first | (with_reducible assumption) | assumption)
                    obtain ⟨ad341, e341, hx341_0, hx341_1, hx341_2, hx341_3, hx341_4, hx341_5, hx341_6, hx341_7, hx341_8⟩ := at_T25 (Kd.R_reads' HO337.out).2.2 19 p341 q341
                    (try rw [← Nbq89.out] at hx341_8)
                    obtain rfl : ad339 = ad341 := (by injection e341)
                    (try simp only [show (19 : Int).toNat = 19 from rfl, Nat.reduceMul, Nat.reduceEqDiff, Go.Addr.add, ↓reduceIte] at hx341_0)
                    (try simp only [show (19 : Int).toNat = 19 from rfl, Nat.reduceMul, Nat.reduceEqDiff, Go.Addr.add, ↓reduceIte] at hx341_1)
                    (try simp only [show (19 : Int).toNat = 19 from rfl, Nat.reduceMul, Nat.reduceEqDiff, Go.Addr.add, ↓reduceIte] at hx341_2)
                    (try simp only [show (19 : Int).toNat = 19 from rfl, Nat.reduceMul, Nat.reduceEqDiff, Go.Addr.add, ↓reduceIte] at hx341_3)
                    (try simp only [show (19 : Int).toNat = 19 from rfl, Nat.reduceMul, Nat.reduceEqDiff, Go.Addr.add, ↓reduceIte] at hx341_4)
                    (try simp only [show (19 : Int).toNat = 19 from rfl, Nat.reduceMul, Nat.reduceEqDiff, Go.Addr.add, ↓reduceIte] at hx341_5)
                    (try simp only [show (19 : Int).toNat = 19 from rfl, Nat.reduceMul, Nat.reduceEqDiff, Go.Addr.add, ↓reduceIte] at hx341_6)
                    (try simp only [show (19 : Int).toNat = 19 from rfl, Nat.reduceMul, Nat.reduceEqDiff, Go.Addr.add, ↓reduceIte] at hx341_7)
                    (try simp only [show (19 : Int).toNat = 19 from rfl, Nat.reduceMul, Nat.reduceEqDiff, Go.Addr.add, ↓reduceIte] at hx341_8)
                    have qi341 : (19 < t335.length) = True := eq_true (by omega)
                    (try rw [show ((19 : Int)).toNat = 19 from rfl] at hx341_0)
                    (try rw [show 19 * 9 = 171 from rfl] at hx341_0)
                    (try rw [show ((19 : Int)).toNat = 19 from rfl] at hx341_1)
                    (try rw [show 19 * 9 = 171 from rfl] at hx341_1)
                    (try rw [show ((19 : Int)).toNat = 19 from rfl] at hx341_2)
                    (try rw [show 19 * 9 = 171 from rfl] at hx341_2)
                    (try rw [show ((19 : Int)).toNat = 19 from rfl] at hx341_3)
                    (try rw [show 19 * 9 = 171 from rfl] at hx341_3)
                    (try rw [show ((19 : Int)).toNat = 19 from rfl] at hx341_4)
                    (try rw [show 19 * 9 = 171 from rfl] at hx341_4)
                    (try rw [show ((19 : Int)).toNat = 19 from rfl] at hx341_5)
                    (try rw [show 19 * 9 = 171 from rfl] at hx341_5)
                    (try rw [show ((19 : Int)).toNat = 19 from rfl] at hx341_6)
                    (try rw [show 19 * 9 = 171 from rfl] at hx341_6)
                    (try rw [show ((19 : Int)).toNat = 19 from rfl] at hx341_7)
                    (try rw [show 19 * 9 = 171 from rfl] at hx341_7)
                    (try rw [show ((19 : Int)).toNat = 19 from rfl] at hx341_8)
                    (try rw [show 19 * 9 = 171 from rfl] at hx341_8)
                    replace p341 := eq_true p341
                    replace q341 := eq_true q341
                    go_wp2
                    go_ret
                    exact ⟨by first | rfl | (simp [errW_none, errW_some] <;> rfl) | (simp [*, errW_none, errW_some] <;> rfl), by repeat (first | (with_reducible first | exact HB.out | apply below_alloc | apply pw_below_drewN | apply below_drew1 | refine below_set ?_ GE290.out) | exact HB.out)⟩
                  ·
                   rw [if_neg c92] at H
                   exact absurd H (by simp)
                ·
                 rw [if_neg c88] at H
                 have c88b0 : (((rd_T25 t335 0).f1) == 3) = false := beq_eq_false_iff_ne.mpr c88
                 have c88b1 : (((rd_T25 t335 0).f1) != 3) = true := bne_iff_ne.mpr c88
                 obtain rfl := Option.some.inj H
                 obtain ⟨Ao96, co96, eo96⟩ := Kd.R_slice HO337.out
                 subst eo96
                 have p339 : 0 ≤ (0 : Int) := (by omega)
                 have q339 : 0 < (t335.length : Int) := of_decide_eq_true (by first | (with_reducible assumption) | assumption)
                 obtain ⟨ad339, e339, hx339_0, hx339_1, hx339_2, hx339_3, hx339_4, hx339_5, hx339_6, hx339_7, hx339_8⟩ := at_T25 (Kd.R_reads' HO337.out).2.2 0 p339 q339
                 cases e339
                 have qi339 : (0 < t335.length) = True := eq_true (by omega)
                 (try rw [show ((0 : Int)).toNat = 0 from rfl] at hx339_0)
                 (try rw [show 0 * 9 = 0 from rfl] at hx339_0)
                 (try rw [Addr.add_zero'] at hx339_0)
                 (try rw [show ((0 : Int)).toNat = 0 from rfl] at hx339_1)
                 (try rw [show 0 * 9 = 0 from rfl] at hx339_1)
                 (try rw [Addr.add_zero'] at hx339_1)
                 (try rw [show ((0 : Int)).toNat = 0 from rfl] at hx339_2)
                 (try rw [show 0 * 9 = 0 from rfl] at hx339_2)
                 (try rw [Addr.add_zero'] at hx339_2)
                 (try rw [show ((0 : Int)).toNat = 0 from rfl] at hx339_3)
                 (try rw [show 0 * 9 = 0 from rfl] at hx339_3)
                 (try rw [Addr.add_zero'] at hx339_3)
                 (try rw [show ((0 : Int)).toNat = 0 from rfl] at hx339_4)
                 (try rw [show 0 * 9 = 0 from rfl] at hx339_4)
                 (try rw [Addr.add_zero'] at hx339_4)
                 (try rw [show ((0 : Int)).toNat = 0 from rfl] at hx339_5)
                 (try rw [show 0 * 9 = 0 from rfl] at hx339_5)
                 (try rw [Addr.add_zero'] at hx339_5)
                 (try rw [show ((0 : Int)).toNat = 0 from rfl] at hx339_6)
                 (try rw [show 0 * 9 = 0 from rfl] at hx339_6)
                 (try rw [Addr.add_zero'] at hx339_6)
                 (try rw [show ((0 : Int)).toNat = 0 from rfl] at hx339_7)
                 (try rw [show 0 * 9 = 0 from rfl] at hx339_7)
                 (try rw [Addr.add_zero'] at hx339_7)
                 (try rw [show ((0 : Int)).toNat = 0 from rfl] at hx339_8)
                 (try rw [show 0 * 9 = 0 from rfl] at hx339_8)
                 (try rw [Addr.add_zero'] at hx339_8)
                 replace p339 := eq_true p339
                 replace q339 := eq_true q339
                 go_wp2
                 go_ret
                 exact ⟨by first | rfl | (simp [errW_none, errW_some] <;> rfl) | (simp [*, errW_none, errW_some] <;> rfl), by repeat (first | (with_reducible first | exact HB.out | apply below_alloc | apply pw_below_drewN | apply below_drew1 | refine below_set ?_ GE290.out) | exact HB.out)⟩
               ·
                rw [if_neg c87] at H
                exact absurd H (by simp)
              ·
               replace c86 := Bool.eq_false_iff.mpr c86
               subst c86
               have H1 : (some false) = some r := by rw [if_neg (show ¬ (false = true) by decide)] at H; exact H
               clear H
               have H := H1
               clear H1
               obtain rfl := Option.some.inj H
               go_wp2
               go_ret
               exact ⟨by first | rfl | (simp [errW_none, errW_some] <;> rfl) | (simp [*, errW_none, errW_some] <;> rfl), by repeat (first | (with_reducible first | exact HB.out | apply below_alloc | apply pw_below_drewN | apply below_drew1 | refine below_set ?_ GE290.out) | exact HB.out)⟩
             ·
              rw [if_neg c76] at H
              exact absurd H (by simp)
     ·
      rw [if_neg c22] at H
      exact absurd H (by simp)

/-- THE ONE PURE STATEMENT of laws_FnTurned: yours. -/
def laws_FnTurned.Pure : Prop := ∀ (l0 : List Int), l0.length ≤ maxLen → l0.length * 1 ≤ 140737488351232 → (∀ x ∈ l0, (Lit.int .u8 x).wf = true) → ∃ k, laws_FnTurned.f k l0 = some true
theorem laws_FnTurned.walk (P : laws_FnTurned.Pure) (a0 : Option Addr) (len0 cap0 : Nat) (z0 : List Int) (w : World) (w0 : (a0 = none ∧ len0 = 0 ∧ cap0 = 0 ∧ z0 = []) ∨ ∃ x, a0 = some x ∧ len0 ≤ cap0 ∧ cap0 ≤ maxLen ∧ z0.length = cap0 ∧ (∀ i, i < z0.length → w.cell? (x.add i) = some (.int .u8 (z0.getD i 0))) ∧ ∀ n ∈ z0, (Lit.int .u8 n).wf = true) (y0 : len0 * 1 ≤ 140737488351232) :
  Calls Try.prog 6 #[.slice a0 len0 cap0] w fun e w' => e = .returned (.bool true) ∧ Below w.heap.size w w' := by
 obtain ⟨l0, rfl, hr0, hm0, hw0, hc0⟩ := ReadsInt.ofRowC w0
 obtain ⟨k, h⟩ := P l0 hm0 y0 hw0
 refine (laws_FnTurned.calls k _ _ l0 true w (Kd.C_of_reads (d := (0 : Int)) (h1 := fun _ => rfl) hr0) hc0 h).mono ?_
 rintro e w' ⟨rfl, hd⟩
 exact ⟨rfl, hd⟩

end Go.Proofs.Ytdodiflcmjbfdaa.PFnTurned
