/- Walks of the functions named below, by a program of the session over the kit's printer. -/
import Derived.Test.YtdodiflcmjbfdaaPFnCapturedx0
import Derived.Test.YtdodiflcmjbfdaaPFnCapturedx1
import Derived.Test.YtdodiflcmjbfdaaPFnCapturedx2
import Derived.Test.YtdodiflcmjbfdaaPFnCapturedx4
import Derived.Test.YtdodiflcmjbfdaaPFnCapturedx8
import Derived.Test.YtdodiflcmjbfdaaPFnCapturedx9
namespace Go.Proofs.Ytdodiflcmjbfdaa.PFnCaptured
open Go.RowKit Go.Proofs.YtdodiflcmjbfdaaW.PrintWords Go.Proofs.YtdodiflcmjbfdaaW.PrintLast Go.Proofs.YtdodiflcmjbfdaaW.PrintMore
attribute [local go_sem] max2_int min2_int max_two min_two max_three min_three max_four min_four   -- for this text's walks alone
set_option linter.unusedVariables false
set_option linter.unusedSimpArgs false
abbrev t10 : Bool := true
abbrev f10 : Bool := false

attribute [local go_sem high] eqA25
/-! ### laws_FnCaptured: function 4 -/
mutual
def laws_FnCaptured.j0 : Nat → Int → Int → Int → Int → Int → Int → Int → Int → Int → Int → Bool → Option (Bool)
 | 0, _, _, _, _, _, _, _, _, _, _, _ => none
 | k + 1, x4, x5, x290000, x290001, x290002, x290003, x290004, x290005, x290006, x290007, x290008 => (impl_Press.f k x290000 x290001 x290002 x290003 x290004 x290005 x290006 x290007 x290008 3 (wrap64 (1000 + x4))).bind fun bt293 => ((impl_Press.f k 0 bt293.2.1 bt293.2.2.1 bt293.2.2.2.1 bt293.2.2.2.2.1 bt293.2.2.2.2.2.1 bt293.2.2.2.2.2.2.1 bt293.2.2.2.2.2.2.2.1 bt293.2.2.2.2.2.2.2.2.1 7 x5).bind fun bt303 => ((impl_Press.f k bt303.1 bt303.2.1 bt303.2.2.1 bt303.2.2.2.1 bt303.2.2.2.2.1 bt303.2.2.2.2.2.1 bt303.2.2.2.2.2.2.1 bt303.2.2.2.2.2.2.2.1 bt303.2.2.2.2.2.2.2.2.1 2 0).bind fun bt313 => (if bt293.2.2.2.2.2.2.2.2.2 = true then (if bt303.2.2.2.2.2.2.2.2.2 = true then (if bt313.2.2.2.2.2.2.2.2.2 = true then (if bt313.1 = 2 then ((impl_PilotOk.f k bt313.1 bt313.2.1 bt313.2.2.1 bt313.2.2.2.1 bt313.2.2.2.2.1 bt313.2.2.2.2.2.1 bt313.2.2.2.2.2.2.1 bt313.2.2.2.2.2.2.2.1 bt313.2.2.2.2.2.2.2.2.1).bind fun t323 => (laws_FnCaptured.j1 k x4 (!t323) bt313.1 bt313.2.1 bt313.2.2.1 bt313.2.2.2.1 bt313.2.2.2.2.1 bt313.2.2.2.2.2.1 bt313.2.2.2.2.2.2.1 bt313.2.2.2.2.2.2.2.1 bt313.2.2.2.2.2.2.2.2.1)) else (laws_FnCaptured.j1 k x4 true bt313.1 bt313.2.1 bt313.2.2.1 bt313.2.2.2.1 bt313.2.2.2.2.1 bt313.2.2.2.2.2.1 bt313.2.2.2.2.2.2.1 bt313.2.2.2.2.2.2.2.1 bt313.2.2.2.2.2.2.2.2.1)) else (laws_FnCaptured.j1 k x4 true bt313.1 bt313.2.1 bt313.2.2.1 bt313.2.2.2.1 bt313.2.2.2.2.1 bt313.2.2.2.2.2.1 bt313.2.2.2.2.2.2.1 bt313.2.2.2.2.2.2.2.1 bt313.2.2.2.2.2.2.2.2.1)) else (laws_FnCaptured.j1 k x4 true bt313.1 bt313.2.1 bt313.2.2.1 bt313.2.2.2.1 bt313.2.2.2.2.1 bt313.2.2.2.2.2.1 bt313.2.2.2.2.2.2.1 bt313.2.2.2.2.2.2.2.1 bt313.2.2.2.2.2.2.2.2.1)) else (laws_FnCaptured.j1 k x4 true bt313.1 bt313.2.1 bt313.2.2.1 bt313.2.2.2.1 bt313.2.2.2.2.1 bt313.2.2.2.2.2.1 bt313.2.2.2.2.2.2.1 bt313.2.2.2.2.2.2.2.1 bt313.2.2.2.2.2.2.2.2.1))))
def laws_FnCaptured.j1 : Nat → Int → Bool → Int → Int → Int → Int → Int → Int → Int → Int → Bool → Option (Bool)
 | 0, _, _, _, _, _, _, _, _, _, _, _ => none
 | k + 1, x4, x72, x290000, x290001, x290002, x290003, x290004, x290005, x290006, x290007, x290008 => if x72 = true then (some false) else (if 300 ≤ 35184372088832 then ((impl_Ticks.f k x290000 x290001 x290002 x290003 x290004 x290005 x290006 x290007 x290008 (List.replicate 300 0)).bind fun bt327 => (if bt327.2 = true then (laws_FnCaptured.j2 k x4 bt327.1 ((bt327.1.length : Int) != 300) x290000 x290001 x290002 x290003 x290004 x290005 x290006 x290007 x290008) else (laws_FnCaptured.j2 k x4 bt327.1 true x290000 x290001 x290002 x290003 x290004 x290005 x290006 x290007 x290008))) else (none))
def laws_FnCaptured.j2 : Nat → Int → List (S25) → Bool → Int → Int → Int → Int → Int → Int → Int → Int → Bool → Option (Bool)
 | 0, _, _, _, _, _, _, _, _, _, _, _, _ => none
 | k + 1, x4, x9, x85, x290000, x290001, x290002, x290003, x290004, x290005, x290006, x290007, x290008 => if x85 = true then (some false) else (laws_FnCaptured.l0 k x4 x9 0 x290000 x290001 x290002 x290003 x290004 x290005 x290006 x290007 x290008)
def laws_FnCaptured.l0 : Nat → Int → List (S25) → Int → Int → Int → Int → Int → Int → Int → Int → Int → Bool → Option (Bool)
 | 0, _, _, _, _, _, _, _, _, _, _, _, _ => none
 | k + 1, x4, x9, x11, x290000, x290001, x290002, x290003, x290004, x290005, x290006, x290007, x290008 => if x11 < (x9.length : Int) then (if 0 ≤ x11 then ((laws_sign.f x4).bind fun t352 => (if (wrap64 ((wrap64 (((rd_T25 x9 x11).f2) - 1000)) * t352)) < 0 then (some false) else ((laws_size.f x4).bind fun t353 => (if (wrap64 ((wrap64 (((rd_T25 x9 x11).f2) - 1000)) * t352)) > t353 then (some false) else (laws_FnCaptured.l0 k x4 x9 (wrap64 (x11 + 1)) x290000 x290001 x290002 x290003 x290004 x290005 x290006 x290007 x290008))))) else (none)) else (if 299 < (x9.length : Int) then ((impl_PilotTick.f k ((rd_T25 x9 299).f0) ((rd_T25 x9 299).f1) ((rd_T25 x9 299).f2) ((rd_T25 x9 299).f3) ((rd_T25 x9 299).f4) ((rd_T25 x9 299).f5) ((rd_T25 x9 299).f6) ((rd_T25 x9 299).f7) ((rd_T25 x9 299).f8) 0).bind fun bt333 => (if ((rd_T25 x9 299).f0) = 1 then (if ((rd_T25 x9 299).f2) = (wrap64 (1000 + x4)) then (if ((rd_T25 x9 299).f4) = 0 then ((some (([(⟨x290000, x290001, x290002, x290003, x290004, x290005, x290006, x290007, x290008⟩ : S25)] : List (S25)) : List (S25))).bind fun y344 => (if y344.length + x9.length < 1954687338268 then ((impl_Changes.f k (y344 ++ x9)).bind fun t350 => (if t350 ≤ 2 then (if bt333.2.2.2.2.2.2.2.2.2 = true then (some (bt333.1 == ((rd_T25 x9 299).f0) && (bt333.2.1 == ((rd_T25 x9 299).f1) && (bt333.2.2.1 == ((rd_T25 x9 299).f2) && (bt333.2.2.2.1 == ((rd_T25 x9 299).f3) && (bt333.2.2.2.2.1 == ((rd_T25 x9 299).f4) && (bt333.2.2.2.2.2.1 == ((rd_T25 x9 299).f5) && (bt333.2.2.2.2.2.2.1 == ((rd_T25 x9 299).f6) && (bt333.2.2.2.2.2.2.2.1 == ((rd_T25 x9 299).f7) && (bt333.2.2.2.2.2.2.2.2.1 == ((rd_T25 x9 299).f8))))))))))) else (some false)) else (some false))) else (none))) else (some false)) else (some false)) else (some false))) else (none))
end
def laws_FnCaptured.f (k : Nat) (l0 : List Int) : Option (Bool) := (laws_big.f l0).bind fun t288 => (if t288 = true then (some true) else ((laws_at.f l0 0).bind fun t290 => ((laws_at.f l0 1).bind fun t291 => ((laws_at.f l0 2).bind fun t292 => (if (Int.tmod t292 2) = 0 then (laws_FnCaptured.j0 k (wrap64 (-(wrap64 (1 + t290)))) (wrap64 (-(wrap64 (1 + (Int.tmod t291 20))))) 1 0 1000 1000 0 0 0 0 false) else (laws_FnCaptured.j0 k (wrap64 (1 + t290)) (wrap64 (1 + (Int.tmod t291 20))) 1 0 1000 1000 0 0 0 0 false))))))
theorem laws_FnCaptured.mono_l : ∀ k, (∀ y0 y1 y2 y3 y4 y5 y6 y7 y8 y9 y10, LeO (laws_FnCaptured.j0 k y0 y1 y2 y3 y4 y5 y6 y7 y8 y9 y10) (laws_FnCaptured.j0 (k + 1) y0 y1 y2 y3 y4 y5 y6 y7 y8 y9 y10)) ∧ (∀ y0 y1 y2 y3 y4 y5 y6 y7 y8 y9 y10, LeO (laws_FnCaptured.j1 k y0 y1 y2 y3 y4 y5 y6 y7 y8 y9 y10) (laws_FnCaptured.j1 (k + 1) y0 y1 y2 y3 y4 y5 y6 y7 y8 y9 y10)) ∧ (∀ y0 y1 y2 y3 y4 y5 y6 y7 y8 y9 y10 y11, LeO (laws_FnCaptured.j2 k y0 y1 y2 y3 y4 y5 y6 y7 y8 y9 y10 y11) (laws_FnCaptured.j2 (k + 1) y0 y1 y2 y3 y4 y5 y6 y7 y8 y9 y10 y11)) ∧ (∀ y0 y1 y2 y3 y4 y5 y6 y7 y8 y9 y10 y11, LeO (laws_FnCaptured.l0 k y0 y1 y2 y3 y4 y5 y6 y7 y8 y9 y10 y11) (laws_FnCaptured.l0 (k + 1) y0 y1 y2 y3 y4 y5 y6 y7 y8 y9 y10 y11))
 | 0 => ⟨fun _ _ _ _ _ _ _ _ _ _ _ r h => by simp [laws_FnCaptured.j0] at h, fun _ _ _ _ _ _ _ _ _ _ _ r h => by simp [laws_FnCaptured.j1] at h, fun _ _ _ _ _ _ _ _ _ _ _ _ r h => by simp [laws_FnCaptured.j2] at h, fun _ _ _ _ _ _ _ _ _ _ _ _ r h => by simp [laws_FnCaptured.l0] at h⟩
 | k + 1 => by
  obtain ⟨ih0, ih1, ih2, ih3⟩ := laws_FnCaptured.mono_l k
  refine ⟨?_, ?_, ?_, ?_⟩
  ·
   intro y0 y1 y2 y3 y4 y5 y6 y7 y8 y9 y10
   unfold laws_FnCaptured.j0
   repeat' first
   | (with_reducible exact ih0 _ _ _ _ _ _ _ _ _ _ _)
   | (with_reducible exact ih1 _ _ _ _ _ _ _ _ _ _ _)
   | (with_reducible exact ih2 _ _ _ _ _ _ _ _ _ _ _ _)
   | (with_reducible exact ih3 _ _ _ _ _ _ _ _ _ _ _ _)
   | (with_reducible exact impl_Changes.mono _ _)
   | (with_reducible exact impl_PilotOk.mono _ _ _ _ _ _ _ _ _ _)
   | (with_reducible exact impl_PilotTick.mono _ _ _ _ _ _ _ _ _ _ _)
   | (with_reducible exact impl_Press.mono _ _ _ _ _ _ _ _ _ _ _ _)
   | (with_reducible exact impl_Ticks.mono _ _ _ _ _ _ _ _ _ _ _)
   | (with_reducible exact LeO.refl _)
   | (with_reducible exact LeO.none _)
   | (with_reducible refine LeO.ite ?_ ?_)
   | (with_reducible refine LeO.bind ?_ (fun _ => ?_))
   | exact ih0 _ _ _ _ _ _ _ _ _ _ _
   | exact ih1 _ _ _ _ _ _ _ _ _ _ _
   | exact ih2 _ _ _ _ _ _ _ _ _ _ _ _
   | exact ih3 _ _ _ _ _ _ _ _ _ _ _ _
   | exact impl_Changes.mono _ _
   | exact impl_PilotOk.mono _ _ _ _ _ _ _ _ _ _
   | exact impl_PilotTick.mono _ _ _ _ _ _ _ _ _ _ _
   | exact impl_Press.mono _ _ _ _ _ _ _ _ _ _ _ _
   | exact impl_Ticks.mono _ _ _ _ _ _ _ _ _ _ _
   | exact LeO.none _
   | refine LeO.ite ?_ ?_
   | refine LeO.bind ?_ (fun _ => ?_)
  ·
   intro y0 y1 y2 y3 y4 y5 y6 y7 y8 y9 y10
   unfold laws_FnCaptured.j1
   repeat' first
   | (with_reducible exact ih0 _ _ _ _ _ _ _ _ _ _ _)
   | (with_reducible exact ih1 _ _ _ _ _ _ _ _ _ _ _)
   | (with_reducible exact ih2 _ _ _ _ _ _ _ _ _ _ _ _)
   | (with_reducible exact ih3 _ _ _ _ _ _ _ _ _ _ _ _)
   | (with_reducible exact impl_Changes.mono _ _)
   | (with_reducible exact impl_PilotOk.mono _ _ _ _ _ _ _ _ _ _)
   | (with_reducible exact impl_PilotTick.mono _ _ _ _ _ _ _ _ _ _ _)
   | (with_reducible exact impl_Press.mono _ _ _ _ _ _ _ _ _ _ _ _)
   | (with_reducible exact impl_Ticks.mono _ _ _ _ _ _ _ _ _ _ _)
   | (with_reducible exact LeO.refl _)
   | (with_reducible exact LeO.none _)
   | (with_reducible refine LeO.ite ?_ ?_)
   | (with_reducible refine LeO.bind ?_ (fun _ => ?_))
   | exact ih0 _ _ _ _ _ _ _ _ _ _ _
   | exact ih1 _ _ _ _ _ _ _ _ _ _ _
   | exact ih2 _ _ _ _ _ _ _ _ _ _ _ _
   | exact ih3 _ _ _ _ _ _ _ _ _ _ _ _
   | exact impl_Changes.mono _ _
   | exact impl_PilotOk.mono _ _ _ _ _ _ _ _ _ _
   | exact impl_PilotTick.mono _ _ _ _ _ _ _ _ _ _ _
   | exact impl_Press.mono _ _ _ _ _ _ _ _ _ _ _ _
   | exact impl_Ticks.mono _ _ _ _ _ _ _ _ _ _ _
   | exact LeO.none _
   | refine LeO.ite ?_ ?_
   | refine LeO.bind ?_ (fun _ => ?_)
  ·
   intro y0 y1 y2 y3 y4 y5 y6 y7 y8 y9 y10 y11
   unfold laws_FnCaptured.j2
   repeat' first
   | (with_reducible exact ih0 _ _ _ _ _ _ _ _ _ _ _)
   | (with_reducible exact ih1 _ _ _ _ _ _ _ _ _ _ _)
   | (with_reducible exact ih2 _ _ _ _ _ _ _ _ _ _ _ _)
   | (with_reducible exact ih3 _ _ _ _ _ _ _ _ _ _ _ _)
   | (with_reducible exact impl_Changes.mono _ _)
   | (with_reducible exact impl_PilotOk.mono _ _ _ _ _ _ _ _ _ _)
   | (with_reducible exact impl_PilotTick.mono _ _ _ _ _ _ _ _ _ _ _)
   | (with_reducible exact impl_Press.mono _ _ _ _ _ _ _ _ _ _ _ _)
   | (with_reducible exact impl_Ticks.mono _ _ _ _ _ _ _ _ _ _ _)
   | (with_reducible exact LeO.refl _)
   | (with_reducible exact LeO.none _)
   | (with_reducible refine LeO.ite ?_ ?_)
   | (with_reducible refine LeO.bind ?_ (fun _ => ?_))
   | exact ih0 _ _ _ _ _ _ _ _ _ _ _
   | exact ih1 _ _ _ _ _ _ _ _ _ _ _
   | exact ih2 _ _ _ _ _ _ _ _ _ _ _ _
   | exact ih3 _ _ _ _ _ _ _ _ _ _ _ _
   | exact impl_Changes.mono _ _
   | exact impl_PilotOk.mono _ _ _ _ _ _ _ _ _ _
   | exact impl_PilotTick.mono _ _ _ _ _ _ _ _ _ _ _
   | exact impl_Press.mono _ _ _ _ _ _ _ _ _ _ _ _
   | exact impl_Ticks.mono _ _ _ _ _ _ _ _ _ _ _
   | exact LeO.none _
   | refine LeO.ite ?_ ?_
   | refine LeO.bind ?_ (fun _ => ?_)
  ·
   intro y0 y1 y2 y3 y4 y5 y6 y7 y8 y9 y10 y11
   unfold laws_FnCaptured.l0
   repeat' first
   | (with_reducible exact ih0 _ _ _ _ _ _ _ _ _ _ _)
   | (with_reducible exact ih1 _ _ _ _ _ _ _ _ _ _ _)
   | (with_reducible exact ih2 _ _ _ _ _ _ _ _ _ _ _ _)
   | (with_reducible exact ih3 _ _ _ _ _ _ _ _ _ _ _ _)
   | (with_reducible exact impl_Changes.mono _ _)
   | (with_reducible exact impl_PilotOk.mono _ _ _ _ _ _ _ _ _ _)
   | (with_reducible exact impl_PilotTick.mono _ _ _ _ _ _ _ _ _ _ _)
   | (with_reducible exact impl_Press.mono _ _ _ _ _ _ _ _ _ _ _ _)
   | (with_reducible exact impl_Ticks.mono _ _ _ _ _ _ _ _ _ _ _)
   | (with_reducible exact LeO.refl _)
   | (with_reducible exact LeO.none _)
   | (with_reducible refine LeO.ite ?_ ?_)
   | (with_reducible refine LeO.bind ?_ (fun _ => ?_))
   | exact ih0 _ _ _ _ _ _ _ _ _ _ _
   | exact ih1 _ _ _ _ _ _ _ _ _ _ _
   | exact ih2 _ _ _ _ _ _ _ _ _ _ _ _
   | exact ih3 _ _ _ _ _ _ _ _ _ _ _ _
   | exact impl_Changes.mono _ _
   | exact impl_PilotOk.mono _ _ _ _ _ _ _ _ _ _
   | exact impl_PilotTick.mono _ _ _ _ _ _ _ _ _ _ _
   | exact impl_Press.mono _ _ _ _ _ _ _ _ _ _ _ _
   | exact impl_Ticks.mono _ _ _ _ _ _ _ _ _ _ _
   | exact LeO.none _
   | refine LeO.ite ?_ ?_
   | refine LeO.bind ?_ (fun _ => ?_)
theorem laws_FnCaptured.mono : ∀ a0 k, LeO (laws_FnCaptured.f k a0) (laws_FnCaptured.f (k + 1) a0) := by
 intro a0 k
 obtain ⟨ih0, ih1, ih2, ih3⟩ := laws_FnCaptured.mono_l k
 unfold laws_FnCaptured.f
 repeat' first
   | (with_reducible exact ih0 _ _ _ _ _ _ _ _ _ _ _)
   | (with_reducible exact ih1 _ _ _ _ _ _ _ _ _ _ _)
   | (with_reducible exact ih2 _ _ _ _ _ _ _ _ _ _ _ _)
   | (with_reducible exact ih3 _ _ _ _ _ _ _ _ _ _ _ _)
   | (with_reducible exact impl_Changes.mono _ _)
   | (with_reducible exact impl_PilotOk.mono _ _ _ _ _ _ _ _ _ _)
   | (with_reducible exact impl_PilotTick.mono _ _ _ _ _ _ _ _ _ _ _)
   | (with_reducible exact impl_Press.mono _ _ _ _ _ _ _ _ _ _ _ _)
   | (with_reducible exact impl_Ticks.mono _ _ _ _ _ _ _ _ _ _ _)
   | (with_reducible exact LeO.refl _)
   | (with_reducible exact LeO.none _)
   | (with_reducible refine LeO.ite ?_ ?_)
   | (with_reducible refine LeO.bind ?_ (fun _ => ?_))
   | exact ih0 _ _ _ _ _ _ _ _ _ _ _
   | exact ih1 _ _ _ _ _ _ _ _ _ _ _
   | exact ih2 _ _ _ _ _ _ _ _ _ _ _ _
   | exact ih3 _ _ _ _ _ _ _ _ _ _ _ _
   | exact impl_Changes.mono _ _
   | exact impl_PilotOk.mono _ _ _ _ _ _ _ _ _ _
   | exact impl_PilotTick.mono _ _ _ _ _ _ _ _ _ _ _
   | exact impl_Press.mono _ _ _ _ _ _ _ _ _ _ _ _
   | exact impl_Ticks.mono _ _ _ _ _ _ _ _ _ _ _
   | exact LeO.none _
   | refine LeO.ite ?_ ?_
   | refine LeO.bind ?_ (fun _ => ?_)
def laws_FnCaptured.T15 : Bool × List (List Nat × List Nat) := (true, [([], []), ([], []), ([0, 1], [0, 1]), ([2], [2]), ([3], [3]), ([3], [3]), ([4, 2, 0, 1, 2, 3, 4], [4]), ([5, 6, 0, 1, 2, 3, 4, 5, 6], [5])])
def laws_FnCaptured.B15 : List Nat := [0, 0, 3, 7, 15, 15, 31, 127]
theorem laws_FnCaptured.tab15 : rtab .any (opsOf Try.f4 15) = laws_FnCaptured.T15 := by kernel_rfl
theorem laws_FnCaptured.bits15 : waitsOk laws_FnCaptured.T15.2 laws_FnCaptured.B15 = true := by kernel_rfl
def laws_FnCaptured.T21 : Bool × List (List Nat × List Nat) := (true, [([], []), ([], []), ([0, 1], [0, 1]), ([2], [2]), ([3], [3]), ([4], [4]), ([], []), ([6], [6]), ([5, 7], [5, 7]), ([8, 7, 0, 1, 2, 3, 4, 5, 6, 7, 8], [8])])
def laws_FnCaptured.B21 : List Nat := [0, 0, 3, 7, 15, 31, 0, 64, 255, 511]
theorem laws_FnCaptured.tab21 : rtab .any (opsOf Try.f4 21) = laws_FnCaptured.T21 := by kernel_rfl
theorem laws_FnCaptured.bits21 : waitsOk laws_FnCaptured.T21.2 laws_FnCaptured.B21 = true := by kernel_rfl
set_option maxHeartbeats 8000000 in
set_option maxRecDepth 100000 in
theorem laws_FnCaptured.calls (k : Nat) (A0 : Option Addr) (c0 : Nat) (l0 : List Int) (r : Bool) (w : World) (hr0 : Kd.C (Kd.int .u8) w A0 l0.length l0) (hc0 : l0.length ≤ c0) (h : laws_FnCaptured.f k l0 = some r) :
  Calls Try.prog 4 #[.slice A0 l0.length c0] w fun e w' => e = .returned (.bool r) ∧ Below w.heap.size w w' := by
 have hu25 := Try.underlying25
 have HR0 := Aside0.mk hr0
 have HC0 := Aside0.mk hc0
 clear hr0 hc0
 have HB := Aside0.mk (Below.refl w.heap.size w)
 have H : ((laws_big.f l0).bind fun t288 => (if t288 = true then (some true) else ((laws_at.f l0 0).bind fun t290 => ((laws_at.f l0 1).bind fun t291 => ((laws_at.f l0 2).bind fun t292 => (if (Int.tmod t292 2) = 0 then (laws_FnCaptured.j0 k (wrap64 (-(wrap64 (1 + t290)))) (wrap64 (-(wrap64 (1 + (Int.tmod t291 20))))) 1 0 1000 1000 0 0 0 0 false) else (laws_FnCaptured.j0 k (wrap64 (1 + t290)) (wrap64 (1 + (Int.tmod t291 20))) 1 0 1000 1000 0 0 0 0 false))))))) = some r := h
 clear h
 replace H := Option.bind_eq_some_iff.mp H
 obtain ⟨t288, A20, H⟩ := H
 replace H : (if t288 = true then (some true) else ((laws_at.f l0 0).bind fun t290 => ((laws_at.f l0 1).bind fun t291 => ((laws_at.f l0 2).bind fun t292 => (if (Int.tmod t292 2) = 0 then (laws_FnCaptured.j0 k (wrap64 (-(wrap64 (1 + t290)))) (wrap64 (-(wrap64 (1 + (Int.tmod t291 20))))) 1 0 1000 1000 0 0 0 0 false) else (laws_FnCaptured.j0 k (wrap64 (1 + t290)) (wrap64 (1 + (Int.tmod t291 20))) 1 0 1000 1000 0 0 0 0 false)))))) = some r := H
 have A2 := Aside0.mk A20
 clear A20
 by_cases c3 : t288 = true
 ·
  subst c3
  have H1 : (some true) = some r := by rw [if_pos rfl] at H; exact H
  clear H
  have H := H1
  clear H1
  obtain rfl := Option.some.inj H
  go_enter Try.func4, Try.ntmps4
  go_wp2_with (first | ((with_reducible refine gate_callee (f := 12) rfl ?_); refine goesL_ (some 17) rfl rfl Try.func12 (by kernel_rfl) rfl #[.slice A0 l0.length c0] rfl (by (try simp only [List.map_toArray, List.map_cons, List.map_nil]); first | done | rfl | (simp only [List.length_drop, List.length_take]; rfl)) ?_; (with_reducible refine (laws_big.calls _ _ l0 true _ ?side1 ?side2 A2.out).mono ?_); (case side1 => repeat (first | exact HR0.out | (with_reducible refine Kd.C_alloc ?_ _) | (with_reducible refine Kd.C_drewN ?_ _) | (with_reducible refine Kd.C_drew ?_))); (case side2 => exact HC0.out); rintro e w' ⟨rfl, ⟨nd, rfl⟩⟩; refine ⟨_, rfl, ?_⟩))
  go_ret
  exact ⟨by first | rfl | (simp [errW_none, errW_some] <;> rfl) | (simp [*, errW_none, errW_some] <;> rfl), by repeat (first | (with_reducible first | exact HB.out | apply below_alloc | apply pw_below_drewN | apply below_drew1) | exact HB.out)⟩
 ·
  replace c3 := Bool.eq_false_iff.mpr c3
  subst c3
  have H1 : ((laws_at.f l0 0).bind fun t290 => ((laws_at.f l0 1).bind fun t291 => ((laws_at.f l0 2).bind fun t292 => (if (Int.tmod t292 2) = 0 then (laws_FnCaptured.j0 k (wrap64 (-(wrap64 (1 + t290)))) (wrap64 (-(wrap64 (1 + (Int.tmod t291 20))))) 1 0 1000 1000 0 0 0 0 false) else (laws_FnCaptured.j0 k (wrap64 (1 + t290)) (wrap64 (1 + (Int.tmod t291 20))) 1 0 1000 1000 0 0 0 0 false))))) = some r := by rw [if_neg (show ¬ (false = true) by decide)] at H; exact H
  clear H
  have H := H1
  clear H1
  replace H := Option.bind_eq_some_iff.mp H
  obtain ⟨t290, A40, H⟩ := H
  replace H : ((laws_at.f l0 1).bind fun t291 => ((laws_at.f l0 2).bind fun t292 => (if (Int.tmod t292 2) = 0 then (laws_FnCaptured.j0 k (wrap64 (-(wrap64 (1 + t290)))) (wrap64 (-(wrap64 (1 + (Int.tmod t291 20))))) 1 0 1000 1000 0 0 0 0 false) else (laws_FnCaptured.j0 k (wrap64 (1 + t290)) (wrap64 (1 + (Int.tmod t291 20))) 1 0 1000 1000 0 0 0 0 false)))) = some r := H
  have A4 := Aside0.mk A40
  clear A40
  replace H := Option.bind_eq_some_iff.mp H
  obtain ⟨t291, A50, H⟩ := H
  replace H : ((laws_at.f l0 2).bind fun t292 => (if (Int.tmod t292 2) = 0 then (laws_FnCaptured.j0 k (wrap64 (-(wrap64 (1 + t290)))) (wrap64 (-(wrap64 (1 + (Int.tmod t291 20))))) 1 0 1000 1000 0 0 0 0 false) else (laws_FnCaptured.j0 k (wrap64 (1 + t290)) (wrap64 (1 + (Int.tmod t291 20))) 1 0 1000 1000 0 0 0 0 false))) = some r := H
  have A5 := Aside0.mk A50
  clear A50
  replace H := Option.bind_eq_some_iff.mp H
  obtain ⟨t292, A60, H⟩ := H
  replace H : (if (Int.tmod t292 2) = 0 then (laws_FnCaptured.j0 k (wrap64 (-(wrap64 (1 + t290)))) (wrap64 (-(wrap64 (1 + (Int.tmod t291 20))))) 1 0 1000 1000 0 0 0 0 false) else (laws_FnCaptured.j0 k (wrap64 (1 + t290)) (wrap64 (1 + (Int.tmod t291 20))) 1 0 1000 1000 0 0 0 0 false)) = some r := H
  have A6 := Aside0.mk A60
  clear A60
  have HC7 := Aside0.mk H
  clear H
  go_enter Try.func4, Try.ntmps4
  go_upto_if 29 with (first | ((with_reducible refine gate_callee (f := 12) rfl ?_); refine goesL_ (some 17) rfl rfl Try.func12 (by kernel_rfl) rfl #[.slice A0 l0.length c0] rfl (by (try simp only [List.map_toArray, List.map_cons, List.map_nil]); first | done | rfl | (simp only [List.length_drop, List.length_take]; rfl)) ?_; (with_reducible refine (laws_big.calls _ _ l0 false _ ?side1 ?side2 A2.out).mono ?_); (case side1 => repeat (first | exact HR0.out | (with_reducible refine Kd.C_alloc ?_ _) | (with_reducible refine Kd.C_drewN ?_ _) | (with_reducible refine Kd.C_drew ?_))); (case side2 => exact HC0.out); rintro e w' ⟨rfl, ⟨nd, rfl⟩⟩; refine ⟨_, rfl, ?_⟩) | ((with_reducible refine gate_dst (N := 3) rfl ?_); (try (refine gate_guard (by rfl) ?_; dsimp only)); refine box_event ?hg (N := 3) ?hd (cs := #[.int .i64 0, .int .i64 0, .int .i64 0, .int .i64 0, .int .i64 0, .int .i64 0, .int .i64 0, .int .i64 0, .bool false]) (t := 25) ?hr ?_; (case hd => rfl); (case hg => rfl); (case hr => first | (go_simp; done) | (go_simp; rfl)); intro gb289 hg w8 hbox hb; have n0_ := Aside0.mk (below_step (by repeat (first | (with_reducible first | exact HB.out | apply below_alloc | apply pw_below_drewN | apply below_drew1) | exact HB.out)) hb); have n1_ := Aside0.mk (hbox); have n2_ := Aside0.mk ((by rw [hg]; exact (below_size (by repeat (first | (with_reducible first | exact HB.out | apply below_alloc | apply pw_below_drewN | apply below_drew1) | exact HB.out))) : w.heap.size ≤ gb289)); have n3_ := Aside0.mk ((by rw [hg]; exact (below_size (by repeat (first | (with_reducible first | exact HB.out | apply below_alloc | apply pw_below_drewN | apply below_drew1) | exact HB.out))) : w.heap.size ≤ gb289)); clear HB; have HB := n0_; have BK289 := n1_; have GW289 := n2_; have GE289 := n3_; clear n0_ n1_ n2_ n3_; clear hb hbox hg; have hcz9_0 : w8.cell? ⟨gb289, 0, none⟩ = some (.int .i64 0) := (blk_cell BK289.out 0).trans rfl; have hcz9_1 : w8.cell? ⟨gb289, 1, none⟩ = some (.int .i64 0) := (blk_cell BK289.out 1).trans rfl; have hcz9_2 : w8.cell? ⟨gb289, 2, none⟩ = some (.int .i64 0) := (blk_cell BK289.out 2).trans rfl; have hcz9_3 : w8.cell? ⟨gb289, 3, none⟩ = some (.int .i64 0) := (blk_cell BK289.out 3).trans rfl; have hcz9_4 : w8.cell? ⟨gb289, 4, none⟩ = some (.int .i64 0) := (blk_cell BK289.out 4).trans rfl; have hcz9_5 : w8.cell? ⟨gb289, 5, none⟩ = some (.int .i64 0) := (blk_cell BK289.out 5).trans rfl; have hcz9_6 : w8.cell? ⟨gb289, 6, none⟩ = some (.int .i64 0) := (blk_cell BK289.out 6).trans rfl; have hcz9_7 : w8.cell? ⟨gb289, 7, none⟩ = some (.int .i64 0) := (blk_cell BK289.out 7).trans rfl; have hcz9_8 : w8.cell? ⟨gb289, 8, none⟩ = some (.bool false) := (blk_cell BK289.out 8).trans rfl; have hfz9_0 := blk_frozen BK289.out 0; have hfz9_1 := blk_frozen BK289.out 1; have hfz9_2 := blk_frozen BK289.out 2; have hfz9_3 := blk_frozen BK289.out 3; have hfz9_4 := blk_frozen BK289.out 4; have hfz9_5 := blk_frozen BK289.out 5; have hfz9_6 := blk_frozen BK289.out 6; have hfz9_7 := blk_frozen BK289.out 7; have hfz9_8 := blk_frozen BK289.out 8) | ((with_reducible refine gate_callee (f := 13) rfl ?_); refine goesL_ (some 20) rfl rfl Try.func13 (by kernel_rfl) rfl #[.slice A0 l0.length c0, .int .i64 0] rfl (by (try simp only [List.map_toArray, List.map_cons, List.map_nil]); first | done | rfl | (simp only [List.length_drop, List.length_take]; rfl)) ?_; (with_reducible refine (laws_at.calls _ _ l0 0 t290 _ ?side1 ?side2 A4.out).mono ?_); (case side1 => exact Kd.C_below HR0.out (by repeat (first | (with_reducible first | exact HB.out | apply below_alloc | apply pw_below_drewN | apply below_drew1 | refine below_set ?_ GE289.out) | exact HB.out))); (case side2 => exact HC0.out); rintro e w' ⟨rfl, ⟨nd, rfl⟩⟩; refine ⟨_, rfl, ?_⟩) | ((with_reducible refine gate_callee (f := 13) rfl ?_); refine goesL_ (some 23) rfl rfl Try.func13 (by kernel_rfl) rfl #[.slice A0 l0.length c0, .int .i64 1] rfl (by (try simp only [List.map_toArray, List.map_cons, List.map_nil]); first | done | rfl | (simp only [List.length_drop, List.length_take]; rfl)) ?_; (with_reducible refine (laws_at.calls _ _ l0 1 t291 _ ?side1 ?side2 A5.out).mono ?_); (case side1 => exact Kd.C_below HR0.out (by repeat (first | (with_reducible first | exact HB.out | apply below_alloc | apply pw_below_drewN | apply below_drew1 | refine below_set ?_ GE289.out) | exact HB.out))); (case side2 => exact HC0.out); rintro e w' ⟨rfl, ⟨nd, rfl⟩⟩; refine ⟨_, rfl, ?_⟩) | ((with_reducible refine gate_callee (f := 13) rfl ?_); refine goesL_ (some 27) rfl rfl Try.func13 (by kernel_rfl) rfl #[.slice A0 l0.length c0, .int .i64 2] rfl (by (try simp only [List.map_toArray, List.map_cons, List.map_nil]); first | done | rfl | (simp only [List.length_drop, List.length_take]; rfl)) ?_; (with_reducible refine (laws_at.calls _ _ l0 2 t292 _ ?side1 ?side2 A6.out).mono ?_); (case side1 => exact Kd.C_below HR0.out (by repeat (first | (with_reducible first | exact HB.out | apply below_alloc | apply pw_below_drewN | apply below_drew1 | refine below_set ?_ GE289.out) | exact HB.out))); (case side2 => exact HC0.out); rintro e w' ⟨rfl, ⟨nd, rfl⟩⟩; refine ⟨_, rfl, ?_⟩))
  (try simp only [Act.put, List.setIfInBounds_toArray, List.set_cons_zero, List.set_cons_succ])
  go_cut [4, 5, 29] (fun v4 v5 v29 wc => ∃ (kq : Nat) (x4_6 : Int) (x5_6 : Int), v4 = .int .i64 x4_6 ∧ v5 = .int .i64 x5_6 ∧ Aside0 (laws_FnCaptured.j0 kq x4_6 x5_6 1 0 1000 1000 0 0 0 0 false = some r) ∧ Aside0 (kq ≤ k) ∧ Aside0 (wc.heap[gb289]? = some (.cells #[.int .i64 1, .int .i64 0, .int .i64 1000, .int .i64 1000, .int .i64 0, .int .i64 0, .int .i64 0, .int .i64 0, .bool false] 25 (0, 0))) ∧ Aside0 (Below w.heap.size w wc))
  case first =>
   have H := HC7.out
   clear HC7
   by_cases c10 : (Int.tmod t292 2) = 0
   ·
    rw [if_pos c10] at H
    have c10b0 : ((Int.tmod t292 2) == 0) = true := beq_iff_eq.mpr c10
    have c10b1 : ((Int.tmod t292 2) != 0) = false := bne_eq_false_iff_eq.mpr c10
    clear c10
    (first | rw [c10b0] | (simp only [i64_w, i32_w]; rw [c10b0]) | skip)
    have H' := Aside0.mk H
    clear H
    go_wp2
    go_meet
    case rel => exact ⟨_, (wrap64 (-(wrap64 (1 + t290)))), (wrap64 (-(wrap64 (1 + (Int.tmod t291 20))))), (by first | rfl | (simp; done) | (simp [*]; done)), (by first | rfl | (simp; done) | (simp [*]; done)), H', ⟨by first | omega | exact Nat.le_refl _⟩, ⟨by (with_reducible repeat (first | refine blk_drewN ?_ _ | refine blk_drew ?_ | refine blk_alloc ?_ _)); refine blk_put (cs := #[.int .i64 1, .int .i64 0, .int .i64 1000, .int .i64 1000, .int .i64 0, .int .i64 0, .int .i64 0, .int .i64 0, .bool false]) ?_ 8 _ rfl; (with_reducible repeat (first | refine blk_drewN ?_ _ | refine blk_drew ?_ | refine blk_alloc ?_ _)); refine blk_put (cs := #[.int .i64 1, .int .i64 0, .int .i64 1000, .int .i64 1000, .int .i64 0, .int .i64 0, .int .i64 0, .int .i64 0, .bool false]) ?_ 7 _ rfl; (with_reducible repeat (first | refine blk_drewN ?_ _ | refine blk_drew ?_ | refine blk_alloc ?_ _)); refine blk_put (cs := #[.int .i64 1, .int .i64 0, .int .i64 1000, .int .i64 1000, .int .i64 0, .int .i64 0, .int .i64 0, .int .i64 0, .bool false]) ?_ 6 _ rfl; (with_reducible repeat (first | refine blk_drewN ?_ _ | refine blk_drew ?_ | refine blk_alloc ?_ _)); refine blk_put (cs := #[.int .i64 1, .int .i64 0, .int .i64 1000, .int .i64 1000, .int .i64 0, .int .i64 0, .int .i64 0, .int .i64 0, .bool false]) ?_ 5 _ rfl; (with_reducible repeat (first | refine blk_drewN ?_ _ | refine blk_drew ?_ | refine blk_alloc ?_ _)); refine blk_put (cs := #[.int .i64 1, .int .i64 0, .int .i64 1000, .int .i64 1000, .int .i64 0, .int .i64 0, .int .i64 0, .int .i64 0, .bool false]) ?_ 4 _ rfl; (with_reducible repeat (first | refine blk_drewN ?_ _ | refine blk_drew ?_ | refine blk_alloc ?_ _)); refine blk_put (cs := #[.int .i64 1, .int .i64 0, .int .i64 1000, .int .i64 0, .int .i64 0, .int .i64 0, .int .i64 0, .int .i64 0, .bool false]) ?_ 3 _ rfl; (with_reducible repeat (first | refine blk_drewN ?_ _ | refine blk_drew ?_ | refine blk_alloc ?_ _)); refine blk_put (cs := #[.int .i64 1, .int .i64 0, .int .i64 0, .int .i64 0, .int .i64 0, .int .i64 0, .int .i64 0, .int .i64 0, .bool false]) ?_ 2 _ rfl; (with_reducible repeat (first | refine blk_drewN ?_ _ | refine blk_drew ?_ | refine blk_alloc ?_ _)); refine blk_put (cs := #[.int .i64 1, .int .i64 0, .int .i64 0, .int .i64 0, .int .i64 0, .int .i64 0, .int .i64 0, .int .i64 0, .bool false]) ?_ 1 _ rfl; (with_reducible repeat (first | refine blk_drewN ?_ _ | refine blk_drew ?_ | refine blk_alloc ?_ _)); refine blk_put (cs := #[.int .i64 0, .int .i64 0, .int .i64 0, .int .i64 0, .int .i64 0, .int .i64 0, .int .i64 0, .int .i64 0, .bool false]) ?_ 0 _ rfl; (with_reducible repeat (first | refine blk_drewN ?_ _ | refine blk_drew ?_ | refine blk_alloc ?_ _)); exact BK289.out⟩, ⟨by repeat (first | (with_reducible first | exact HB.out | apply below_alloc | apply pw_below_drewN | apply below_drew1 | refine below_set ?_ GE289.out) | exact HB.out)⟩⟩
   ·
    rw [if_neg c10] at H
    have c10b0 : ((Int.tmod t292 2) == 0) = false := beq_eq_false_iff_ne.mpr c10
    have c10b1 : ((Int.tmod t292 2) != 0) = true := bne_iff_ne.mpr c10
    (first | rw [c10b0] | (simp only [i64_w, i32_w]; rw [c10b0]) | skip)
    have H' := Aside0.mk H
    clear H
    go_wp2
    go_meet
    case rel => exact ⟨_, (wrap64 (1 + t290)), (wrap64 (1 + (Int.tmod t291 20))), (by first | rfl | (simp; done) | (simp [*]; done)), (by first | rfl | (simp; done) | (simp [*]; done)), H', ⟨by first | omega | exact Nat.le_refl _⟩, ⟨by (with_reducible repeat (first | refine blk_drewN ?_ _ | refine blk_drew ?_ | refine blk_alloc ?_ _)); refine blk_put (cs := #[.int .i64 1, .int .i64 0, .int .i64 1000, .int .i64 1000, .int .i64 0, .int .i64 0, .int .i64 0, .int .i64 0, .bool false]) ?_ 8 _ rfl; (with_reducible repeat (first | refine blk_drewN ?_ _ | refine blk_drew ?_ | refine blk_alloc ?_ _)); refine blk_put (cs := #[.int .i64 1, .int .i64 0, .int .i64 1000, .int .i64 1000, .int .i64 0, .int .i64 0, .int .i64 0, .int .i64 0, .bool false]) ?_ 7 _ rfl; (with_reducible repeat (first | refine blk_drewN ?_ _ | refine blk_drew ?_ | refine blk_alloc ?_ _)); refine blk_put (cs := #[.int .i64 1, .int .i64 0, .int .i64 1000, .int .i64 1000, .int .i64 0, .int .i64 0, .int .i64 0, .int .i64 0, .bool false]) ?_ 6 _ rfl; (with_reducible repeat (first | refine blk_drewN ?_ _ | refine blk_drew ?_ | refine blk_alloc ?_ _)); refine blk_put (cs := #[.int .i64 1, .int .i64 0, .int .i64 1000, .int .i64 1000, .int .i64 0, .int .i64 0, .int .i64 0, .int .i64 0, .bool false]) ?_ 5 _ rfl; (with_reducible repeat (first | refine blk_drewN ?_ _ | refine blk_drew ?_ | refine blk_alloc ?_ _)); refine blk_put (cs := #[.int .i64 1, .int .i64 0, .int .i64 1000, .int .i64 1000, .int .i64 0, .int .i64 0, .int .i64 0, .int .i64 0, .bool false]) ?_ 4 _ rfl; (with_reducible repeat (first | refine blk_drewN ?_ _ | refine blk_drew ?_ | refine blk_alloc ?_ _)); refine blk_put (cs := #[.int .i64 1, .int .i64 0, .int .i64 1000, .int .i64 0, .int .i64 0, .int .i64 0, .int .i64 0, .int .i64 0, .bool false]) ?_ 3 _ rfl; (with_reducible repeat (first | refine blk_drewN ?_ _ | refine blk_drew ?_ | refine blk_alloc ?_ _)); refine blk_put (cs := #[.int .i64 1, .int .i64 0, .int .i64 0, .int .i64 0, .int .i64 0, .int .i64 0, .int .i64 0, .int .i64 0, .bool false]) ?_ 2 _ rfl; (with_reducible repeat (first | refine blk_drewN ?_ _ | refine blk_drew ?_ | refine blk_alloc ?_ _)); refine blk_put (cs := #[.int .i64 1, .int .i64 0, .int .i64 0, .int .i64 0, .int .i64 0, .int .i64 0, .int .i64 0, .int .i64 0, .bool false]) ?_ 1 _ rfl; (with_reducible repeat (first | refine blk_drewN ?_ _ | refine blk_drew ?_ | refine blk_alloc ?_ _)); refine blk_put (cs := #[.int .i64 0, .int .i64 0, .int .i64 0, .int .i64 0, .int .i64 0, .int .i64 0, .int .i64 0, .int .i64 0, .bool false]) ?_ 0 _ rfl; (with_reducible repeat (first | refine blk_drewN ?_ _ | refine blk_drew ?_ | refine blk_alloc ?_ _)); exact BK289.out⟩, ⟨by repeat (first | (with_reducible first | exact HB.out | apply below_alloc | apply pw_below_drewN | apply below_drew1 | refine below_set ?_ GE289.out) | exact HB.out)⟩⟩
  case rest =>
   clear HC7
   try clear c1
   try clear p2
   try clear c3
   try clear c4
   try clear p6
   try clear c10
   try clear c10b0
   try clear c10b1
   try clear hcz9_0
   try clear hcz9_1
   try clear hcz9_2
   try clear hcz9_3
   try clear hcz9_4
   try clear hcz9_5
   try clear hcz9_6
   try clear hcz9_7
   try clear hcz9_8
   try clear hfz9_0
   try clear hfz9_1
   try clear hfz9_2
   try clear hfz9_3
   try clear hfz9_4
   try clear hfz9_5
   try clear hfz9_6
   try clear hfz9_7
   try clear hfz9_8
   obtain ⟨kq, x4_6, x5_6, rfl, rfl, HA, HJ6, BK289, HB⟩ := hcut
   cases kq with
   | zero => exact absurd HA.out (by simp [laws_FnCaptured.j0])
   | succ kj6 =>
    have H := HA.out
    clear HA
    simp only [laws_FnCaptured.j0] at H
    replace H := Option.bind_eq_some_iff.mp H
    obtain ⟨⟨t293, t294, t295, t296, t297, t298, t299, t300, t301, t302⟩, A110, H⟩ := H
    replace H : ((impl_Press.f kj6 0 t294 t295 t296 t297 t298 t299 t300 t301 7 x5_6).bind fun bt303 => ((impl_Press.f kj6 bt303.1 bt303.2.1 bt303.2.2.1 bt303.2.2.2.1 bt303.2.2.2.2.1 bt303.2.2.2.2.2.1 bt303.2.2.2.2.2.2.1 bt303.2.2.2.2.2.2.2.1 bt303.2.2.2.2.2.2.2.2.1 2 0).bind fun bt313 => (if t302 = true then (if bt303.2.2.2.2.2.2.2.2.2 = true then (if bt313.2.2.2.2.2.2.2.2.2 = true then (if bt313.1 = 2 then ((impl_PilotOk.f kj6 bt313.1 bt313.2.1 bt313.2.2.1 bt313.2.2.2.1 bt313.2.2.2.2.1 bt313.2.2.2.2.2.1 bt313.2.2.2.2.2.2.1 bt313.2.2.2.2.2.2.2.1 bt313.2.2.2.2.2.2.2.2.1).bind fun t323 => (laws_FnCaptured.j1 kj6 x4_6 (!t323) bt313.1 bt313.2.1 bt313.2.2.1 bt313.2.2.2.1 bt313.2.2.2.2.1 bt313.2.2.2.2.2.1 bt313.2.2.2.2.2.2.1 bt313.2.2.2.2.2.2.2.1 bt313.2.2.2.2.2.2.2.2.1)) else (laws_FnCaptured.j1 kj6 x4_6 true bt313.1 bt313.2.1 bt313.2.2.1 bt313.2.2.2.1 bt313.2.2.2.2.1 bt313.2.2.2.2.2.1 bt313.2.2.2.2.2.2.1 bt313.2.2.2.2.2.2.2.1 bt313.2.2.2.2.2.2.2.2.1)) else (laws_FnCaptured.j1 kj6 x4_6 true bt313.1 bt313.2.1 bt313.2.2.1 bt313.2.2.2.1 bt313.2.2.2.2.1 bt313.2.2.2.2.2.1 bt313.2.2.2.2.2.2.1 bt313.2.2.2.2.2.2.2.1 bt313.2.2.2.2.2.2.2.2.1)) else (laws_FnCaptured.j1 kj6 x4_6 true bt313.1 bt313.2.1 bt313.2.2.1 bt313.2.2.2.1 bt313.2.2.2.2.1 bt313.2.2.2.2.2.1 bt313.2.2.2.2.2.2.1 bt313.2.2.2.2.2.2.2.1 bt313.2.2.2.2.2.2.2.2.1)) else (laws_FnCaptured.j1 kj6 x4_6 true bt313.1 bt313.2.1 bt313.2.2.1 bt313.2.2.2.1 bt313.2.2.2.2.1 bt313.2.2.2.2.2.1 bt313.2.2.2.2.2.2.1 bt313.2.2.2.2.2.2.2.1 bt313.2.2.2.2.2.2.2.2.1)))) = some r := H
    have A11 := Aside0.mk A110
    clear A110
    replace H := Option.bind_eq_some_iff.mp H
    obtain ⟨⟨t303, t304, t305, t306, t307, t308, t309, t310, t311, t312⟩, A120, H⟩ := H
    replace H : ((impl_Press.f kj6 t303 t304 t305 t306 t307 t308 t309 t310 t311 2 0).bind fun bt313 => (if t302 = true then (if t312 = true then (if bt313.2.2.2.2.2.2.2.2.2 = true then (if bt313.1 = 2 then ((impl_PilotOk.f kj6 bt313.1 bt313.2.1 bt313.2.2.1 bt313.2.2.2.1 bt313.2.2.2.2.1 bt313.2.2.2.2.2.1 bt313.2.2.2.2.2.2.1 bt313.2.2.2.2.2.2.2.1 bt313.2.2.2.2.2.2.2.2.1).bind fun t323 => (laws_FnCaptured.j1 kj6 x4_6 (!t323) bt313.1 bt313.2.1 bt313.2.2.1 bt313.2.2.2.1 bt313.2.2.2.2.1 bt313.2.2.2.2.2.1 bt313.2.2.2.2.2.2.1 bt313.2.2.2.2.2.2.2.1 bt313.2.2.2.2.2.2.2.2.1)) else (laws_FnCaptured.j1 kj6 x4_6 true bt313.1 bt313.2.1 bt313.2.2.1 bt313.2.2.2.1 bt313.2.2.2.2.1 bt313.2.2.2.2.2.1 bt313.2.2.2.2.2.2.1 bt313.2.2.2.2.2.2.2.1 bt313.2.2.2.2.2.2.2.2.1)) else (laws_FnCaptured.j1 kj6 x4_6 true bt313.1 bt313.2.1 bt313.2.2.1 bt313.2.2.2.1 bt313.2.2.2.2.1 bt313.2.2.2.2.2.1 bt313.2.2.2.2.2.2.1 bt313.2.2.2.2.2.2.2.1 bt313.2.2.2.2.2.2.2.2.1)) else (laws_FnCaptured.j1 kj6 x4_6 true bt313.1 bt313.2.1 bt313.2.2.1 bt313.2.2.2.1 bt313.2.2.2.2.1 bt313.2.2.2.2.2.1 bt313.2.2.2.2.2.2.1 bt313.2.2.2.2.2.2.2.1 bt313.2.2.2.2.2.2.2.2.1)) else (laws_FnCaptured.j1 kj6 x4_6 true bt313.1 bt313.2.1 bt313.2.2.1 bt313.2.2.2.1 bt313.2.2.2.2.1 bt313.2.2.2.2.2.1 bt313.2.2.2.2.2.2.1 bt313.2.2.2.2.2.2.2.1 bt313.2.2.2.2.2.2.2.2.1))) = some r := H
    have A12 := Aside0.mk A120
    clear A120
    replace H := Option.bind_eq_some_iff.mp H
    obtain ⟨⟨t313, t314, t315, t316, t317, t318, t319, t320, t321, t322⟩, A130, H⟩ := H
    replace H : (if t302 = true then (if t312 = true then (if t322 = true then (if t313 = 2 then ((impl_PilotOk.f kj6 t313 t314 t315 t316 t317 t318 t319 t320 t321).bind fun t323 => (laws_FnCaptured.j1 kj6 x4_6 (!t323) t313 t314 t315 t316 t317 t318 t319 t320 t321)) else (laws_FnCaptured.j1 kj6 x4_6 true t313 t314 t315 t316 t317 t318 t319 t320 t321)) else (laws_FnCaptured.j1 kj6 x4_6 true t313 t314 t315 t316 t317 t318 t319 t320 t321)) else (laws_FnCaptured.j1 kj6 x4_6 true t313 t314 t315 t316 t317 t318 t319 t320 t321)) else (laws_FnCaptured.j1 kj6 x4_6 true t313 t314 t315 t316 t317 t318 t319 t320 t321)) = some r := H
    have A13 := Aside0.mk A130
    clear A130
    have HC14 := Aside0.mk H
    clear H
    have hcz15_0 : wc.cell? ⟨gb289, 0, none⟩ = some (.int .i64 1) := (blk_cell BK289.out 0).trans rfl
    have hcz15_1 : wc.cell? ⟨gb289, 1, none⟩ = some (.int .i64 0) := (blk_cell BK289.out 1).trans rfl
    have hcz15_2 : wc.cell? ⟨gb289, 2, none⟩ = some (.int .i64 1000) := (blk_cell BK289.out 2).trans rfl
    have hcz15_3 : wc.cell? ⟨gb289, 3, none⟩ = some (.int .i64 1000) := (blk_cell BK289.out 3).trans rfl
    have hcz15_4 : wc.cell? ⟨gb289, 4, none⟩ = some (.int .i64 0) := (blk_cell BK289.out 4).trans rfl
    have hcz15_5 : wc.cell? ⟨gb289, 5, none⟩ = some (.int .i64 0) := (blk_cell BK289.out 5).trans rfl
    have hcz15_6 : wc.cell? ⟨gb289, 6, none⟩ = some (.int .i64 0) := (blk_cell BK289.out 6).trans rfl
    have hcz15_7 : wc.cell? ⟨gb289, 7, none⟩ = some (.int .i64 0) := (blk_cell BK289.out 7).trans rfl
    have hcz15_8 : wc.cell? ⟨gb289, 8, none⟩ = some (.bool false) := (blk_cell BK289.out 8).trans rfl
    have hfz15_0 := blk_frozen BK289.out 0
    have hfz15_1 := blk_frozen BK289.out 1
    have hfz15_2 := blk_frozen BK289.out 2
    have hfz15_3 := blk_frozen BK289.out 3
    have hfz15_4 := blk_frozen BK289.out 4
    have hfz15_5 := blk_frozen BK289.out 5
    have hfz15_6 := blk_frozen BK289.out 6
    have hfz15_7 := blk_frozen BK289.out 7
    have hfz15_8 := blk_frozen BK289.out 8
    go_upto_region 13 with (first | ((with_reducible refine gate_callee (f := 14) rfl ?_); refine goesL_ (some 38) rfl rfl Try.func14 (by kernel_rfl) rfl #[.agg #[.int .i64 1, .int .i64 0, .int .i64 1000, .int .i64 1000, .int .i64 0, .int .i64 0, .int .i64 0, .int .i64 0, .bool false], .int .i64 3, .int .i64 (wrap64 (1000 + x4_6))] rfl (by (try simp only [List.map_toArray, List.map_cons, List.map_nil]); first | done | rfl | (simp only [List.length_drop, List.length_take]; rfl)) ?_; (with_reducible refine (impl_Press.calls kj6 1 0 1000 1000 0 0 0 0 false 3 (wrap64 (1000 + x4_6)) t293 t294 t295 t296 t297 t298 t299 t300 t301 t302 _ A11.out).mono ?_); rintro e w16 ⟨rfl, hb⟩; refine ⟨_, rfl, ?_⟩; have n0_ := Aside0.mk (blk_below (g := gb289) (o := .cells #[.int .i64 1, .int .i64 0, .int .i64 1000, .int .i64 1000, .int .i64 0, .int .i64 0, .int .i64 0, .int .i64 0, .bool false] 25 (0, 0)) (by (with_reducible repeat (first | refine blk_drewN ?_ _ | refine blk_drew ?_ | refine blk_alloc ?_ _)); exact BK289.out) hb); have n1_ := Aside0.mk (below_step (by repeat (first | (with_reducible first | exact HB.out | apply below_alloc | apply pw_below_drewN | apply below_drew1 | refine below_set ?_ GE289.out) | exact HB.out)) hb); clear BK289; clear HB; have BK289 := n0_; have HB := n1_; clear n0_ n1_; (try clear hb); (try clear hb2); (try clear hk); (try clear hi); have hcz17_0 : w16.cell? ⟨gb289, 0, none⟩ = some (.int .i64 1) := (blk_cell BK289.out 0).trans rfl; have hcz17_1 : w16.cell? ⟨gb289, 1, none⟩ = some (.int .i64 0) := (blk_cell BK289.out 1).trans rfl; have hcz17_2 : w16.cell? ⟨gb289, 2, none⟩ = some (.int .i64 1000) := (blk_cell BK289.out 2).trans rfl; have hcz17_3 : w16.cell? ⟨gb289, 3, none⟩ = some (.int .i64 1000) := (blk_cell BK289.out 3).trans rfl; have hcz17_4 : w16.cell? ⟨gb289, 4, none⟩ = some (.int .i64 0) := (blk_cell BK289.out 4).trans rfl; have hcz17_5 : w16.cell? ⟨gb289, 5, none⟩ = some (.int .i64 0) := (blk_cell BK289.out 5).trans rfl; have hcz17_6 : w16.cell? ⟨gb289, 6, none⟩ = some (.int .i64 0) := (blk_cell BK289.out 6).trans rfl; have hcz17_7 : w16.cell? ⟨gb289, 7, none⟩ = some (.int .i64 0) := (blk_cell BK289.out 7).trans rfl; have hcz17_8 : w16.cell? ⟨gb289, 8, none⟩ = some (.bool false) := (blk_cell BK289.out 8).trans rfl; have hfz17_0 := blk_frozen BK289.out 0; have hfz17_1 := blk_frozen BK289.out 1; have hfz17_2 := blk_frozen BK289.out 2; have hfz17_3 := blk_frozen BK289.out 3; have hfz17_4 := blk_frozen BK289.out 4; have hfz17_5 := blk_frozen BK289.out 5; have hfz17_6 := blk_frozen BK289.out 6; have hfz17_7 := blk_frozen BK289.out 7; have hfz17_8 := blk_frozen BK289.out 8) | ((with_reducible refine gate_callee (f := 14) rfl ?_); refine goesL_ (some 45) rfl rfl Try.func14 (by kernel_rfl) rfl #[.agg #[.int .i64 0, .int .i64 t294, .int .i64 t295, .int .i64 t296, .int .i64 t297, .int .i64 t298, .int .i64 t299, .int .i64 t300, .bool t301], .int .i64 7, .int .i64 x5_6] rfl (by (try simp only [List.map_toArray, List.map_cons, List.map_nil]); first | done | rfl | (simp only [List.length_drop, List.length_take]; rfl)) ?_; (with_reducible refine (impl_Press.calls kj6 0 t294 t295 t296 t297 t298 t299 t300 t301 7 x5_6 t303 t304 t305 t306 t307 t308 t309 t310 t311 t312 _ A12.out).mono ?_); rintro e w18 ⟨rfl, hb⟩; refine ⟨_, rfl, ?_⟩; have n0_ := Aside0.mk (blk_below (g := gb289) (o := .cells #[.int .i64 0, .int .i64 t294, .int .i64 t295, .int .i64 t296, .int .i64 t297, .int .i64 t298, .int .i64 t299, .int .i64 t300, .bool t301] 25 (0, 0)) (by (with_reducible repeat (first | refine blk_drewN ?_ _ | refine blk_drew ?_ | refine blk_alloc ?_ _)); refine blk_put (cs := #[.int .i64 t293, .int .i64 t294, .int .i64 t295, .int .i64 t296, .int .i64 t297, .int .i64 t298, .int .i64 t299, .int .i64 t300, .bool t301]) ?_ 0 _ rfl; (with_reducible repeat (first | refine blk_drewN ?_ _ | refine blk_drew ?_ | refine blk_alloc ?_ _)); refine blk_put (cs := #[.int .i64 t293, .int .i64 t294, .int .i64 t295, .int .i64 t296, .int .i64 t297, .int .i64 t298, .int .i64 t299, .int .i64 t300, .bool false]) ?_ 8 _ rfl; (with_reducible repeat (first | refine blk_drewN ?_ _ | refine blk_drew ?_ | refine blk_alloc ?_ _)); refine blk_put (cs := #[.int .i64 t293, .int .i64 t294, .int .i64 t295, .int .i64 t296, .int .i64 t297, .int .i64 t298, .int .i64 t299, .int .i64 0, .bool false]) ?_ 7 _ rfl; (with_reducible repeat (first | refine blk_drewN ?_ _ | refine blk_drew ?_ | refine blk_alloc ?_ _)); refine blk_put (cs := #[.int .i64 t293, .int .i64 t294, .int .i64 t295, .int .i64 t296, .int .i64 t297, .int .i64 t298, .int .i64 0, .int .i64 0, .bool false]) ?_ 6 _ rfl; (with_reducible repeat (first | refine blk_drewN ?_ _ | refine blk_drew ?_ | refine blk_alloc ?_ _)); refine blk_put (cs := #[.int .i64 t293, .int .i64 t294, .int .i64 t295, .int .i64 t296, .int .i64 t297, .int .i64 0, .int .i64 0, .int .i64 0, .bool false]) ?_ 5 _ rfl; (with_reducible repeat (first | refine blk_drewN ?_ _ | refine blk_drew ?_ | refine blk_alloc ?_ _)); refine blk_put (cs := #[.int .i64 t293, .int .i64 t294, .int .i64 t295, .int .i64 t296, .int .i64 0, .int .i64 0, .int .i64 0, .int .i64 0, .bool false]) ?_ 4 _ rfl; (with_reducible repeat (first | refine blk_drewN ?_ _ | refine blk_drew ?_ | refine blk_alloc ?_ _)); refine blk_put (cs := #[.int .i64 t293, .int .i64 t294, .int .i64 t295, .int .i64 1000, .int .i64 0, .int .i64 0, .int .i64 0, .int .i64 0, .bool false]) ?_ 3 _ rfl; (with_reducible repeat (first | refine blk_drewN ?_ _ | refine blk_drew ?_ | refine blk_alloc ?_ _)); refine blk_put (cs := #[.int .i64 t293, .int .i64 t294, .int .i64 1000, .int .i64 1000, .int .i64 0, .int .i64 0, .int .i64 0, .int .i64 0, .bool false]) ?_ 2 _ rfl; (with_reducible repeat (first | refine blk_drewN ?_ _ | refine blk_drew ?_ | refine blk_alloc ?_ _)); refine blk_put (cs := #[.int .i64 t293, .int .i64 0, .int .i64 1000, .int .i64 1000, .int .i64 0, .int .i64 0, .int .i64 0, .int .i64 0, .bool false]) ?_ 1 _ rfl; (with_reducible repeat (first | refine blk_drewN ?_ _ | refine blk_drew ?_ | refine blk_alloc ?_ _)); refine blk_put (cs := #[.int .i64 1, .int .i64 0, .int .i64 1000, .int .i64 1000, .int .i64 0, .int .i64 0, .int .i64 0, .int .i64 0, .bool false]) ?_ 0 _ rfl; (with_reducible repeat (first | refine blk_drewN ?_ _ | refine blk_drew ?_ | refine blk_alloc ?_ _)); exact BK289.out) hb); have n1_ := Aside0.mk (below_step (by repeat (first | (with_reducible first | exact HB.out | apply below_alloc | apply pw_below_drewN | apply below_drew1 | refine below_set ?_ GE289.out) | exact HB.out)) hb); clear BK289; clear HB; have BK289 := n0_; have HB := n1_; clear n0_ n1_; (try clear hb); (try clear hb2); (try clear hk); (try clear hi); have hcz19_0 : w18.cell? ⟨gb289, 0, none⟩ = some (.int .i64 0) := (blk_cell BK289.out 0).trans rfl; have hcz19_1 : w18.cell? ⟨gb289, 1, none⟩ = some (.int .i64 t294) := (blk_cell BK289.out 1).trans rfl; have hcz19_2 : w18.cell? ⟨gb289, 2, none⟩ = some (.int .i64 t295) := (blk_cell BK289.out 2).trans rfl; have hcz19_3 : w18.cell? ⟨gb289, 3, none⟩ = some (.int .i64 t296) := (blk_cell BK289.out 3).trans rfl; have hcz19_4 : w18.cell? ⟨gb289, 4, none⟩ = some (.int .i64 t297) := (blk_cell BK289.out 4).trans rfl; have hcz19_5 : w18.cell? ⟨gb289, 5, none⟩ = some (.int .i64 t298) := (blk_cell BK289.out 5).trans rfl; have hcz19_6 : w18.cell? ⟨gb289, 6, none⟩ = some (.int .i64 t299) := (blk_cell BK289.out 6).trans rfl; have hcz19_7 : w18.cell? ⟨gb289, 7, none⟩ = some (.int .i64 t300) := (blk_cell BK289.out 7).trans rfl; have hcz19_8 : w18.cell? ⟨gb289, 8, none⟩ = some (.bool t301) := (blk_cell BK289.out 8).trans rfl; have hfz19_0 := blk_frozen BK289.out 0; have hfz19_1 := blk_frozen BK289.out 1; have hfz19_2 := blk_frozen BK289.out 2; have hfz19_3 := blk_frozen BK289.out 3; have hfz19_4 := blk_frozen BK289.out 4; have hfz19_5 := blk_frozen BK289.out 5; have hfz19_6 := blk_frozen BK289.out 6; have hfz19_7 := blk_frozen BK289.out 7; have hfz19_8 := blk_frozen BK289.out 8) | ((with_reducible refine gate_callee (f := 14) rfl ?_); refine goesL_ (some 50) rfl rfl Try.func14 (by kernel_rfl) rfl #[.agg #[.int .i64 t303, .int .i64 t304, .int .i64 t305, .int .i64 t306, .int .i64 t307, .int .i64 t308, .int .i64 t309, .int .i64 t310, .bool t311], .int .i64 2, .int .i64 0] rfl (by (try simp only [List.map_toArray, List.map_cons, List.map_nil]); first | done | rfl | (simp only [List.length_drop, List.length_take]; rfl)) ?_; (with_reducible refine (impl_Press.calls kj6 t303 t304 t305 t306 t307 t308 t309 t310 t311 2 0 t313 t314 t315 t316 t317 t318 t319 t320 t321 t322 _ A13.out).mono ?_); rintro e w20 ⟨rfl, hb⟩; refine ⟨_, rfl, ?_⟩; have n0_ := Aside0.mk (blk_below (g := gb289) (o := .cells #[.int .i64 t303, .int .i64 t304, .int .i64 t305, .int .i64 t306, .int .i64 t307, .int .i64 t308, .int .i64 t309, .int .i64 t310, .bool t311] 25 (0, 0)) (by (with_reducible repeat (first | refine blk_drewN ?_ _ | refine blk_drew ?_ | refine blk_alloc ?_ _)); refine blk_put (cs := #[.int .i64 t303, .int .i64 t304, .int .i64 t305, .int .i64 t306, .int .i64 t307, .int .i64 t308, .int .i64 t309, .int .i64 t310, .bool t301]) ?_ 8 _ rfl; (with_reducible repeat (first | refine blk_drewN ?_ _ | refine blk_drew ?_ | refine blk_alloc ?_ _)); refine blk_put (cs := #[.int .i64 t303, .int .i64 t304, .int .i64 t305, .int .i64 t306, .int .i64 t307, .int .i64 t308, .int .i64 t309, .int .i64 t300, .bool t301]) ?_ 7 _ rfl; (with_reducible repeat (first | refine blk_drewN ?_ _ | refine blk_drew ?_ | refine blk_alloc ?_ _)); refine blk_put (cs := #[.int .i64 t303, .int .i64 t304, .int .i64 t305, .int .i64 t306, .int .i64 t307, .int .i64 t308, .int .i64 t299, .int .i64 t300, .bool t301]) ?_ 6 _ rfl; (with_reducible repeat (first | refine blk_drewN ?_ _ | refine blk_drew ?_ | refine blk_alloc ?_ _)); refine blk_put (cs := #[.int .i64 t303, .int .i64 t304, .int .i64 t305, .int .i64 t306, .int .i64 t307, .int .i64 t298, .int .i64 t299, .int .i64 t300, .bool t301]) ?_ 5 _ rfl; (with_reducible repeat (first | refine blk_drewN ?_ _ | refine blk_drew ?_ | refine blk_alloc ?_ _)); refine blk_put (cs := #[.int .i64 t303, .int .i64 t304, .int .i64 t305, .int .i64 t306, .int .i64 t297, .int .i64 t298, .int .i64 t299, .int .i64 t300, .bool t301]) ?_ 4 _ rfl; (with_reducible repeat (first | refine blk_drewN ?_ _ | refine blk_drew ?_ | refine blk_alloc ?_ _)); refine blk_put (cs := #[.int .i64 t303, .int .i64 t304, .int .i64 t305, .int .i64 t296, .int .i64 t297, .int .i64 t298, .int .i64 t299, .int .i64 t300, .bool t301]) ?_ 3 _ rfl; (with_reducible repeat (first | refine blk_drewN ?_ _ | refine blk_drew ?_ | refine blk_alloc ?_ _)); refine blk_put (cs := #[.int .i64 t303, .int .i64 t304, .int .i64 t295, .int .i64 t296, .int .i64 t297, .int .i64 t298, .int .i64 t299, .int .i64 t300, .bool t301]) ?_ 2 _ rfl; (with_reducible repeat (first | refine blk_drewN ?_ _ | refine blk_drew ?_ | refine blk_alloc ?_ _)); refine blk_put (cs := #[.int .i64 t303, .int .i64 t294, .int .i64 t295, .int .i64 t296, .int .i64 t297, .int .i64 t298, .int .i64 t299, .int .i64 t300, .bool t301]) ?_ 1 _ rfl; (with_reducible repeat (first | refine blk_drewN ?_ _ | refine blk_drew ?_ | refine blk_alloc ?_ _)); refine blk_put (cs := #[.int .i64 0, .int .i64 t294, .int .i64 t295, .int .i64 t296, .int .i64 t297, .int .i64 t298, .int .i64 t299, .int .i64 t300, .bool t301]) ?_ 0 _ rfl; (with_reducible repeat (first | refine blk_drewN ?_ _ | refine blk_drew ?_ | refine blk_alloc ?_ _)); exact BK289.out) hb); have n1_ := Aside0.mk (below_step (by repeat (first | (with_reducible first | exact HB.out | apply below_alloc | apply pw_below_drewN | apply below_drew1 | refine below_set ?_ GE289.out) | exact HB.out)) hb); clear BK289; clear HB; have BK289 := n0_; have HB := n1_; clear n0_ n1_; (try clear hb); (try clear hb2); (try clear hk); (try clear hi); have hcz21_0 : w20.cell? ⟨gb289, 0, none⟩ = some (.int .i64 t303) := (blk_cell BK289.out 0).trans rfl; have hcz21_1 : w20.cell? ⟨gb289, 1, none⟩ = some (.int .i64 t304) := (blk_cell BK289.out 1).trans rfl; have hcz21_2 : w20.cell? ⟨gb289, 2, none⟩ = some (.int .i64 t305) := (blk_cell BK289.out 2).trans rfl; have hcz21_3 : w20.cell? ⟨gb289, 3, none⟩ = some (.int .i64 t306) := (blk_cell BK289.out 3).trans rfl; have hcz21_4 : w20.cell? ⟨gb289, 4, none⟩ = some (.int .i64 t307) := (blk_cell BK289.out 4).trans rfl; have hcz21_5 : w20.cell? ⟨gb289, 5, none⟩ = some (.int .i64 t308) := (blk_cell BK289.out 5).trans rfl; have hcz21_6 : w20.cell? ⟨gb289, 6, none⟩ = some (.int .i64 t309) := (blk_cell BK289.out 6).trans rfl; have hcz21_7 : w20.cell? ⟨gb289, 7, none⟩ = some (.int .i64 t310) := (blk_cell BK289.out 7).trans rfl; have hcz21_8 : w20.cell? ⟨gb289, 8, none⟩ = some (.bool t311) := (blk_cell BK289.out 8).trans rfl; have hfz21_0 := blk_frozen BK289.out 0; have hfz21_1 := blk_frozen BK289.out 1; have hfz21_2 := blk_frozen BK289.out 2; have hfz21_3 := blk_frozen BK289.out 3; have hfz21_4 := blk_frozen BK289.out 4; have hfz21_5 := blk_frozen BK289.out 5; have hfz21_6 := blk_frozen BK289.out 6; have hfz21_7 := blk_frozen BK289.out 7; have hfz21_8 := blk_frozen BK289.out 8))
    (try simp only [Act.put, List.setIfInBounds_toArray, List.set_cons_zero, List.set_cons_succ])
    go_cut [72] (fun v72 wc => ∃ (kq : Nat) (x72_13 : Bool), v72 = .bool x72_13 ∧ Aside0 (laws_FnCaptured.j1 kq x4_6 x72_13 t313 t314 t315 t316 t317 t318 t319 t320 t321 = some r) ∧ Aside0 (kq ≤ kj6) ∧ Aside0 (wc.heap[gb289]? = some (.cells #[.int .i64 t313, .int .i64 t314, .int .i64 t315, .int .i64 t316, .int .i64 t317, .int .i64 t318, .int .i64 t319, .int .i64 t320, .bool t321] 25 (0, 0))) ∧ Aside0 (Below w.heap.size w wc))
    case first =>
     have H := HC14.out
     clear HC14
     by_cases c22 : t302 = true
     ·
      subst c22
      have H1 : (if t312 = true then (if t322 = true then (if t313 = 2 then ((impl_PilotOk.f kj6 t313 t314 t315 t316 t317 t318 t319 t320 t321).bind fun t323 => (laws_FnCaptured.j1 kj6 x4_6 (!t323) t313 t314 t315 t316 t317 t318 t319 t320 t321)) else (laws_FnCaptured.j1 kj6 x4_6 true t313 t314 t315 t316 t317 t318 t319 t320 t321)) else (laws_FnCaptured.j1 kj6 x4_6 true t313 t314 t315 t316 t317 t318 t319 t320 t321)) else (laws_FnCaptured.j1 kj6 x4_6 true t313 t314 t315 t316 t317 t318 t319 t320 t321)) = some r := by rw [if_pos rfl] at H; exact H
      clear H
      have H := H1
      clear H1
      by_cases c23 : t312 = true
      ·
       subst c23
       have H1 : (if t322 = true then (if t313 = 2 then ((impl_PilotOk.f kj6 t313 t314 t315 t316 t317 t318 t319 t320 t321).bind fun t323 => (laws_FnCaptured.j1 kj6 x4_6 (!t323) t313 t314 t315 t316 t317 t318 t319 t320 t321)) else (laws_FnCaptured.j1 kj6 x4_6 true t313 t314 t315 t316 t317 t318 t319 t320 t321)) else (laws_FnCaptured.j1 kj6 x4_6 true t313 t314 t315 t316 t317 t318 t319 t320 t321)) = some r := by rw [if_pos rfl] at H; exact H
       clear H
       have H := H1
       clear H1
       by_cases c24 : t322 = true
       ·
        subst c24
        have H1 : (if t313 = 2 then ((impl_PilotOk.f kj6 t313 t314 t315 t316 t317 t318 t319 t320 t321).bind fun t323 => (laws_FnCaptured.j1 kj6 x4_6 (!t323) t313 t314 t315 t316 t317 t318 t319 t320 t321)) else (laws_FnCaptured.j1 kj6 x4_6 true t313 t314 t315 t316 t317 t318 t319 t320 t321)) = some r := by rw [if_pos rfl] at H; exact H
        clear H
        have H := H1
        clear H1
        by_cases c25 : t313 = 2
        ·
         rw [if_pos c25] at H
         have c25b0 : (t313 == 2) = true := beq_iff_eq.mpr c25
         have c25b1 : (t313 != 2) = false := bne_eq_false_iff_eq.mpr c25
         clear c25
         (first | rw [c25b0] | (simp only [i64_w, i32_w]; rw [c25b0]) | skip)
         replace H := Option.bind_eq_some_iff.mp H
         obtain ⟨t323, A260, H⟩ := H
         replace H : (laws_FnCaptured.j1 kj6 x4_6 (!t323) t313 t314 t315 t316 t317 t318 t319 t320 t321) = some r := H
         have A26 := Aside0.mk A260
         clear A260
         have H' := Aside0.mk H
         clear H
         have hcz27_0 : w20.cell? ⟨gb289, 0, none⟩ = some (.int .i64 t303) := (blk_cell BK289.out 0).trans rfl
         have hcz27_1 : w20.cell? ⟨gb289, 1, none⟩ = some (.int .i64 t304) := (blk_cell BK289.out 1).trans rfl
         have hcz27_2 : w20.cell? ⟨gb289, 2, none⟩ = some (.int .i64 t305) := (blk_cell BK289.out 2).trans rfl
         have hcz27_3 : w20.cell? ⟨gb289, 3, none⟩ = some (.int .i64 t306) := (blk_cell BK289.out 3).trans rfl
         have hcz27_4 : w20.cell? ⟨gb289, 4, none⟩ = some (.int .i64 t307) := (blk_cell BK289.out 4).trans rfl
         have hcz27_5 : w20.cell? ⟨gb289, 5, none⟩ = some (.int .i64 t308) := (blk_cell BK289.out 5).trans rfl
         have hcz27_6 : w20.cell? ⟨gb289, 6, none⟩ = some (.int .i64 t309) := (blk_cell BK289.out 6).trans rfl
         have hcz27_7 : w20.cell? ⟨gb289, 7, none⟩ = some (.int .i64 t310) := (blk_cell BK289.out 7).trans rfl
         have hcz27_8 : w20.cell? ⟨gb289, 8, none⟩ = some (.bool t311) := (blk_cell BK289.out 8).trans rfl
         have hfz27_0 := blk_frozen BK289.out 0
         have hfz27_1 := blk_frozen BK289.out 1
         have hfz27_2 := blk_frozen BK289.out 2
         have hfz27_3 := blk_frozen BK289.out 3
         have hfz27_4 := blk_frozen BK289.out 4
         have hfz27_5 := blk_frozen BK289.out 5
         have hfz27_6 := blk_frozen BK289.out 6
         have hfz27_7 := blk_frozen BK289.out 7
         have hfz27_8 := blk_frozen BK289.out 8
         go_wp2_with (first | (go_at_call 11; (with_reducible refine (impl_PilotOk.calls kj6 t313 t314 t315 t316 t317 t318 t319 t320 t321 t323 _ A26.out).mono ?_); rintro e w28 ⟨rfl, hb⟩; have n0_ := Aside0.mk (blk_below (g := gb289) (o := .cells #[.int .i64 t313, .int .i64 t314, .int .i64 t315, .int .i64 t316, .int .i64 t317, .int .i64 t318, .int .i64 t319, .int .i64 t320, .bool t321] 25 (0, 0)) (by (with_reducible repeat (first | refine blk_drewN ?_ _ | refine blk_drew ?_ | refine blk_alloc ?_ _)); refine blk_put (cs := #[.int .i64 t313, .int .i64 t314, .int .i64 t315, .int .i64 t316, .int .i64 t317, .int .i64 t318, .int .i64 t319, .int .i64 t320, .bool t311]) ?_ 8 _ rfl; (with_reducible repeat (first | refine blk_drewN ?_ _ | refine blk_drew ?_ | refine blk_alloc ?_ _)); refine blk_put (cs := #[.int .i64 t313, .int .i64 t314, .int .i64 t315, .int .i64 t316, .int .i64 t317, .int .i64 t318, .int .i64 t319, .int .i64 t310, .bool t311]) ?_ 7 _ rfl; (with_reducible repeat (first | refine blk_drewN ?_ _ | refine blk_drew ?_ | refine blk_alloc ?_ _)); refine blk_put (cs := #[.int .i64 t313, .int .i64 t314, .int .i64 t315, .int .i64 t316, .int .i64 t317, .int .i64 t318, .int .i64 t309, .int .i64 t310, .bool t311]) ?_ 6 _ rfl; (with_reducible repeat (first | refine blk_drewN ?_ _ | refine blk_drew ?_ | refine blk_alloc ?_ _)); refine blk_put (cs := #[.int .i64 t313, .int .i64 t314, .int .i64 t315, .int .i64 t316, .int .i64 t317, .int .i64 t308, .int .i64 t309, .int .i64 t310, .bool t311]) ?_ 5 _ rfl; (with_reducible repeat (first | refine blk_drewN ?_ _ | refine blk_drew ?_ | refine blk_alloc ?_ _)); refine blk_put (cs := #[.int .i64 t313, .int .i64 t314, .int .i64 t315, .int .i64 t316, .int .i64 t307, .int .i64 t308, .int .i64 t309, .int .i64 t310, .bool t311]) ?_ 4 _ rfl; (with_reducible repeat (first | refine blk_drewN ?_ _ | refine blk_drew ?_ | refine blk_alloc ?_ _)); refine blk_put (cs := #[.int .i64 t313, .int .i64 t314, .int .i64 t315, .int .i64 t306, .int .i64 t307, .int .i64 t308, .int .i64 t309, .int .i64 t310, .bool t311]) ?_ 3 _ rfl; (with_reducible repeat (first | refine blk_drewN ?_ _ | refine blk_drew ?_ | refine blk_alloc ?_ _)); refine blk_put (cs := #[.int .i64 t313, .int .i64 t314, .int .i64 t305, .int .i64 t306, .int .i64 t307, .int .i64 t308, .int .i64 t309, .int .i64 t310, .bool t311]) ?_ 2 _ rfl; (with_reducible repeat (first | refine blk_drewN ?_ _ | refine blk_drew ?_ | refine blk_alloc ?_ _)); refine blk_put (cs := #[.int .i64 t313, .int .i64 t304, .int .i64 t305, .int .i64 t306, .int .i64 t307, .int .i64 t308, .int .i64 t309, .int .i64 t310, .bool t311]) ?_ 1 _ rfl; (with_reducible repeat (first | refine blk_drewN ?_ _ | refine blk_drew ?_ | refine blk_alloc ?_ _)); refine blk_put (cs := #[.int .i64 t303, .int .i64 t304, .int .i64 t305, .int .i64 t306, .int .i64 t307, .int .i64 t308, .int .i64 t309, .int .i64 t310, .bool t311]) ?_ 0 _ rfl; (with_reducible repeat (first | refine blk_drewN ?_ _ | refine blk_drew ?_ | refine blk_alloc ?_ _)); exact BK289.out) hb); have n1_ := Aside0.mk (below_step (by repeat (first | (with_reducible first | exact HB.out | apply below_alloc | apply pw_below_drewN | apply below_drew1 | refine below_set ?_ GE289.out) | exact HB.out)) hb); clear BK289; clear HB; have BK289 := n0_; have HB := n1_; clear n0_ n1_; (try clear hb); (try clear hb2); (try clear hk); (try clear hi)))
         go_meet
         case rel => exact ⟨_, (!t323), (by first | rfl | (simp; done) | (simp [*]; done)), H', ⟨by have := HJ6.out; first | omega | exact Nat.le_refl _⟩, ⟨by (with_reducible repeat (first | refine blk_drewN ?_ _ | refine blk_drew ?_ | refine blk_alloc ?_ _)); exact BK289.out⟩, ⟨by repeat (first | (with_reducible first | exact HB.out | apply below_alloc | apply pw_below_drewN | apply below_drew1 | refine below_set ?_ GE289.out) | exact HB.out)⟩⟩
        ·
         rw [if_neg c25] at H
         have c25b0 : (t313 == 2) = false := beq_eq_false_iff_ne.mpr c25
         have c25b1 : (t313 != 2) = true := bne_iff_ne.mpr c25
         (first | rw [c25b0] | (simp only [i64_w, i32_w]; rw [c25b0]) | skip)
         have H' := Aside0.mk H
         clear H
         have hcz29_0 : w20.cell? ⟨gb289, 0, none⟩ = some (.int .i64 t303) := (blk_cell BK289.out 0).trans rfl
         have hcz29_1 : w20.cell? ⟨gb289, 1, none⟩ = some (.int .i64 t304) := (blk_cell BK289.out 1).trans rfl
         have hcz29_2 : w20.cell? ⟨gb289, 2, none⟩ = some (.int .i64 t305) := (blk_cell BK289.out 2).trans rfl
         have hcz29_3 : w20.cell? ⟨gb289, 3, none⟩ = some (.int .i64 t306) := (blk_cell BK289.out 3).trans rfl
         have hcz29_4 : w20.cell? ⟨gb289, 4, none⟩ = some (.int .i64 t307) := (blk_cell BK289.out 4).trans rfl
         have hcz29_5 : w20.cell? ⟨gb289, 5, none⟩ = some (.int .i64 t308) := (blk_cell BK289.out 5).trans rfl
         have hcz29_6 : w20.cell? ⟨gb289, 6, none⟩ = some (.int .i64 t309) := (blk_cell BK289.out 6).trans rfl
         have hcz29_7 : w20.cell? ⟨gb289, 7, none⟩ = some (.int .i64 t310) := (blk_cell BK289.out 7).trans rfl
         have hcz29_8 : w20.cell? ⟨gb289, 8, none⟩ = some (.bool t311) := (blk_cell BK289.out 8).trans rfl
         have hfz29_0 := blk_frozen BK289.out 0
         have hfz29_1 := blk_frozen BK289.out 1
         have hfz29_2 := blk_frozen BK289.out 2
         have hfz29_3 := blk_frozen BK289.out 3
         have hfz29_4 := blk_frozen BK289.out 4
         have hfz29_5 := blk_frozen BK289.out 5
         have hfz29_6 := blk_frozen BK289.out 6
         have hfz29_7 := blk_frozen BK289.out 7
         have hfz29_8 := blk_frozen BK289.out 8
         go_wp2
         go_meet
         case rel => exact ⟨_, (true), (by first | rfl | (simp; done) | (simp [*]; done)), H', ⟨by have := HJ6.out; first | omega | exact Nat.le_refl _⟩, ⟨by (with_reducible repeat (first | refine blk_drewN ?_ _ | refine blk_drew ?_ | refine blk_alloc ?_ _)); refine blk_put (cs := #[.int .i64 t313, .int .i64 t314, .int .i64 t315, .int .i64 t316, .int .i64 t317, .int .i64 t318, .int .i64 t319, .int .i64 t320, .bool t311]) ?_ 8 _ rfl; (with_reducible repeat (first | refine blk_drewN ?_ _ | refine blk_drew ?_ | refine blk_alloc ?_ _)); refine blk_put (cs := #[.int .i64 t313, .int .i64 t314, .int .i64 t315, .int .i64 t316, .int .i64 t317, .int .i64 t318, .int .i64 t319, .int .i64 t310, .bool t311]) ?_ 7 _ rfl; (with_reducible repeat (first | refine blk_drewN ?_ _ | refine blk_drew ?_ | refine blk_alloc ?_ _)); refine blk_put (cs := #[.int .i64 t313, .int .i64 t314, .int .i64 t315, .int .i64 t316, .int .i64 t317, .int .i64 t318, .int .i64 t309, .int .i64 t310, .bool t311]) ?_ 6 _ rfl; (with_reducible repeat (first | refine blk_drewN ?_ _ | refine blk_drew ?_ | refine blk_alloc ?_ _)); refine blk_put (cs := #[.int .i64 t313, .int .i64 t314, .int .i64 t315, .int .i64 t316, .int .i64 t317, .int .i64 t308, .int .i64 t309, .int .i64 t310, .bool t311]) ?_ 5 _ rfl; (with_reducible repeat (first | refine blk_drewN ?_ _ | refine blk_drew ?_ | refine blk_alloc ?_ _)); refine blk_put (cs := #[.int .i64 t313, .int .i64 t314, .int .i64 t315, .int .i64 t316, .int .i64 t307, .int .i64 t308, .int .i64 t309, .int .i64 t310, .bool t311]) ?_ 4 _ rfl; (with_reducible repeat (first | refine blk_drewN ?_ _ | refine blk_drew ?_ | refine blk_alloc ?_ _)); refine blk_put (cs := #[.int .i64 t313, .int .i64 t314, .int .i64 t315, .int .i64 t306, .int .i64 t307, .int .i64 t308, .int .i64 t309, .int .i64 t310, .bool t311]) ?_ 3 _ rfl; (with_reducible repeat (first | refine blk_drewN ?_ _ | refine blk_drew ?_ | refine blk_alloc ?_ _)); refine blk_put (cs := #[.int .i64 t313, .int .i64 t314, .int .i64 t305, .int .i64 t306, .int .i64 t307, .int .i64 t308, .int .i64 t309, .int .i64 t310, .bool t311]) ?_ 2 _ rfl; (with_reducible repeat (first | refine blk_drewN ?_ _ | refine blk_drew ?_ | refine blk_alloc ?_ _)); refine blk_put (cs := #[.int .i64 t313, .int .i64 t304, .int .i64 t305, .int .i64 t306, .int .i64 t307, .int .i64 t308, .int .i64 t309, .int .i64 t310, .bool t311]) ?_ 1 _ rfl; (with_reducible repeat (first | refine blk_drewN ?_ _ | refine blk_drew ?_ | refine blk_alloc ?_ _)); refine blk_put (cs := #[.int .i64 t303, .int .i64 t304, .int .i64 t305, .int .i64 t306, .int .i64 t307, .int .i64 t308, .int .i64 t309, .int .i64 t310, .bool t311]) ?_ 0 _ rfl; (with_reducible repeat (first | refine blk_drewN ?_ _ | refine blk_drew ?_ | refine blk_alloc ?_ _)); exact BK289.out⟩, ⟨by repeat (first | (with_reducible first | exact HB.out | apply below_alloc | apply pw_below_drewN | apply below_drew1 | refine below_set ?_ GE289.out) | exact HB.out)⟩⟩
       ·
        replace c24 := Bool.eq_false_iff.mpr c24
        subst c24
        have H1 : (laws_FnCaptured.j1 kj6 x4_6 true t313 t314 t315 t316 t317 t318 t319 t320 t321) = some r := by rw [if_neg (show ¬ (false = true) by decide)] at H; exact H
        clear H
        have H := H1
        clear H1
        have H' := Aside0.mk H
        clear H
        go_wp2
        go_meet
        case rel => exact ⟨_, (true), (by first | rfl | (simp; done) | (simp [*]; done)), H', ⟨by have := HJ6.out; first | omega | exact Nat.le_refl _⟩, ⟨by (with_reducible repeat (first | refine blk_drewN ?_ _ | refine blk_drew ?_ | refine blk_alloc ?_ _)); refine blk_put (cs := #[.int .i64 t313, .int .i64 t314, .int .i64 t315, .int .i64 t316, .int .i64 t317, .int .i64 t318, .int .i64 t319, .int .i64 t320, .bool t311]) ?_ 8 _ rfl; (with_reducible repeat (first | refine blk_drewN ?_ _ | refine blk_drew ?_ | refine blk_alloc ?_ _)); refine blk_put (cs := #[.int .i64 t313, .int .i64 t314, .int .i64 t315, .int .i64 t316, .int .i64 t317, .int .i64 t318, .int .i64 t319, .int .i64 t310, .bool t311]) ?_ 7 _ rfl; (with_reducible repeat (first | refine blk_drewN ?_ _ | refine blk_drew ?_ | refine blk_alloc ?_ _)); refine blk_put (cs := #[.int .i64 t313, .int .i64 t314, .int .i64 t315, .int .i64 t316, .int .i64 t317, .int .i64 t318, .int .i64 t309, .int .i64 t310, .bool t311]) ?_ 6 _ rfl; (with_reducible repeat (first | refine blk_drewN ?_ _ | refine blk_drew ?_ | refine blk_alloc ?_ _)); refine blk_put (cs := #[.int .i64 t313, .int .i64 t314, .int .i64 t315, .int .i64 t316, .int .i64 t317, .int .i64 t308, .int .i64 t309, .int .i64 t310, .bool t311]) ?_ 5 _ rfl; (with_reducible repeat (first | refine blk_drewN ?_ _ | refine blk_drew ?_ | refine blk_alloc ?_ _)); refine blk_put (cs := #[.int .i64 t313, .int .i64 t314, .int .i64 t315, .int .i64 t316, .int .i64 t307, .int .i64 t308, .int .i64 t309, .int .i64 t310, .bool t311]) ?_ 4 _ rfl; (with_reducible repeat (first | refine blk_drewN ?_ _ | refine blk_drew ?_ | refine blk_alloc ?_ _)); refine blk_put (cs := #[.int .i64 t313, .int .i64 t314, .int .i64 t315, .int .i64 t306, .int .i64 t307, .int .i64 t308, .int .i64 t309, .int .i64 t310, .bool t311]) ?_ 3 _ rfl; (with_reducible repeat (first | refine blk_drewN ?_ _ | refine blk_drew ?_ | refine blk_alloc ?_ _)); refine blk_put (cs := #[.int .i64 t313, .int .i64 t314, .int .i64 t305, .int .i64 t306, .int .i64 t307, .int .i64 t308, .int .i64 t309, .int .i64 t310, .bool t311]) ?_ 2 _ rfl; (with_reducible repeat (first | refine blk_drewN ?_ _ | refine blk_drew ?_ | refine blk_alloc ?_ _)); refine blk_put (cs := #[.int .i64 t313, .int .i64 t304, .int .i64 t305, .int .i64 t306, .int .i64 t307, .int .i64 t308, .int .i64 t309, .int .i64 t310, .bool t311]) ?_ 1 _ rfl; (with_reducible repeat (first | refine blk_drewN ?_ _ | refine blk_drew ?_ | refine blk_alloc ?_ _)); refine blk_put (cs := #[.int .i64 t303, .int .i64 t304, .int .i64 t305, .int .i64 t306, .int .i64 t307, .int .i64 t308, .int .i64 t309, .int .i64 t310, .bool t311]) ?_ 0 _ rfl; (with_reducible repeat (first | refine blk_drewN ?_ _ | refine blk_drew ?_ | refine blk_alloc ?_ _)); exact BK289.out⟩, ⟨by repeat (first | (with_reducible first | exact HB.out | apply below_alloc | apply pw_below_drewN | apply below_drew1 | refine below_set ?_ GE289.out) | exact HB.out)⟩⟩
      ·
       replace c23 := Bool.eq_false_iff.mpr c23
       subst c23
       have H1 : (laws_FnCaptured.j1 kj6 x4_6 true t313 t314 t315 t316 t317 t318 t319 t320 t321) = some r := by rw [if_neg (show ¬ (false = true) by decide)] at H; exact H
       clear H
       have H := H1
       clear H1
       have H' := Aside0.mk H
       clear H
       go_wp2
       go_meet
       case rel => exact ⟨_, (true), (by first | rfl | (simp; done) | (simp [*]; done)), H', ⟨by have := HJ6.out; first | omega | exact Nat.le_refl _⟩, ⟨by (with_reducible repeat (first | refine blk_drewN ?_ _ | refine blk_drew ?_ | refine blk_alloc ?_ _)); refine blk_put (cs := #[.int .i64 t313, .int .i64 t314, .int .i64 t315, .int .i64 t316, .int .i64 t317, .int .i64 t318, .int .i64 t319, .int .i64 t320, .bool t311]) ?_ 8 _ rfl; (with_reducible repeat (first | refine blk_drewN ?_ _ | refine blk_drew ?_ | refine blk_alloc ?_ _)); refine blk_put (cs := #[.int .i64 t313, .int .i64 t314, .int .i64 t315, .int .i64 t316, .int .i64 t317, .int .i64 t318, .int .i64 t319, .int .i64 t310, .bool t311]) ?_ 7 _ rfl; (with_reducible repeat (first | refine blk_drewN ?_ _ | refine blk_drew ?_ | refine blk_alloc ?_ _)); refine blk_put (cs := #[.int .i64 t313, .int .i64 t314, .int .i64 t315, .int .i64 t316, .int .i64 t317, .int .i64 t318, .int .i64 t309, .int .i64 t310, .bool t311]) ?_ 6 _ rfl; (with_reducible repeat (first | refine blk_drewN ?_ _ | refine blk_drew ?_ | refine blk_alloc ?_ _)); refine blk_put (cs := #[.int .i64 t313, .int .i64 t314, .int .i64 t315, .int .i64 t316, .int .i64 t317, .int .i64 t308, .int .i64 t309, .int .i64 t310, .bool t311]) ?_ 5 _ rfl; (with_reducible repeat (first | refine blk_drewN ?_ _ | refine blk_drew ?_ | refine blk_alloc ?_ _)); refine blk_put (cs := #[.int .i64 t313, .int .i64 t314, .int .i64 t315, .int .i64 t316, .int .i64 t307, .int .i64 t308, .int .i64 t309, .int .i64 t310, .bool t311]) ?_ 4 _ rfl; (with_reducible repeat (first | refine blk_drewN ?_ _ | refine blk_drew ?_ | refine blk_alloc ?_ _)); refine blk_put (cs := #[.int .i64 t313, .int .i64 t314, .int .i64 t315, .int .i64 t306, .int .i64 t307, .int .i64 t308, .int .i64 t309, .int .i64 t310, .bool t311]) ?_ 3 _ rfl; (with_reducible repeat (first | refine blk_drewN ?_ _ | refine blk_drew ?_ | refine blk_alloc ?_ _)); refine blk_put (cs := #[.int .i64 t313, .int .i64 t314, .int .i64 t305, .int .i64 t306, .int .i64 t307, .int .i64 t308, .int .i64 t309, .int .i64 t310, .bool t311]) ?_ 2 _ rfl; (with_reducible repeat (first | refine blk_drewN ?_ _ | refine blk_drew ?_ | refine blk_alloc ?_ _)); refine blk_put (cs := #[.int .i64 t313, .int .i64 t304, .int .i64 t305, .int .i64 t306, .int .i64 t307, .int .i64 t308, .int .i64 t309, .int .i64 t310, .bool t311]) ?_ 1 _ rfl; (with_reducible repeat (first | refine blk_drewN ?_ _ | refine blk_drew ?_ | refine blk_alloc ?_ _)); refine blk_put (cs := #[.int .i64 t303, .int .i64 t304, .int .i64 t305, .int .i64 t306, .int .i64 t307, .int .i64 t308, .int .i64 t309, .int .i64 t310, .bool t311]) ?_ 0 _ rfl; (with_reducible repeat (first | refine blk_drewN ?_ _ | refine blk_drew ?_ | refine blk_alloc ?_ _)); exact BK289.out⟩, ⟨by repeat (first | (with_reducible first | exact HB.out | apply below_alloc | apply pw_below_drewN | apply below_drew1 | refine below_set ?_ GE289.out) | exact HB.out)⟩⟩
     ·
      replace c22 := Bool.eq_false_iff.mpr c22
      subst c22
      have H1 : (laws_FnCaptured.j1 kj6 x4_6 true t313 t314 t315 t316 t317 t318 t319 t320 t321) = some r := by rw [if_neg (show ¬ (false = true) by decide)] at H; exact H
      clear H
      have H := H1
      clear H1
      have H' := Aside0.mk H
      clear H
      go_wp2
      go_meet
      case rel => exact ⟨_, (true), (by first | rfl | (simp; done) | (simp [*]; done)), H', ⟨by have := HJ6.out; first | omega | exact Nat.le_refl _⟩, ⟨by (with_reducible repeat (first | refine blk_drewN ?_ _ | refine blk_drew ?_ | refine blk_alloc ?_ _)); refine blk_put (cs := #[.int .i64 t313, .int .i64 t314, .int .i64 t315, .int .i64 t316, .int .i64 t317, .int .i64 t318, .int .i64 t319, .int .i64 t320, .bool t311]) ?_ 8 _ rfl; (with_reducible repeat (first | refine blk_drewN ?_ _ | refine blk_drew ?_ | refine blk_alloc ?_ _)); refine blk_put (cs := #[.int .i64 t313, .int .i64 t314, .int .i64 t315, .int .i64 t316, .int .i64 t317, .int .i64 t318, .int .i64 t319, .int .i64 t310, .bool t311]) ?_ 7 _ rfl; (with_reducible repeat (first | refine blk_drewN ?_ _ | refine blk_drew ?_ | refine blk_alloc ?_ _)); refine blk_put (cs := #[.int .i64 t313, .int .i64 t314, .int .i64 t315, .int .i64 t316, .int .i64 t317, .int .i64 t318, .int .i64 t309, .int .i64 t310, .bool t311]) ?_ 6 _ rfl; (with_reducible repeat (first | refine blk_drewN ?_ _ | refine blk_drew ?_ | refine blk_alloc ?_ _)); refine blk_put (cs := #[.int .i64 t313, .int .i64 t314, .int .i64 t315, .int .i64 t316, .int .i64 t317, .int .i64 t308, .int .i64 t309, .int .i64 t310, .bool t311]) ?_ 5 _ rfl; (with_reducible repeat (first | refine blk_drewN ?_ _ | refine blk_drew ?_ | refine blk_alloc ?_ _)); refine blk_put (cs := #[.int .i64 t313, .int .i64 t314, .int .i64 t315, .int .i64 t316, .int .i64 t307, .int .i64 t308, .int .i64 t309, .int .i64 t310, .bool t311]) ?_ 4 _ rfl; (with_reducible repeat (first | refine blk_drewN ?_ _ | refine blk_drew ?_ | refine blk_alloc ?_ _)); refine blk_put (cs := #[.int .i64 t313, .int .i64 t314, .int .i64 t315, .int .i64 t306, .int .i64 t307, .int .i64 t308, .int .i64 t309, .int .i64 t310, .bool t311]) ?_ 3 _ rfl; (with_reducible repeat (first | refine blk_drewN ?_ _ | refine blk_drew ?_ | refine blk_alloc ?_ _)); refine blk_put (cs := #[.int .i64 t313, .int .i64 t314, .int .i64 t305, .int .i64 t306, .int .i64 t307, .int .i64 t308, .int .i64 t309, .int .i64 t310, .bool t311]) ?_ 2 _ rfl; (with_reducible repeat (first | refine blk_drewN ?_ _ | refine blk_drew ?_ | refine blk_alloc ?_ _)); refine blk_put (cs := #[.int .i64 t313, .int .i64 t304, .int .i64 t305, .int .i64 t306, .int .i64 t307, .int .i64 t308, .int .i64 t309, .int .i64 t310, .bool t311]) ?_ 1 _ rfl; (with_reducible repeat (first | refine blk_drewN ?_ _ | refine blk_drew ?_ | refine blk_alloc ?_ _)); refine blk_put (cs := #[.int .i64 t303, .int .i64 t304, .int .i64 t305, .int .i64 t306, .int .i64 t307, .int .i64 t308, .int .i64 t309, .int .i64 t310, .bool t311]) ?_ 0 _ rfl; (with_reducible repeat (first | refine blk_drewN ?_ _ | refine blk_drew ?_ | refine blk_alloc ?_ _)); exact BK289.out⟩, ⟨by repeat (first | (with_reducible first | exact HB.out | apply below_alloc | apply pw_below_drewN | apply below_drew1 | refine below_set ?_ GE289.out) | exact HB.out)⟩⟩
    case rest =>
     clear HC14
     try clear c1
     try clear c2
     try clear p2
     try clear c3
     try clear c4
     try clear p6
     try clear c10
     try clear c10b0
     try clear c10b1
     try clear c12
     try clear c13
     try clear c14
     try clear c22
     try clear c23
     try clear c24
     try clear c25
     try clear c25b0
     try clear c25b1
     try clear hcz15_0
     try clear hcz15_1
     try clear hcz15_2
     try clear hcz15_3
     try clear hcz15_4
     try clear hcz15_5
     try clear hcz15_6
     try clear hcz15_7
     try clear hcz15_8
     try clear hcz17_0
     try clear hcz17_1
     try clear hcz17_2
     try clear hcz17_3
     try clear hcz17_4
     try clear hcz17_5
     try clear hcz17_6
     try clear hcz17_7
     try clear hcz17_8
     try clear hcz19_0
     try clear hcz19_1
     try clear hcz19_2
     try clear hcz19_3
     try clear hcz19_4
     try clear hcz19_5
     try clear hcz19_6
     try clear hcz19_7
     try clear hcz19_8
     try clear hcz21_0
     try clear hcz21_1
     try clear hcz21_2
     try clear hcz21_3
     try clear hcz21_4
     try clear hcz21_5
     try clear hcz21_6
     try clear hcz21_7
     try clear hcz21_8
     try clear hcz27_0
     try clear hcz27_1
     try clear hcz27_2
     try clear hcz27_3
     try clear hcz27_4
     try clear hcz27_5
     try clear hcz27_6
     try clear hcz27_7
     try clear hcz27_8
     try clear hcz29_0
     try clear hcz29_1
     try clear hcz29_2
     try clear hcz29_3
     try clear hcz29_4
     try clear hcz29_5
     try clear hcz29_6
     try clear hcz29_7
     try clear hcz29_8
     try clear hcz9_0
     try clear hcz9_1
     try clear hcz9_2
     try clear hcz9_3
     try clear hcz9_4
     try clear hcz9_5
     try clear hcz9_6
     try clear hcz9_7
     try clear hcz9_8
     try clear hfz15_0
     try clear hfz15_1
     try clear hfz15_2
     try clear hfz15_3
     try clear hfz15_4
     try clear hfz15_5
     try clear hfz15_6
     try clear hfz15_7
     try clear hfz15_8
     try clear hfz17_0
     try clear hfz17_1
     try clear hfz17_2
     try clear hfz17_3
     try clear hfz17_4
     try clear hfz17_5
     try clear hfz17_6
     try clear hfz17_7
     try clear hfz17_8
     try clear hfz19_0
     try clear hfz19_1
     try clear hfz19_2
     try clear hfz19_3
     try clear hfz19_4
     try clear hfz19_5
     try clear hfz19_6
     try clear hfz19_7
     try clear hfz19_8
     try clear hfz21_0
     try clear hfz21_1
     try clear hfz21_2
     try clear hfz21_3
     try clear hfz21_4
     try clear hfz21_5
     try clear hfz21_6
     try clear hfz21_7
     try clear hfz21_8
     try clear hfz27_0
     try clear hfz27_1
     try clear hfz27_2
     try clear hfz27_3
     try clear hfz27_4
     try clear hfz27_5
     try clear hfz27_6
     try clear hfz27_7
     try clear hfz27_8
     try clear hfz29_0
     try clear hfz29_1
     try clear hfz29_2
     try clear hfz29_3
     try clear hfz29_4
     try clear hfz29_5
     try clear hfz29_6
     try clear hfz29_7
     try clear hfz29_8
     try clear hfz9_0
     try clear hfz9_1
     try clear hfz9_2
     try clear hfz9_3
     try clear hfz9_4
     try clear hfz9_5
     try clear hfz9_6
     try clear hfz9_7
     try clear hfz9_8
     try clear p2
     try clear p6
     obtain ⟨kq, x72_13, rfl, HA, HJ13, BK289, HB⟩ := hcut
     cases kq with
     | zero => exact absurd HA.out (by simp [laws_FnCaptured.j1])
     | succ kj13 =>
      have H := HA.out
      clear HA
      simp only [laws_FnCaptured.j1] at H
      by_cases c30 : x72_13 = true
      ·
       subst c30
       have H1 : (some false) = some r := by rw [if_pos rfl] at H; exact H
       clear H
       have H := H1
       clear H1
       obtain rfl := Option.some.inj H
       go_wp2
       go_ret
       exact ⟨by first | rfl | (simp [errW_none, errW_some] <;> rfl) | (simp [*, errW_none, errW_some] <;> rfl), by repeat (first | (with_reducible first | exact HB.out | apply below_alloc | apply pw_below_drewN | apply below_drew1 | refine below_set ?_ GE289.out) | exact HB.out)⟩
      ·
       replace c30 := Bool.eq_false_iff.mpr c30
       subst c30
       have H1 : (if 300 ≤ 35184372088832 then ((impl_Ticks.f kj13 t313 t314 t315 t316 t317 t318 t319 t320 t321 (List.replicate 300 0)).bind fun bt327 => (if bt327.2 = true then (laws_FnCaptured.j2 kj13 x4_6 bt327.1 ((bt327.1.length : Int) != 300) t313 t314 t315 t316 t317 t318 t319 t320 t321) else (laws_FnCaptured.j2 kj13 x4_6 bt327.1 true t313 t314 t315 t316 t317 t318 t319 t320 t321))) else (none)) = some r := by rw [if_neg (show ¬ (false = true) by decide)] at H; exact H
       clear H
       have H := H1
       clear H1
       by_cases c31 : 300 ≤ 35184372088832
       ·
        rw [if_pos c31] at H
        have c31b0 := eq_true c31
        have c31b1 : decide (300 ≤ 35184372088832) = true := decide_eq_true c31
        clear c31
        obtain ⟨y324, hy324⟩ : ∃ y_ : List Int, y_ = (List.replicate 300 0) := ⟨_, rfl⟩
        replace H : ((impl_Ticks.f kj13 t313 t314 t315 t316 t317 t318 t319 t320 t321 y324).bind fun bt327 => (if bt327.2 = true then (laws_FnCaptured.j2 kj13 x4_6 bt327.1 ((bt327.1.length : Int) != 300) t313 t314 t315 t316 t317 t318 t319 t320 t321) else (laws_FnCaptured.j2 kj13 x4_6 bt327.1 true t313 t314 t315 t316 t317 t318 t319 t320 t321))) = some r := by first | (rw [hy324]; with_reducible exact H) | (have H2_ := (Option.bind_some _ _).symm.trans H; rw [hy324]; with_reducible exact H2_) | (have H2_ := (Option.bind_some _ _).symm.trans H; with_reducible exact H2_) | with_reducible exact H | (rw [hy324]; exact H) | exact H
        have Ny324 := Aside0.mk hy324
        clear hy324
        replace H := Option.bind_eq_some_iff.mp H
        obtain ⟨⟨t327, t330⟩, A320, H⟩ := H
        replace H : (if t330 = true then (laws_FnCaptured.j2 kj13 x4_6 t327 ((t327.length : Int) != 300) t313 t314 t315 t316 t317 t318 t319 t320 t321) else (laws_FnCaptured.j2 kj13 x4_6 t327 true t313 t314 t315 t316 t317 t318 t319 t320 t321)) = some r := H
        have A32 := Aside0.mk A320
        clear A320
        have HC33 := Aside0.mk H
        clear H
        try go_wp2
        have n0_ := Aside0.mk (blk_drew BK289.out)
        have n1_ := Aside0.mk (below_drew1 HB.out)
        clear BK289
        clear HB
        have BK289 := n0_
        have HB := n1_
        clear n0_ n1_
        refine start_ (n := 8) (S := fun w' => w'.cell? ⟨gb289, 0, none⟩ = some (.int .i64 t313) ∧ w'.cell? ⟨gb289, 1, none⟩ = some (.int .i64 t314) ∧ w'.cell? ⟨gb289, 2, none⟩ = some (.int .i64 t315) ∧ w'.cell? ⟨gb289, 3, none⟩ = some (.int .i64 t316) ∧ w'.cell? ⟨gb289, 4, none⟩ = some (.int .i64 t317) ∧ w'.cell? ⟨gb289, 5, none⟩ = some (.int .i64 t318) ∧ w'.cell? ⟨gb289, 6, none⟩ = some (.int .i64 t319) ∧ w'.cell? ⟨gb289, 7, none⟩ = some (.int .i64 t320) ∧ w'.cell? ⟨gb289, 8, none⟩ = some (.bool t321)) (ds := []) #[f10, f10, f10, f10, f10, f10, f10, f10] (by kernel_rfl) rfl rfl ⟨(blk_cell BK289.out 0).trans rfl, (blk_cell BK289.out 1).trans rfl, (blk_cell BK289.out 2).trans rfl, (blk_cell BK289.out 3).trans rfl, (blk_cell BK289.out 4).trans rfl, (blk_cell BK289.out 5).trans rfl, (blk_cell BK289.out 6).trans rfl, (blk_cell BK289.out 7).trans rfl, (blk_cell BK289.out 8).trans rfl⟩ (fun hHeld => ?_); refine with_tabW laws_FnCaptured.tab15 laws_FnCaptured.bits15 (fun HT_ HW_ => ?_)
        generalize wc.drew = w34 at BK289 HB hHeld ⊢
        refine take_ (i := 0) (N := some 74) (v := ?_) (a' := ?_) #[t10, f10, f10, f10, f10, f10, f10, f10] rfl rfl (take_ofW HT_.out HW_.out (by kernel_rfl)) (fun _ _ _ h => h) (Or.inl ⟨by rfl, ?_⟩) hHeld ?_ ?_
        rotate_left
        ·
         rintro w' ⟨s0, s1, s2, s3, s4, s5, s6, s7, s8⟩
         go_simp
         with_reducible rfl
        rotate_left
        ·
         simp only [Act.put, List.setIfInBounds_toArray, List.set_cons_zero, List.set_cons_succ, i64_w, i32_w]
         rfl
        refine one_ (i := 1) (N := some 75) #[t10, t10, f10, f10, f10, f10, f10, f10] rfl rfl (one_of HT_.out (by kernel_rfl)) (by decide) (fun K hK => ?_)
        refine Kd.R_make_step (Kd.int .i64) _ 3 (by rfl) (N := 75) rfl 36 _ _ rfl 300 rfl rfl Try.underlying36 (.int .i64 0) 8 info3 rfl (by decide) (by omega) 0 (ok := fun _ => True) (okp := fun _ => True) rfl (fun _ hk => hk) trivial (by omega) (by omega) (Below.refl _ _) (Nat.le_refl _) ?_
        intro v325 w35 ho36 hb hg_ hnew_
        clear hg_ hnew_
        (first | rw [← Ny324.out] at ho36 | (simp only [Int.reduceToNat] at ho36; rw [← Ny324.out] at ho36))
        have n0_ := Aside0.mk (Kd.R_lower ho36 (below_size (by repeat (first | (with_reducible first | exact HB.out | apply below_alloc | apply pw_below_drewN | apply below_drew1 | refine below_set ?_ GE289.out) | exact HB.out))))
        have n1_ := Aside0.mk (blk_below (g := gb289) (o := .cells #[.int .i64 t313, .int .i64 t314, .int .i64 t315, .int .i64 t316, .int .i64 t317, .int .i64 t318, .int .i64 t319, .int .i64 t320, .bool t321] 25 (0, 0)) (by (with_reducible repeat (first | refine blk_drewN ?_ _ | refine blk_drew ?_ | refine blk_alloc ?_ _)); exact BK289.out) hb)
        have n2_ := Aside0.mk (below_step (by repeat (first | (with_reducible first | exact HB.out | apply below_alloc | apply pw_below_drewN | apply below_drew1 | refine below_set ?_ GE289.out) | exact HB.out)) hb)
        clear BK289
        clear HB
        have HO326 := n0_
        have BK289 := n1_
        have HB := n2_
        clear n0_ n1_ n2_
        clear hb ho36
        obtain ⟨Ao37, co37, eo37⟩ := Kd.R_slice HO326.out
        (first | subst eo37 | (injection eo37 with f1_ f2_ f3_; have f4_ := f1_.symm; have f5_ := f3_.symm; clear f1_ f2_ f3_; subst f4_; subst f5_))
        refine hK.out _ _ ⟨(blk_cell BK289.out 0).trans rfl, (blk_cell BK289.out 1).trans rfl, (blk_cell BK289.out 2).trans rfl, (blk_cell BK289.out 3).trans rfl, (blk_cell BK289.out 4).trans rfl, (blk_cell BK289.out 5).trans rfl, (blk_cell BK289.out 6).trans rfl, (blk_cell BK289.out 7).trans rfl, (blk_cell BK289.out 8).trans rfl⟩ (fun hHeld => ?_)
        clear hK K
        refine norm_ (a' := ?_) ?_ ?_
        rotate_left
        ·
         show Act.put _ (some 75) _ = _
         simp only [Act.put, List.setIfInBounds_toArray, List.set_cons_zero, List.set_cons_succ, i64_w, i32_w]
         rfl
        refine one_ (i := 2) (N := some 76) #[t10, t10, t10, f10, f10, f10, f10, f10] rfl rfl (one_of HT_.out (by kernel_rfl)) (by decide) (fun K hK => ?_)
        refine goes_ Try.func15 (by kernel_rfl) rfl #[.agg #[.int .i64 t313, .int .i64 t314, .int .i64 t315, .int .i64 t316, .int .i64 t317, .int .i64 t318, .int .i64 t319, .int .i64 t320, .bool t321], .slice Ao37 y324.length co37] (by rfl) rfl rfl (by (try simp only [List.map_toArray, List.map_cons, List.map_nil]); first | done | rfl | (simp only [List.length_drop, List.length_take]; rfl)) ?_
        with_reducible refine (impl_Ticks.calls kj13 t313 t314 t315 t316 t317 t318 t319 t320 t321 _ _ y324 t327 t330 _ ?side1 ?side2 A32.out).mono ?_
        (case side1 => repeat (first | exact (Kd.R_reads' HO326.out).2.2 | (with_reducible refine Kd.C_alloc ?_ _) | (with_reducible refine Kd.C_drewN ?_ _) | (with_reducible refine Kd.C_drew ?_)))
        (case side2 => exact (Kd.R_reads' HO326.out).2.1)
        rintro e w38 ⟨v328, rfl, ho0, hb⟩
        refine ⟨_, rfl, ?_⟩
        have n0_ := Aside0.mk (Kd.R_below (by (with_reducible repeat (first | apply Kd.R_alloc | apply Kd.R_drewN | apply Kd.R_drew)); exact HO326.out) hb)
        have n1_ := Aside0.mk (Kd.R_lower (Kd.R_newB ho0 (g := gb289) (o := .cells #[.int .i64 t313, .int .i64 t314, .int .i64 t315, .int .i64 t316, .int .i64 t317, .int .i64 t318, .int .i64 t319, .int .i64 t320, .bool t321] 25 (0, 0)) (by (with_reducible repeat (first | refine blk_drewN ?_ _ | refine blk_drew ?_ | refine blk_alloc ?_ _)); exact BK289.out)) (below_size (by repeat (first | (with_reducible first | exact HB.out | apply below_alloc | apply pw_below_drewN | apply below_drew1 | refine below_set ?_ GE289.out) | exact HB.out))))
        have n2_ := Aside0.mk (blk_below (g := gb289) (o := .cells #[.int .i64 t313, .int .i64 t314, .int .i64 t315, .int .i64 t316, .int .i64 t317, .int .i64 t318, .int .i64 t319, .int .i64 t320, .bool t321] 25 (0, 0)) (by (with_reducible repeat (first | refine blk_drewN ?_ _ | refine blk_drew ?_ | refine blk_alloc ?_ _)); exact BK289.out) hb)
        have n3_ := Aside0.mk (below_step (by repeat (first | (with_reducible first | exact HB.out | apply below_alloc | apply pw_below_drewN | apply below_drew1 | refine below_set ?_ GE289.out) | exact HB.out)) hb)
        clear HO326
        clear BK289
        clear HB
        have HO326 := n0_
        have HO329 := n1_
        have BK289 := n2_
        have HB := n3_
        clear n0_ n1_ n2_ n3_
        (try clear hb)
        (try clear hb2)
        (try clear hk)
        (try clear hi)
        (try clear ho0)
        refine hK.out _ _ ⟨(blk_cell BK289.out 0).trans rfl, (blk_cell BK289.out 1).trans rfl, (blk_cell BK289.out 2).trans rfl, (blk_cell BK289.out 3).trans rfl, (blk_cell BK289.out 4).trans rfl, (blk_cell BK289.out 5).trans rfl, (blk_cell BK289.out 6).trans rfl, (blk_cell BK289.out 7).trans rfl, (blk_cell BK289.out 8).trans rfl⟩ (fun hHeld => ?_)
        clear hK K
        refine norm_ (a' := ?_) ?_ ?_
        rotate_left
        ·
         show Act.put _ (some 76) _ = _
         simp only [Act.put, List.setIfInBounds_toArray, List.set_cons_zero, List.set_cons_succ, i64_w, i32_w]
         rfl
        refine pure_ (i := 3) (N := some 73) (v := ?_) (a' := ?_) #[t10, t10, t10, t10, f10, f10, f10, f10] rfl rfl (any_of HT_.out (by kernel_rfl)) (fun _ _ _ h => h) (Or.inl ⟨by rfl, ?_⟩) ?_ ?_
        rotate_left
        ·
         intro w'
         go_simp
         with_reducible rfl
        rotate_left
        ·
         simp only [Act.put, List.setIfInBounds_toArray, List.set_cons_zero, List.set_cons_succ, i64_w, i32_w]
         rfl
        refine pure_ (i := 4) (N := some 77) (v := ?_) (a' := ?_) #[t10, t10, t10, t10, t10, f10, f10, f10] rfl rfl (any_of HT_.out (by kernel_rfl)) (fun _ _ _ h => h) (Or.inl ⟨by rfl, ?_⟩) ?_ ?_
        rotate_left
        ·
         intro w'
         go_simp
         with_reducible rfl
        rotate_left
        ·
         simp only [Act.put, List.setIfInBounds_toArray, List.set_cons_zero, List.set_cons_succ, i64_w, i32_w]
         rfl
        refine pure_ (i := 5) (N := some 78) (v := ?_) (a' := ?_) #[t10, t10, t10, t10, t10, t10, f10, f10] rfl rfl (any_of HT_.out (by kernel_rfl)) (fun _ _ _ h => h) (Or.inl ⟨by rfl, ?_⟩) ?_ ?_
        rotate_left
        ·
         intro w'
         go_simp
         with_reducible rfl
        rotate_left
        ·
         simp only [Act.put, List.setIfInBounds_toArray, List.set_cons_zero, List.set_cons_succ, i64_w, i32_w]
         rfl
        refine pure_ (i := 6) (N := some 9) (v := ?_) (a' := ?_) #[t10, t10, t10, t10, t10, t10, t10, f10] rfl rfl (any_of HT_.out (by kernel_rfl)) (fun _ _ _ h => h) (Or.inl ⟨by rfl, ?_⟩) ?_ ?_
        rotate_left
        ·
         intro w'
         go_simp
         with_reducible rfl
        rotate_left
        ·
         simp only [Act.put, List.setIfInBounds_toArray, List.set_cons_zero, List.set_cons_succ, i64_w, i32_w]
         rfl
        refine pure_ (i := 7) (N := some 10) (v := ?_) (a' := ?_) #[t10, t10, t10, t10, t10, t10, t10, t10] rfl rfl (any_of HT_.out (by kernel_rfl)) (fun _ _ _ h => h) (Or.inl ⟨by rfl, ?_⟩) ?_ ?_
        rotate_left
        ·
         intro w'
         go_simp
         with_reducible rfl
        rotate_left
        ·
         simp only [Act.put, List.setIfInBounds_toArray, List.set_cons_zero, List.set_cons_succ, i64_w, i32_w]
         rfl
        refine done_ (done_of HT_.out (by kernel_rfl)) ?_
        go_upto_region 16 with (fail)
        go_cut [85] (fun v85 wc => ∃ (kq : Nat) (x85_32 : Bool), v85 = .bool x85_32 ∧ Aside0 (laws_FnCaptured.j2 kq x4_6 t327 x85_32 t313 t314 t315 t316 t317 t318 t319 t320 t321 = some r) ∧ Aside0 (kq ≤ kj13) ∧ Aside0 (Kd.R k25 25 wc w.heap.size (fun k_ => k_ ≠ gb289) v328 t327) ∧ Aside0 (wc.heap[gb289]? = some (.cells #[.int .i64 t313, .int .i64 t314, .int .i64 t315, .int .i64 t316, .int .i64 t317, .int .i64 t318, .int .i64 t319, .int .i64 t320, .bool t321] 25 (0, 0))) ∧ Aside0 (Below w.heap.size w wc))
        case first =>
         have H := HC33.out
         clear HC33
         by_cases c39 : t330 = true
         ·
          subst c39
          have H1 : (laws_FnCaptured.j2 kj13 x4_6 t327 ((t327.length : Int) != 300) t313 t314 t315 t316 t317 t318 t319 t320 t321) = some r := by rw [if_pos rfl] at H; exact H
          clear H
          have H := H1
          clear H1
          have H' := Aside0.mk H
          clear H
          obtain ⟨Ao40, co40, eo40⟩ := Kd.R_slice HO329.out
          subst eo40
          go_wp2
          go_meet
          case rel => exact ⟨_, (((t327.length : Int) != 300)), (by first | rfl | (simp; done) | (simp [*]; done)), H', ⟨by have := HJ6.out; have := HJ13.out; first | omega | exact Nat.le_refl _⟩, ⟨by (with_reducible repeat (first | apply Kd.R_alloc | apply Kd.R_drewN | apply Kd.R_drew)); exact Kd.R_mono HO329.out (fun _ hk => hk.2)⟩, ⟨by (with_reducible repeat (first | refine blk_drewN ?_ _ | refine blk_drew ?_ | refine blk_alloc ?_ _)); exact BK289.out⟩, ⟨by repeat (first | (with_reducible first | exact HB.out | apply below_alloc | apply pw_below_drewN | apply below_drew1 | refine below_set ?_ GE289.out) | exact HB.out)⟩⟩
         ·
          replace c39 := Bool.eq_false_iff.mpr c39
          subst c39
          have H1 : (laws_FnCaptured.j2 kj13 x4_6 t327 true t313 t314 t315 t316 t317 t318 t319 t320 t321) = some r := by rw [if_neg (show ¬ (false = true) by decide)] at H; exact H
          clear H
          have H := H1
          clear H1
          have H' := Aside0.mk H
          clear H
          go_wp2
          go_meet
          case rel => exact ⟨_, (true), (by first | rfl | (simp; done) | (simp [*]; done)), H', ⟨by have := HJ6.out; have := HJ13.out; first | omega | exact Nat.le_refl _⟩, ⟨by (with_reducible repeat (first | apply Kd.R_alloc | apply Kd.R_drewN | apply Kd.R_drew)); exact Kd.R_mono HO329.out (fun _ hk => hk.2)⟩, ⟨by (with_reducible repeat (first | refine blk_drewN ?_ _ | refine blk_drew ?_ | refine blk_alloc ?_ _)); exact BK289.out⟩, ⟨by repeat (first | (with_reducible first | exact HB.out | apply below_alloc | apply pw_below_drewN | apply below_drew1 | refine below_set ?_ GE289.out) | exact HB.out)⟩⟩
        case rest =>
         clear HC33
         try clear c1
         try clear c2
         try clear p2
         try clear c3
         try clear c4
         try clear p6
         try clear c10
         try clear c10b0
         try clear c10b1
         try clear c12
         try clear c13
         try clear c14
         try clear c15
         try clear c22
         try clear c23
         try clear c24
         try clear c25
         try clear c25b0
         try clear c25b1
         try clear c30
         try clear c31
         try clear c31b0
         try clear c31b1
         try clear c39
         try clear hcz15_0
         try clear hcz15_1
         try clear hcz15_2
         try clear hcz15_3
         try clear hcz15_4
         try clear hcz15_5
         try clear hcz15_6
         try clear hcz15_7
         try clear hcz15_8
         try clear hcz17_0
         try clear hcz17_1
         try clear hcz17_2
         try clear hcz17_3
         try clear hcz17_4
         try clear hcz17_5
         try clear hcz17_6
         try clear hcz17_7
         try clear hcz17_8
         try clear hcz19_0
         try clear hcz19_1
         try clear hcz19_2
         try clear hcz19_3
         try clear hcz19_4
         try clear hcz19_5
         try clear hcz19_6
         try clear hcz19_7
         try clear hcz19_8
         try clear hcz21_0
         try clear hcz21_1
         try clear hcz21_2
         try clear hcz21_3
         try clear hcz21_4
         try clear hcz21_5
         try clear hcz21_6
         try clear hcz21_7
         try clear hcz21_8
         try clear hcz27_0
         try clear hcz27_1
         try clear hcz27_2
         try clear hcz27_3
         try clear hcz27_4
         try clear hcz27_5
         try clear hcz27_6
         try clear hcz27_7
         try clear hcz27_8
         try clear hcz29_0
         try clear hcz29_1
         try clear hcz29_2
         try clear hcz29_3
         try clear hcz29_4
         try clear hcz29_5
         try clear hcz29_6
         try clear hcz29_7
         try clear hcz29_8
         try clear hcz9_0
         try clear hcz9_1
         try clear hcz9_2
         try clear hcz9_3
         try clear hcz9_4
         try clear hcz9_5
         try clear hcz9_6
         try clear hcz9_7
         try clear hcz9_8
         try clear hfz15_0
         try clear hfz15_1
         try clear hfz15_2
         try clear hfz15_3
         try clear hfz15_4
         try clear hfz15_5
         try clear hfz15_6
         try clear hfz15_7
         try clear hfz15_8
         try clear hfz17_0
         try clear hfz17_1
         try clear hfz17_2
         try clear hfz17_3
         try clear hfz17_4
         try clear hfz17_5
         try clear hfz17_6
         try clear hfz17_7
         try clear hfz17_8
         try clear hfz19_0
         try clear hfz19_1
         try clear hfz19_2
         try clear hfz19_3
         try clear hfz19_4
         try clear hfz19_5
         try clear hfz19_6
         try clear hfz19_7
         try clear hfz19_8
         try clear hfz21_0
         try clear hfz21_1
         try clear hfz21_2
         try clear hfz21_3
         try clear hfz21_4
         try clear hfz21_5
         try clear hfz21_6
         try clear hfz21_7
         try clear hfz21_8
         try clear hfz27_0
         try clear hfz27_1
         try clear hfz27_2
         try clear hfz27_3
         try clear hfz27_4
         try clear hfz27_5
         try clear hfz27_6
         try clear hfz27_7
         try clear hfz27_8
         try clear hfz29_0
         try clear hfz29_1
         try clear hfz29_2
         try clear hfz29_3
         try clear hfz29_4
         try clear hfz29_5
         try clear hfz29_6
         try clear hfz29_7
         try clear hfz29_8
         try clear hfz9_0
         try clear hfz9_1
         try clear hfz9_2
         try clear hfz9_3
         try clear hfz9_4
         try clear hfz9_5
         try clear hfz9_6
         try clear hfz9_7
         try clear hfz9_8
         try clear p2
         try clear p6
         obtain ⟨kq, x85_32, rfl, HA, HJ32, HO_9, BK289, HB⟩ := hcut
         cases kq with
         | zero => exact absurd HA.out (by simp [laws_FnCaptured.j2])
         | succ kj32 =>
          have H := HA.out
          clear HA
          simp only [laws_FnCaptured.j2] at H
          by_cases c41 : x85_32 = true
          ·
           subst c41
           have H1 : (some false) = some r := by rw [if_pos rfl] at H; exact H
           clear H
           have H := H1
           clear H1
           obtain rfl := Option.some.inj H
           go_wp2
           go_ret
           exact ⟨by first | rfl | (simp [errW_none, errW_some] <;> rfl) | (simp [*, errW_none, errW_some] <;> rfl), by repeat (first | (with_reducible first | exact HB.out | apply below_alloc | apply pw_below_drewN | apply below_drew1 | refine below_set ?_ GE289.out) | exact HB.out)⟩
          ·
           replace c41 := Bool.eq_false_iff.mpr c41
           subst c41
           have H1 : (laws_FnCaptured.l0 kj32 x4_6 t327 0 t313 t314 t315 t316 t317 t318 t319 t320 t321) = some r := by rw [if_neg (show ¬ (false = true) by decide)] at H; exact H
           clear H
           have H := H1
           clear H1
           have H' := Aside0.mk H
           clear H
           go_wp2
           go_loopg [11] kj32 (fun kq v11 w' => ∃ (x11_4 : Int), v11 = .int .i64 x11_4 ∧ Aside0 (laws_FnCaptured.l0 kq x4_6 t327 x11_4 t313 t314 t315 t316 t317 t318 t319 t320 t321 = some r) ∧ Aside0 (kq ≤ kj32) ∧ Aside0 (Kd.R k25 25 w' w.heap.size (fun k_ => k_ ≠ gb289) v328 t327) ∧ Aside0 (w'.heap[gb289]? = some (.cells #[.int .i64 t313, .int .i64 t314, .int .i64 t315, .int .i64 t316, .int .i64 t317, .int .i64 t318, .int .i64 t319, .int .i64 t320, .bool t321] 25 (0, 0))) ∧ Aside0 (Below w.heap.size w w'))
           case atStart => exact ⟨(0), (by first | rfl | (simp; done) | (simp [*]; done)), H', ⟨Nat.le_refl _⟩, ⟨by (with_reducible repeat (first | apply Kd.R_alloc | apply Kd.R_drewN | apply Kd.R_drew)); exact HO_9.out⟩, ⟨by (with_reducible repeat (first | refine blk_drewN ?_ _ | refine blk_drew ?_ | refine blk_alloc ?_ _)); exact BK289.out⟩, ⟨by repeat (first | (with_reducible first | exact HB.out | apply below_alloc | apply pw_below_drewN | apply below_drew1 | refine below_set ?_ GE289.out) | exact HB.out)⟩⟩
           case round =>
            clear H'
            try clear c1
            try clear c2
            try clear p2
            try clear c3
            try clear c4
            try clear p6
            try clear c10
            try clear c10b0
            try clear c10b1
            try clear c12
            try clear c13
            try clear c14
            try clear c15
            try clear c22
            try clear c23
            try clear c24
            try clear c25
            try clear c25b0
            try clear c25b1
            try clear c30
            try clear c31
            try clear c31b0
            try clear c31b1
            try clear c39
            try clear c41
            try clear hcz15_0
            try clear hcz15_1
            try clear hcz15_2
            try clear hcz15_3
            try clear hcz15_4
            try clear hcz15_5
            try clear hcz15_6
            try clear hcz15_7
            try clear hcz15_8
            try clear hcz17_0
            try clear hcz17_1
            try clear hcz17_2
            try clear hcz17_3
            try clear hcz17_4
            try clear hcz17_5
            try clear hcz17_6
            try clear hcz17_7
            try clear hcz17_8
            try clear hcz19_0
            try clear hcz19_1
            try clear hcz19_2
            try clear hcz19_3
            try clear hcz19_4
            try clear hcz19_5
            try clear hcz19_6
            try clear hcz19_7
            try clear hcz19_8
            try clear hcz21_0
            try clear hcz21_1
            try clear hcz21_2
            try clear hcz21_3
            try clear hcz21_4
            try clear hcz21_5
            try clear hcz21_6
            try clear hcz21_7
            try clear hcz21_8
            try clear hcz27_0
            try clear hcz27_1
            try clear hcz27_2
            try clear hcz27_3
            try clear hcz27_4
            try clear hcz27_5
            try clear hcz27_6
            try clear hcz27_7
            try clear hcz27_8
            try clear hcz29_0
            try clear hcz29_1
            try clear hcz29_2
            try clear hcz29_3
            try clear hcz29_4
            try clear hcz29_5
            try clear hcz29_6
            try clear hcz29_7
            try clear hcz29_8
            try clear hcz9_0
            try clear hcz9_1
            try clear hcz9_2
            try clear hcz9_3
            try clear hcz9_4
            try clear hcz9_5
            try clear hcz9_6
            try clear hcz9_7
            try clear hcz9_8
            try clear hfz15_0
            try clear hfz15_1
            try clear hfz15_2
            try clear hfz15_3
            try clear hfz15_4
            try clear hfz15_5
            try clear hfz15_6
            try clear hfz15_7
            try clear hfz15_8
            try clear hfz17_0
            try clear hfz17_1
            try clear hfz17_2
            try clear hfz17_3
            try clear hfz17_4
            try clear hfz17_5
            try clear hfz17_6
            try clear hfz17_7
            try clear hfz17_8
            try clear hfz19_0
            try clear hfz19_1
            try clear hfz19_2
            try clear hfz19_3
            try clear hfz19_4
            try clear hfz19_5
            try clear hfz19_6
            try clear hfz19_7
            try clear hfz19_8
            try clear hfz21_0
            try clear hfz21_1
            try clear hfz21_2
            try clear hfz21_3
            try clear hfz21_4
            try clear hfz21_5
            try clear hfz21_6
            try clear hfz21_7
            try clear hfz21_8
            try clear hfz27_0
            try clear hfz27_1
            try clear hfz27_2
            try clear hfz27_3
            try clear hfz27_4
            try clear hfz27_5
            try clear hfz27_6
            try clear hfz27_7
            try clear hfz27_8
            try clear hfz29_0
            try clear hfz29_1
            try clear hfz29_2
            try clear hfz29_3
            try clear hfz29_4
            try clear hfz29_5
            try clear hfz29_6
            try clear hfz29_7
            try clear hfz29_8
            try clear hfz9_0
            try clear hfz9_1
            try clear hfz9_2
            try clear hfz9_3
            try clear hfz9_4
            try clear hfz9_5
            try clear hfz9_6
            try clear hfz9_7
            try clear hfz9_8
            try clear p2
            try clear p6
            obtain ⟨x11_4, rfl, HA, HK4, HO_9, BK289, HB⟩ := hrel
            cases gk with
            | zero => exact absurd HA.out (by simp [laws_FnCaptured.l0])
            | succ k4 =>
             have H := HA.out
             clear HA
             simp only [laws_FnCaptured.l0] at H
             by_cases c42 : x11_4 < (t327.length : Int)
             ·
              rw [if_pos c42] at H
              have c42b0 : decide (x11_4 < (t327.length : Int)) = true := decide_eq_true c42
              clear c42
              by_cases c43 : 0 ≤ x11_4
              ·
               rw [if_pos c43] at H
               have c43b0 : decide (0 ≤ x11_4) = true := decide_eq_true c43
               clear c43
               replace H := Option.bind_eq_some_iff.mp H
               obtain ⟨t352, A440, H⟩ := H
               replace H : (if (wrap64 ((wrap64 (((rd_T25 t327 x11_4).f2) - 1000)) * t352)) < 0 then (some false) else ((laws_size.f x4_6).bind fun t353 => (if (wrap64 ((wrap64 (((rd_T25 t327 x11_4).f2) - 1000)) * t352)) > t353 then (some false) else (laws_FnCaptured.l0 k4 x4_6 t327 (wrap64 (x11_4 + 1)) t313 t314 t315 t316 t317 t318 t319 t320 t321)))) = some r := H
               have A44 := Aside0.mk A440
               clear A440
               by_cases c45 : (wrap64 ((wrap64 (((rd_T25 t327 x11_4).f2) - 1000)) * t352)) < 0
               ·
                rw [if_pos c45] at H
                have c45b0 : decide ((wrap64 ((wrap64 (((rd_T25 t327 x11_4).f2) - 1000)) * t352)) < 0) = true := decide_eq_true c45
                clear c45
                obtain rfl := Option.some.inj H
                obtain ⟨Ao46, co46, eo46⟩ := Kd.R_slice HO_9.out
                subst eo46
                try go_wp2
                have n0_ := Aside0.mk (Kd.R_drew HO_9.out)
                have n1_ := Aside0.mk (blk_drew BK289.out)
                have n2_ := Aside0.mk (below_drew1 HB.out)
                clear HO_9
                clear BK289
                clear HB
                have HO_9 := n0_
                have BK289 := n1_
                have HB := n2_
                clear n0_ n1_ n2_
                have p351 : 0 ≤ (x11_4 : Int) := of_decide_eq_true (by first | (with_reducible assumption) | assumption)
                have q351 : x11_4 < (t327.length : Int) := of_decide_eq_true (by first | (with_reducible assumption) | assumption)
                obtain ⟨ad351, e351, hx351_0, hx351_1, hx351_2, hx351_3, hx351_4, hx351_5, hx351_6, hx351_7, hx351_8⟩ := at_T25 (Kd.R_reads' HO_9.out).2.2 x11_4 p351 q351
                cases e351
                replace p351 := eq_true p351
                replace q351 := eq_true q351
                refine start_ (n := 10) (S := fun w' => w'.cell? (ad351.add ((x11_4).toNat * 9)) = some (.int .i64 ((rd_T25 t327 x11_4).f0)) ∧ w'.cell? ⟨(ad351.add ((x11_4).toNat * 9)).block, (ad351.add ((x11_4).toNat * 9)).off + 1, none⟩ = some (.int .i64 ((rd_T25 t327 x11_4).f1)) ∧ w'.cell? ⟨(ad351.add ((x11_4).toNat * 9)).block, (ad351.add ((x11_4).toNat * 9)).off + 2, none⟩ = some (.int .i64 ((rd_T25 t327 x11_4).f2)) ∧ w'.cell? ⟨(ad351.add ((x11_4).toNat * 9)).block, (ad351.add ((x11_4).toNat * 9)).off + 3, none⟩ = some (.int .i64 ((rd_T25 t327 x11_4).f3)) ∧ w'.cell? ⟨(ad351.add ((x11_4).toNat * 9)).block, (ad351.add ((x11_4).toNat * 9)).off + 4, none⟩ = some (.int .i64 ((rd_T25 t327 x11_4).f4)) ∧ w'.cell? ⟨(ad351.add ((x11_4).toNat * 9)).block, (ad351.add ((x11_4).toNat * 9)).off + 5, none⟩ = some (.int .i64 ((rd_T25 t327 x11_4).f5)) ∧ w'.cell? ⟨(ad351.add ((x11_4).toNat * 9)).block, (ad351.add ((x11_4).toNat * 9)).off + 6, none⟩ = some (.int .i64 ((rd_T25 t327 x11_4).f6)) ∧ w'.cell? ⟨(ad351.add ((x11_4).toNat * 9)).block, (ad351.add ((x11_4).toNat * 9)).off + 7, none⟩ = some (.int .i64 ((rd_T25 t327 x11_4).f7)) ∧ w'.cell? ⟨(ad351.add ((x11_4).toNat * 9)).block, (ad351.add ((x11_4).toNat * 9)).off + 8, none⟩ = some (.bool ((rd_T25 t327 x11_4).f8))) (ds := []) #[f10, f10, f10, f10, f10, f10, f10, f10, f10, f10] (by kernel_rfl) rfl rfl ⟨hx351_0, hx351_1, hx351_2, hx351_3, hx351_4, hx351_5, hx351_6, hx351_7, hx351_8⟩ (fun hHeld => ?_); refine with_tabW laws_FnCaptured.tab21 laws_FnCaptured.bits21 (fun HT_ HW_ => ?_)
                generalize wr.drew = w47 at HO_9 BK289 HB hx351_0 hx351_1 hx351_2 hx351_3 hx351_4 hx351_5 hx351_6 hx351_7 hx351_8 hHeld ⊢
                refine pure_ (i := 0) (N := some 92) (v := ?_) (a' := ?_) #[t10, f10, f10, f10, f10, f10, f10, f10, f10, f10] rfl rfl (any_of HT_.out (by kernel_rfl)) (fun _ _ _ h => h) (Or.inl ⟨by rfl, ?_⟩) ?_ ?_
                rotate_left
                ·
                 intro w'
                 go_simp
                 with_reducible rfl
                rotate_left
                ·
                 simp only [Act.put, List.setIfInBounds_toArray, List.set_cons_zero, List.set_cons_succ, i64_w, i32_w]
                 rfl
                refine pure_ (i := 1) (N := some 93) (v := ?_) (a' := ?_) #[t10, t10, f10, f10, f10, f10, f10, f10, f10, f10] rfl rfl (any_of HT_.out (by kernel_rfl)) (fun _ _ _ h => h) (Or.inl ⟨by rfl, ?_⟩) ?_ ?_
                rotate_left
                ·
                 intro w'
                 go_simp
                 with_reducible rfl
                rotate_left
                ·
                 simp only [Act.put, List.setIfInBounds_toArray, List.set_cons_zero, List.set_cons_succ, i64_w, i32_w]
                 rfl
                refine pure_ (i := 2) (N := some 94) (v := ?_) (a' := ?_) #[t10, t10, t10, f10, f10, f10, f10, f10, f10, f10] rfl rfl (any_of HT_.out (by kernel_rfl)) (fun _ _ _ h => h) (Or.inl ⟨by rfl, ?_⟩) ?_ ?_
                rotate_left
                ·
                 intro w'
                 go_simp
                 with_reducible rfl
                rotate_left
                ·
                 simp only [Act.put, List.setIfInBounds_toArray, List.set_cons_zero, List.set_cons_succ, i64_w, i32_w]
                 rfl
                refine pure_ (i := 3) (N := some 95) (v := ?_) (a' := ?_) #[t10, t10, t10, t10, f10, f10, f10, f10, f10, f10] rfl rfl (any_of HT_.out (by kernel_rfl)) (fun _ _ _ h => h) (Or.inl ⟨by rfl, ?_⟩) ?_ ?_
                rotate_left
                ·
                 intro w'
                 go_simp
                 with_reducible rfl
                rotate_left
                ·
                 simp only [Act.put, List.setIfInBounds_toArray, List.set_cons_zero, List.set_cons_succ, i64_w, i32_w]
                 rfl
                refine pure_ (i := 6) (N := some 98) (v := ?_) (a' := ?_) #[t10, t10, t10, t10, f10, f10, t10, f10, f10, f10] rfl rfl (any_of HT_.out (by kernel_rfl)) (fun _ _ _ h => h) (Or.inl ⟨by rfl, ?_⟩) ?_ ?_
                rotate_left
                ·
                 intro w'
                 go_simp
                 with_reducible rfl
                rotate_left
                ·
                 simp only [Act.put, List.setIfInBounds_toArray, List.set_cons_zero, List.set_cons_succ, i64_w, i32_w]
                 rfl
                refine take_ (i := 4) (N := some 96) (v := ?_) (a' := ?_) #[t10, t10, t10, t10, t10, f10, t10, f10, f10, f10] rfl rfl (take_ofW HT_.out HW_.out (by kernel_rfl)) (fun _ _ _ h => h) (Or.inl ⟨by rfl, ?_⟩) hHeld ?_ ?_
                rotate_left
                ·
                 rintro w' ⟨s0, s1, s2, s3, s4, s5, s6, s7, s8⟩
                 go_simp
                 with_reducible rfl
                rotate_left
                ·
                 simp only [Act.put, List.setIfInBounds_toArray, List.set_cons_zero, List.set_cons_succ, i64_w, i32_w]
                 rfl
                refine pure_ (i := 5) (N := some 97) (v := ?_) (a' := ?_) #[t10, t10, t10, t10, t10, t10, t10, f10, f10, f10] rfl rfl (any_of HT_.out (by kernel_rfl)) (fun _ _ _ h => h) (Or.inl ⟨by rfl, ?_⟩) ?_ ?_
                rotate_left
                ·
                 intro w'
                 go_simp
                 with_reducible rfl
                rotate_left
                ·
                 simp only [Act.put, List.setIfInBounds_toArray, List.set_cons_zero, List.set_cons_succ, i64_w, i32_w]
                 rfl
                refine one_ (i := 7) (N := some 99) #[t10, t10, t10, t10, t10, t10, t10, t10, f10, f10] rfl rfl (one_of HT_.out (by kernel_rfl)) (by decide) (fun K hK => ?_)
                refine goes_ Try.func16 (by kernel_rfl) rfl #[.int .i64 x4_6] (by rfl) rfl rfl (by (try simp only [List.map_toArray, List.map_cons, List.map_nil]); first | done | rfl | (simp only [List.length_drop, List.length_take]; rfl)) ?_
                with_reducible refine (laws_sign.calls x4_6 t352 _ A44.out).mono ?_
                rintro e w' ⟨rfl, ⟨nd, rfl⟩⟩
                refine ⟨_, rfl, ?_⟩
                refine hK.out _ _ ⟨hHeld.1, hHeld.2.1, hHeld.2.2.1, hHeld.2.2.2.1, hHeld.2.2.2.2.1, hHeld.2.2.2.2.2.1, hHeld.2.2.2.2.2.2.1, hHeld.2.2.2.2.2.2.2.1, hHeld.2.2.2.2.2.2.2.2⟩ (fun hHeld => ?_)
                clear hK K
                refine norm_ (a' := ?_) ?_ ?_
                rotate_left
                ·
                 show Act.put _ (some 99) _ = _
                 simp only [Act.put, List.setIfInBounds_toArray, List.set_cons_zero, List.set_cons_succ, i64_w, i32_w]
                 rfl
                refine pure_ (i := 8) (N := some 100) (v := ?_) (a' := ?_) #[t10, t10, t10, t10, t10, t10, t10, t10, t10, f10] rfl rfl (any_of HT_.out (by kernel_rfl)) (fun _ _ _ h => h) (Or.inl ⟨by rfl, ?_⟩) ?_ ?_
                rotate_left
                ·
                 intro w'
                 go_simp
                 with_reducible rfl
                rotate_left
                ·
                 simp only [Act.put, List.setIfInBounds_toArray, List.set_cons_zero, List.set_cons_succ, i64_w, i32_w]
                 rfl
                refine pure_ (i := 9) (N := some 12) (v := ?_) (a' := ?_) #[t10, t10, t10, t10, t10, t10, t10, t10, t10, t10] rfl rfl (any_of HT_.out (by kernel_rfl)) (fun _ _ _ h => h) (Or.inl ⟨by rfl, ?_⟩) ?_ ?_
                rotate_left
                ·
                 intro w'
                 go_simp
                 with_reducible rfl
                rotate_left
                ·
                 simp only [Act.put, List.setIfInBounds_toArray, List.set_cons_zero, List.set_cons_succ, i64_w, i32_w]
                 rfl
                refine done_ (done_of HT_.out (by kernel_rfl)) ?_
                try go_wp2
                go_ret
                exact ⟨by first | rfl | (simp [errW_none, errW_some] <;> rfl) | (simp [*, errW_none, errW_some] <;> rfl), by repeat (first | (with_reducible first | exact HB.out | apply below_alloc | apply pw_below_drewN | apply below_drew1 | refine below_set ?_ GE289.out) | exact HB.out)⟩
               ·
                rw [if_neg c45] at H
                have c45b0 : decide ((wrap64 ((wrap64 (((rd_T25 t327 x11_4).f2) - 1000)) * t352)) < 0) = false := decide_eq_false c45
                clear c45
                replace H := Option.bind_eq_some_iff.mp H
                obtain ⟨t353, A480, H⟩ := H
                replace H : (if (wrap64 ((wrap64 (((rd_T25 t327 x11_4).f2) - 1000)) * t352)) > t353 then (some false) else (laws_FnCaptured.l0 k4 x4_6 t327 (wrap64 (x11_4 + 1)) t313 t314 t315 t316 t317 t318 t319 t320 t321)) = some r := H
                have A48 := Aside0.mk A480
                clear A480
                by_cases c49 : (wrap64 ((wrap64 (((rd_T25 t327 x11_4).f2) - 1000)) * t352)) > t353
                ·
                 rw [if_pos c49] at H
                 have c49b0 : decide (t353 < (wrap64 ((wrap64 (((rd_T25 t327 x11_4).f2) - 1000)) * t352))) = true := decide_eq_true c49
                 clear c49
                 obtain rfl := Option.some.inj H
                 obtain ⟨Ao50, co50, eo50⟩ := Kd.R_slice HO_9.out
                 subst eo50
                 try go_wp2
                 have n0_ := Aside0.mk (Kd.R_drew HO_9.out)
                 have n1_ := Aside0.mk (blk_drew BK289.out)
                 have n2_ := Aside0.mk (below_drew1 HB.out)
                 clear HO_9
                 clear BK289
                 clear HB
                 have HO_9 := n0_
                 have BK289 := n1_
                 have HB := n2_
                 clear n0_ n1_ n2_
                 have p351 : 0 ≤ (x11_4 : Int) := of_decide_eq_true (by first | (with_reducible assumption) | assumption)
                 have q351 : x11_4 < (t327.length : Int) := of_decide_eq_true (by first | (with_reducible assumption) | assumption)
                 obtain ⟨ad351, e351, hx351_0, hx351_1, hx351_2, hx351_3, hx351_4, hx351_5, hx351_6, hx351_7, hx351_8⟩ := at_T25 (Kd.R_reads' HO_9.out).2.2 x11_4 p351 q351
                 cases e351
                 replace p351 := eq_true p351
                 replace q351 := eq_true q351
                 refine start_ (n := 10) (S := fun w' => w'.cell? (ad351.add ((x11_4).toNat * 9)) = some (.int .i64 ((rd_T25 t327 x11_4).f0)) ∧ w'.cell? ⟨(ad351.add ((x11_4).toNat * 9)).block, (ad351.add ((x11_4).toNat * 9)).off + 1, none⟩ = some (.int .i64 ((rd_T25 t327 x11_4).f1)) ∧ w'.cell? ⟨(ad351.add ((x11_4).toNat * 9)).block, (ad351.add ((x11_4).toNat * 9)).off + 2, none⟩ = some (.int .i64 ((rd_T25 t327 x11_4).f2)) ∧ w'.cell? ⟨(ad351.add ((x11_4).toNat * 9)).block, (ad351.add ((x11_4).toNat * 9)).off + 3, none⟩ = some (.int .i64 ((rd_T25 t327 x11_4).f3)) ∧ w'.cell? ⟨(ad351.add ((x11_4).toNat * 9)).block, (ad351.add ((x11_4).toNat * 9)).off + 4, none⟩ = some (.int .i64 ((rd_T25 t327 x11_4).f4)) ∧ w'.cell? ⟨(ad351.add ((x11_4).toNat * 9)).block, (ad351.add ((x11_4).toNat * 9)).off + 5, none⟩ = some (.int .i64 ((rd_T25 t327 x11_4).f5)) ∧ w'.cell? ⟨(ad351.add ((x11_4).toNat * 9)).block, (ad351.add ((x11_4).toNat * 9)).off + 6, none⟩ = some (.int .i64 ((rd_T25 t327 x11_4).f6)) ∧ w'.cell? ⟨(ad351.add ((x11_4).toNat * 9)).block, (ad351.add ((x11_4).toNat * 9)).off + 7, none⟩ = some (.int .i64 ((rd_T25 t327 x11_4).f7)) ∧ w'.cell? ⟨(ad351.add ((x11_4).toNat * 9)).block, (ad351.add ((x11_4).toNat * 9)).off + 8, none⟩ = some (.bool ((rd_T25 t327 x11_4).f8))) (ds := []) #[f10, f10, f10, f10, f10, f10, f10, f10, f10, f10] (by kernel_rfl) rfl rfl ⟨hx351_0, hx351_1, hx351_2, hx351_3, hx351_4, hx351_5, hx351_6, hx351_7, hx351_8⟩ (fun hHeld => ?_); refine with_tabW laws_FnCaptured.tab21 laws_FnCaptured.bits21 (fun HT_ HW_ => ?_)
                 generalize wr.drew = w51 at HO_9 BK289 HB hx351_0 hx351_1 hx351_2 hx351_3 hx351_4 hx351_5 hx351_6 hx351_7 hx351_8 hHeld ⊢
                 refine pure_ (i := 0) (N := some 92) (v := ?_) (a' := ?_) #[t10, f10, f10, f10, f10, f10, f10, f10, f10, f10] rfl rfl (any_of HT_.out (by kernel_rfl)) (fun _ _ _ h => h) (Or.inl ⟨by rfl, ?_⟩) ?_ ?_
                 rotate_left
                 ·
                  intro w'
                  go_simp
                  with_reducible rfl
                 rotate_left
                 ·
                  simp only [Act.put, List.setIfInBounds_toArray, List.set_cons_zero, List.set_cons_succ, i64_w, i32_w]
                  rfl
                 refine pure_ (i := 1) (N := some 93) (v := ?_) (a' := ?_) #[t10, t10, f10, f10, f10, f10, f10, f10, f10, f10] rfl rfl (any_of HT_.out (by kernel_rfl)) (fun _ _ _ h => h) (Or.inl ⟨by rfl, ?_⟩) ?_ ?_
                 rotate_left
                 ·
                  intro w'
                  go_simp
                  with_reducible rfl
                 rotate_left
                 ·
                  simp only [Act.put, List.setIfInBounds_toArray, List.set_cons_zero, List.set_cons_succ, i64_w, i32_w]
                  rfl
                 refine pure_ (i := 2) (N := some 94) (v := ?_) (a' := ?_) #[t10, t10, t10, f10, f10, f10, f10, f10, f10, f10] rfl rfl (any_of HT_.out (by kernel_rfl)) (fun _ _ _ h => h) (Or.inl ⟨by rfl, ?_⟩) ?_ ?_
                 rotate_left
                 ·
                  intro w'
                  go_simp
                  with_reducible rfl
                 rotate_left
                 ·
                  simp only [Act.put, List.setIfInBounds_toArray, List.set_cons_zero, List.set_cons_succ, i64_w, i32_w]
                  rfl
                 refine pure_ (i := 3) (N := some 95) (v := ?_) (a' := ?_) #[t10, t10, t10, t10, f10, f10, f10, f10, f10, f10] rfl rfl (any_of HT_.out (by kernel_rfl)) (fun _ _ _ h => h) (Or.inl ⟨by rfl, ?_⟩) ?_ ?_
                 rotate_left
                 ·
                  intro w'
                  go_simp
                  with_reducible rfl
                 rotate_left
                 ·
                  simp only [Act.put, List.setIfInBounds_toArray, List.set_cons_zero, List.set_cons_succ, i64_w, i32_w]
                  rfl
                 refine pure_ (i := 6) (N := some 98) (v := ?_) (a' := ?_) #[t10, t10, t10, t10, f10, f10, t10, f10, f10, f10] rfl rfl (any_of HT_.out (by kernel_rfl)) (fun _ _ _ h => h) (Or.inl ⟨by rfl, ?_⟩) ?_ ?_
                 rotate_left
                 ·
                  intro w'
                  go_simp
                  with_reducible rfl
                 rotate_left
                 ·
                  simp only [Act.put, List.setIfInBounds_toArray, List.set_cons_zero, List.set_cons_succ, i64_w, i32_w]
                  rfl
                 refine take_ (i := 4) (N := some 96) (v := ?_) (a' := ?_) #[t10, t10, t10, t10, t10, f10, t10, f10, f10, f10] rfl rfl (take_ofW HT_.out HW_.out (by kernel_rfl)) (fun _ _ _ h => h) (Or.inl ⟨by rfl, ?_⟩) hHeld ?_ ?_
                 rotate_left
                 ·
                  rintro w' ⟨s0, s1, s2, s3, s4, s5, s6, s7, s8⟩
                  go_simp
                  with_reducible rfl
                 rotate_left
                 ·
                  simp only [Act.put, List.setIfInBounds_toArray, List.set_cons_zero, List.set_cons_succ, i64_w, i32_w]
                  rfl
                 refine pure_ (i := 5) (N := some 97) (v := ?_) (a' := ?_) #[t10, t10, t10, t10, t10, t10, t10, f10, f10, f10] rfl rfl (any_of HT_.out (by kernel_rfl)) (fun _ _ _ h => h) (Or.inl ⟨by rfl, ?_⟩) ?_ ?_
                 rotate_left
                 ·
                  intro w'
                  go_simp
                  with_reducible rfl
                 rotate_left
                 ·
                  simp only [Act.put, List.setIfInBounds_toArray, List.set_cons_zero, List.set_cons_succ, i64_w, i32_w]
                  rfl
                 refine one_ (i := 7) (N := some 99) #[t10, t10, t10, t10, t10, t10, t10, t10, f10, f10] rfl rfl (one_of HT_.out (by kernel_rfl)) (by decide) (fun K hK => ?_)
                 refine goes_ Try.func16 (by kernel_rfl) rfl #[.int .i64 x4_6] (by rfl) rfl rfl (by (try simp only [List.map_toArray, List.map_cons, List.map_nil]); first | done | rfl | (simp only [List.length_drop, List.length_take]; rfl)) ?_
                 with_reducible refine (laws_sign.calls x4_6 t352 _ A44.out).mono ?_
                 rintro e w' ⟨rfl, ⟨nd, rfl⟩⟩
                 refine ⟨_, rfl, ?_⟩
                 refine hK.out _ _ ⟨hHeld.1, hHeld.2.1, hHeld.2.2.1, hHeld.2.2.2.1, hHeld.2.2.2.2.1, hHeld.2.2.2.2.2.1, hHeld.2.2.2.2.2.2.1, hHeld.2.2.2.2.2.2.2.1, hHeld.2.2.2.2.2.2.2.2⟩ (fun hHeld => ?_)
                 clear hK K
                 refine norm_ (a' := ?_) ?_ ?_
                 rotate_left
                 ·
                  show Act.put _ (some 99) _ = _
                  simp only [Act.put, List.setIfInBounds_toArray, List.set_cons_zero, List.set_cons_succ, i64_w, i32_w]
                  rfl
                 refine pure_ (i := 8) (N := some 100) (v := ?_) (a' := ?_) #[t10, t10, t10, t10, t10, t10, t10, t10, t10, f10] rfl rfl (any_of HT_.out (by kernel_rfl)) (fun _ _ _ h => h) (Or.inl ⟨by rfl, ?_⟩) ?_ ?_
                 rotate_left
                 ·
                  intro w'
                  go_simp
                  with_reducible rfl
                 rotate_left
                 ·
                  simp only [Act.put, List.setIfInBounds_toArray, List.set_cons_zero, List.set_cons_succ, i64_w, i32_w]
                  rfl
                 refine pure_ (i := 9) (N := some 12) (v := ?_) (a' := ?_) #[t10, t10, t10, t10, t10, t10, t10, t10, t10, t10] rfl rfl (any_of HT_.out (by kernel_rfl)) (fun _ _ _ h => h) (Or.inl ⟨by rfl, ?_⟩) ?_ ?_
                 rotate_left
                 ·
                  intro w'
                  go_simp
                  with_reducible rfl
                 rotate_left
                 ·
                  simp only [Act.put, List.setIfInBounds_toArray, List.set_cons_zero, List.set_cons_succ, i64_w, i32_w]
                  rfl
                 refine done_ (done_of HT_.out (by kernel_rfl)) ?_
                 try go_wp2_with (first | (go_at_call 17; (with_reducible refine (laws_size.calls x4_6 t353 _ A48.out).mono ?_); rintro e w' ⟨rfl, ⟨nd, rfl⟩⟩))
                 go_ret
                 exact ⟨by first | rfl | (simp [errW_none, errW_some] <;> rfl) | (simp [*, errW_none, errW_some] <;> rfl), by repeat (first | (with_reducible first | exact HB.out | apply below_alloc | apply pw_below_drewN | apply below_drew1 | refine below_set ?_ GE289.out) | exact HB.out)⟩
                ·
                 rw [if_neg c49] at H
                 have c49b0 : decide (t353 < (wrap64 ((wrap64 (((rd_T25 t327 x11_4).f2) - 1000)) * t352))) = false := decide_eq_false c49
                 clear c49
                 have H' := Aside0.mk H
                 clear H
                 obtain ⟨Ao52, co52, eo52⟩ := Kd.R_slice HO_9.out
                 subst eo52
                 try go_wp2
                 have n0_ := Aside0.mk (Kd.R_drew HO_9.out)
                 have n1_ := Aside0.mk (blk_drew BK289.out)
                 have n2_ := Aside0.mk (below_drew1 HB.out)
                 clear HO_9
                 clear BK289
                 clear HB
                 have HO_9 := n0_
                 have BK289 := n1_
                 have HB := n2_
                 clear n0_ n1_ n2_
                 have p351 : 0 ≤ (x11_4 : Int) := of_decide_eq_true (by first | (with_reducible assumption) | assumption)
                 have q351 : x11_4 < (t327.length : Int) := of_decide_eq_true (by first | (with_reducible assumption) | assumption)
                 obtain ⟨ad351, e351, hx351_0, hx351_1, hx351_2, hx351_3, hx351_4, hx351_5, hx351_6, hx351_7, hx351_8⟩ := at_T25 (Kd.R_reads' HO_9.out).2.2 x11_4 p351 q351
                 cases e351
                 replace p351 := eq_true p351
                 replace q351 := eq_true q351
                 refine start_ (n := 10) (S := fun w' => w'.cell? (ad351.add ((x11_4).toNat * 9)) = some (.int .i64 ((rd_T25 t327 x11_4).f0)) ∧ w'.cell? ⟨(ad351.add ((x11_4).toNat * 9)).block, (ad351.add ((x11_4).toNat * 9)).off + 1, none⟩ = some (.int .i64 ((rd_T25 t327 x11_4).f1)) ∧ w'.cell? ⟨(ad351.add ((x11_4).toNat * 9)).block, (ad351.add ((x11_4).toNat * 9)).off + 2, none⟩ = some (.int .i64 ((rd_T25 t327 x11_4).f2)) ∧ w'.cell? ⟨(ad351.add ((x11_4).toNat * 9)).block, (ad351.add ((x11_4).toNat * 9)).off + 3, none⟩ = some (.int .i64 ((rd_T25 t327 x11_4).f3)) ∧ w'.cell? ⟨(ad351.add ((x11_4).toNat * 9)).block, (ad351.add ((x11_4).toNat * 9)).off + 4, none⟩ = some (.int .i64 ((rd_T25 t327 x11_4).f4)) ∧ w'.cell? ⟨(ad351.add ((x11_4).toNat * 9)).block, (ad351.add ((x11_4).toNat * 9)).off + 5, none⟩ = some (.int .i64 ((rd_T25 t327 x11_4).f5)) ∧ w'.cell? ⟨(ad351.add ((x11_4).toNat * 9)).block, (ad351.add ((x11_4).toNat * 9)).off + 6, none⟩ = some (.int .i64 ((rd_T25 t327 x11_4).f6)) ∧ w'.cell? ⟨(ad351.add ((x11_4).toNat * 9)).block, (ad351.add ((x11_4).toNat * 9)).off + 7, none⟩ = some (.int .i64 ((rd_T25 t327 x11_4).f7)) ∧ w'.cell? ⟨(ad351.add ((x11_4).toNat * 9)).block, (ad351.add ((x11_4).toNat * 9)).off + 8, none⟩ = some (.bool ((rd_T25 t327 x11_4).f8))) (ds := []) #[f10, f10, f10, f10, f10, f10, f10, f10, f10, f10] (by kernel_rfl) rfl rfl ⟨hx351_0, hx351_1, hx351_2, hx351_3, hx351_4, hx351_5, hx351_6, hx351_7, hx351_8⟩ (fun hHeld => ?_); refine with_tabW laws_FnCaptured.tab21 laws_FnCaptured.bits21 (fun HT_ HW_ => ?_)
                 generalize wr.drew = w53 at HO_9 BK289 HB hx351_0 hx351_1 hx351_2 hx351_3 hx351_4 hx351_5 hx351_6 hx351_7 hx351_8 hHeld ⊢
                 refine pure_ (i := 0) (N := some 92) (v := ?_) (a' := ?_) #[t10, f10, f10, f10, f10, f10, f10, f10, f10, f10] rfl rfl (any_of HT_.out (by kernel_rfl)) (fun _ _ _ h => h) (Or.inl ⟨by rfl, ?_⟩) ?_ ?_
                 rotate_left
                 ·
                  intro w'
                  go_simp
                  with_reducible rfl
                 rotate_left
                 ·
                  simp only [Act.put, List.setIfInBounds_toArray, List.set_cons_zero, List.set_cons_succ, i64_w, i32_w]
                  rfl
                 refine pure_ (i := 1) (N := some 93) (v := ?_) (a' := ?_) #[t10, t10, f10, f10, f10, f10, f10, f10, f10, f10] rfl rfl (any_of HT_.out (by kernel_rfl)) (fun _ _ _ h => h) (Or.inl ⟨by rfl, ?_⟩) ?_ ?_
                 rotate_left
                 ·
                  intro w'
                  go_simp
                  with_reducible rfl
                 rotate_left
                 ·
                  simp only [Act.put, List.setIfInBounds_toArray, List.set_cons_zero, List.set_cons_succ, i64_w, i32_w]
                  rfl
                 refine pure_ (i := 2) (N := some 94) (v := ?_) (a' := ?_) #[t10, t10, t10, f10, f10, f10, f10, f10, f10, f10] rfl rfl (any_of HT_.out (by kernel_rfl)) (fun _ _ _ h => h) (Or.inl ⟨by rfl, ?_⟩) ?_ ?_
                 rotate_left
                 ·
                  intro w'
                  go_simp
                  with_reducible rfl
                 rotate_left
                 ·
                  simp only [Act.put, List.setIfInBounds_toArray, List.set_cons_zero, List.set_cons_succ, i64_w, i32_w]
                  rfl
                 refine pure_ (i := 3) (N := some 95) (v := ?_) (a' := ?_) #[t10, t10, t10, t10, f10, f10, f10, f10, f10, f10] rfl rfl (any_of HT_.out (by kernel_rfl)) (fun _ _ _ h => h) (Or.inl ⟨by rfl, ?_⟩) ?_ ?_
                 rotate_left
                 ·
                  intro w'
                  go_simp
                  with_reducible rfl
                 rotate_left
                 ·
                  simp only [Act.put, List.setIfInBounds_toArray, List.set_cons_zero, List.set_cons_succ, i64_w, i32_w]
                  rfl
                 refine pure_ (i := 6) (N := some 98) (v := ?_) (a' := ?_) #[t10, t10, t10, t10, f10, f10, t10, f10, f10, f10] rfl rfl (any_of HT_.out (by kernel_rfl)) (fun _ _ _ h => h) (Or.inl ⟨by rfl, ?_⟩) ?_ ?_
                 rotate_left
                 ·
                  intro w'
                  go_simp
                  with_reducible rfl
                 rotate_left
                 ·
                  simp only [Act.put, List.setIfInBounds_toArray, List.set_cons_zero, List.set_cons_succ, i64_w, i32_w]
                  rfl
                 refine take_ (i := 4) (N := some 96) (v := ?_) (a' := ?_) #[t10, t10, t10, t10, t10, f10, t10, f10, f10, f10] rfl rfl (take_ofW HT_.out HW_.out (by kernel_rfl)) (fun _ _ _ h => h) (Or.inl ⟨by rfl, ?_⟩) hHeld ?_ ?_
                 rotate_left
                 ·
                  rintro w' ⟨s0, s1, s2, s3, s4, s5, s6, s7, s8⟩
                  go_simp
                  with_reducible rfl
                 rotate_left
                 ·
                  simp only [Act.put, List.setIfInBounds_toArray, List.set_cons_zero, List.set_cons_succ, i64_w, i32_w]
                  rfl
                 refine pure_ (i := 5) (N := some 97) (v := ?_) (a' := ?_) #[t10, t10, t10, t10, t10, t10, t10, f10, f10, f10] rfl rfl (any_of HT_.out (by kernel_rfl)) (fun _ _ _ h => h) (Or.inl ⟨by rfl, ?_⟩) ?_ ?_
                 rotate_left
                 ·
                  intro w'
                  go_simp
                  with_reducible rfl
                 rotate_left
                 ·
                  simp only [Act.put, List.setIfInBounds_toArray, List.set_cons_zero, List.set_cons_succ, i64_w, i32_w]
                  rfl
                 refine one_ (i := 7) (N := some 99) #[t10, t10, t10, t10, t10, t10, t10, t10, f10, f10] rfl rfl (one_of HT_.out (by kernel_rfl)) (by decide) (fun K hK => ?_)
                 refine goes_ Try.func16 (by kernel_rfl) rfl #[.int .i64 x4_6] (by rfl) rfl rfl (by (try simp only [List.map_toArray, List.map_cons, List.map_nil]); first | done | rfl | (simp only [List.length_drop, List.length_take]; rfl)) ?_
                 with_reducible refine (laws_sign.calls x4_6 t352 _ A44.out).mono ?_
                 rintro e w' ⟨rfl, ⟨nd, rfl⟩⟩
                 refine ⟨_, rfl, ?_⟩
                 refine hK.out _ _ ⟨hHeld.1, hHeld.2.1, hHeld.2.2.1, hHeld.2.2.2.1, hHeld.2.2.2.2.1, hHeld.2.2.2.2.2.1, hHeld.2.2.2.2.2.2.1, hHeld.2.2.2.2.2.2.2.1, hHeld.2.2.2.2.2.2.2.2⟩ (fun hHeld => ?_)
                 clear hK K
                 refine norm_ (a' := ?_) ?_ ?_
                 rotate_left
                 ·
                  show Act.put _ (some 99) _ = _
                  simp only [Act.put, List.setIfInBounds_toArray, List.set_cons_zero, List.set_cons_succ, i64_w, i32_w]
                  rfl
                 refine pure_ (i := 8) (N := some 100) (v := ?_) (a' := ?_) #[t10, t10, t10, t10, t10, t10, t10, t10, t10, f10] rfl rfl (any_of HT_.out (by kernel_rfl)) (fun _ _ _ h => h) (Or.inl ⟨by rfl, ?_⟩) ?_ ?_
                 rotate_left
                 ·
                  intro w'
                  go_simp
                  with_reducible rfl
                 rotate_left
                 ·
                  simp only [Act.put, List.setIfInBounds_toArray, List.set_cons_zero, List.set_cons_succ, i64_w, i32_w]
                  rfl
                 refine pure_ (i := 9) (N := some 12) (v := ?_) (a' := ?_) #[t10, t10, t10, t10, t10, t10, t10, t10, t10, t10] rfl rfl (any_of HT_.out (by kernel_rfl)) (fun _ _ _ h => h) (Or.inl ⟨by rfl, ?_⟩) ?_ ?_
                 rotate_left
                 ·
                  intro w'
                  go_simp
                  with_reducible rfl
                 rotate_left
                 ·
                  simp only [Act.put, List.setIfInBounds_toArray, List.set_cons_zero, List.set_cons_succ, i64_w, i32_w]
                  rfl
                 refine done_ (done_of HT_.out (by kernel_rfl)) ?_
                 try go_wp2_with (first | (go_at_call 17; (with_reducible refine (laws_size.calls x4_6 t353 _ A48.out).mono ?_); rintro e w' ⟨rfl, ⟨nd, rfl⟩⟩))
                 go_roundg k4
                 case measure => have := HJ6.out; have := HJ13.out; have := HJ32.out; have := HK4.out; omega
                 case rel => exact ⟨(wrap64 (x11_4 + 1)), (by first | rfl | (simp; done) | (simp [*]; done)), H', ⟨by have := HJ6.out; have := HJ13.out; have := HJ32.out; have := HK4.out; omega⟩, ⟨by (with_reducible repeat (first | apply Kd.R_alloc | apply Kd.R_drewN | apply Kd.R_drew)); exact HO_9.out⟩, ⟨by (with_reducible repeat (first | refine blk_drewN ?_ _ | refine blk_drew ?_ | refine blk_alloc ?_ _)); exact BK289.out⟩, ⟨by repeat (first | (with_reducible first | exact HB.out | apply below_alloc | apply pw_below_drewN | apply below_drew1 | refine below_set ?_ GE289.out) | exact HB.out)⟩⟩
              ·
               rw [if_neg c43] at H
               exact absurd H (by simp)
             ·
              rw [if_neg c42] at H
              have c42b0 : decide (x11_4 < (t327.length : Int)) = false := decide_eq_false c42
              clear c42
              by_cases c54 : 299 < (t327.length : Int)
              ·
               rw [if_pos c54] at H
               have c54b0 : decide (299 < (t327.length : Int)) = true := decide_eq_true c54
               have c54b1 : decide (299 < t327.length) = true := decide_eq_true (by omega)
               clear c54
               replace H := Option.bind_eq_some_iff.mp H
               obtain ⟨⟨t333, t334, t335, t336, t337, t338, t339, t340, t341, t342⟩, A550, H⟩ := H
               replace H : (if ((rd_T25 t327 299).f0) = 1 then (if ((rd_T25 t327 299).f2) = (wrap64 (1000 + x4_6)) then (if ((rd_T25 t327 299).f4) = 0 then ((some (([(⟨t313, t314, t315, t316, t317, t318, t319, t320, t321⟩ : S25)] : List (S25)) : List (S25))).bind fun y344 => (if y344.length + t327.length < 1954687338268 then ((impl_Changes.f k4 (y344 ++ t327)).bind fun t350 => (if t350 ≤ 2 then (if t342 = true then (some (t333 == ((rd_T25 t327 299).f0) && (t334 == ((rd_T25 t327 299).f1) && (t335 == ((rd_T25 t327 299).f2) && (t336 == ((rd_T25 t327 299).f3) && (t337 == ((rd_T25 t327 299).f4) && (t338 == ((rd_T25 t327 299).f5) && (t339 == ((rd_T25 t327 299).f6) && (t340 == ((rd_T25 t327 299).f7) && (t341 == ((rd_T25 t327 299).f8))))))))))) else (some false)) else (some false))) else (none))) else (some false)) else (some false)) else (some false)) = some r := H
               have A55 := Aside0.mk A550
               clear A550
               have HC56 := Aside0.mk H
               clear H
               obtain ⟨Ao57, co57, eo57⟩ := Kd.R_slice HO_9.out
               subst eo57
               have p331 : 0 ≤ (299 : Int) := (by omega)
               have q331 : 299 < (t327.length : Int) := of_decide_eq_true (by first | (with_reducible assumption) | assumption)
               obtain ⟨ad331, e331, hx331_0, hx331_1, hx331_2, hx331_3, hx331_4, hx331_5, hx331_6, hx331_7, hx331_8⟩ := at_T25 (Kd.R_reads' HO_9.out).2.2 299 p331 q331
               cases e331
               (try simp only [show (299 : Int).toNat = 299 from rfl, Nat.reduceMul, Nat.reduceEqDiff, Go.Addr.add, ↓reduceIte] at hx331_0)
               (try simp only [show (299 : Int).toNat = 299 from rfl, Nat.reduceMul, Nat.reduceEqDiff, Go.Addr.add, ↓reduceIte] at hx331_1)
               (try simp only [show (299 : Int).toNat = 299 from rfl, Nat.reduceMul, Nat.reduceEqDiff, Go.Addr.add, ↓reduceIte] at hx331_2)
               (try simp only [show (299 : Int).toNat = 299 from rfl, Nat.reduceMul, Nat.reduceEqDiff, Go.Addr.add, ↓reduceIte] at hx331_3)
               (try simp only [show (299 : Int).toNat = 299 from rfl, Nat.reduceMul, Nat.reduceEqDiff, Go.Addr.add, ↓reduceIte] at hx331_4)
               (try simp only [show (299 : Int).toNat = 299 from rfl, Nat.reduceMul, Nat.reduceEqDiff, Go.Addr.add, ↓reduceIte] at hx331_5)
               (try simp only [show (299 : Int).toNat = 299 from rfl, Nat.reduceMul, Nat.reduceEqDiff, Go.Addr.add, ↓reduceIte] at hx331_6)
               (try simp only [show (299 : Int).toNat = 299 from rfl, Nat.reduceMul, Nat.reduceEqDiff, Go.Addr.add, ↓reduceIte] at hx331_7)
               (try simp only [show (299 : Int).toNat = 299 from rfl, Nat.reduceMul, Nat.reduceEqDiff, Go.Addr.add, ↓reduceIte] at hx331_8)
               have qi331 : (299 < t327.length) = True := eq_true (by omega)
               (try rw [show ((299 : Int)).toNat = 299 from rfl] at hx331_0)
               (try rw [show 299 * 9 = 2691 from rfl] at hx331_0)
               (try rw [show ((299 : Int)).toNat = 299 from rfl] at hx331_1)
               (try rw [show 299 * 9 = 2691 from rfl] at hx331_1)
               (try rw [show ((299 : Int)).toNat = 299 from rfl] at hx331_2)
               (try rw [show 299 * 9 = 2691 from rfl] at hx331_2)
               (try rw [show ((299 : Int)).toNat = 299 from rfl] at hx331_3)
               (try rw [show 299 * 9 = 2691 from rfl] at hx331_3)
               (try rw [show ((299 : Int)).toNat = 299 from rfl] at hx331_4)
               (try rw [show 299 * 9 = 2691 from rfl] at hx331_4)
               (try rw [show ((299 : Int)).toNat = 299 from rfl] at hx331_5)
               (try rw [show 299 * 9 = 2691 from rfl] at hx331_5)
               (try rw [show ((299 : Int)).toNat = 299 from rfl] at hx331_6)
               (try rw [show 299 * 9 = 2691 from rfl] at hx331_6)
               (try rw [show ((299 : Int)).toNat = 299 from rfl] at hx331_7)
               (try rw [show 299 * 9 = 2691 from rfl] at hx331_7)
               (try rw [show ((299 : Int)).toNat = 299 from rfl] at hx331_8)
               (try rw [show 299 * 9 = 2691 from rfl] at hx331_8)
               replace p331 := eq_true p331
               replace q331 := eq_true q331
               go_upto_region 26 with (first | ((with_reducible refine gate_dst (N := 13) rfl ?_); (try (refine gate_guard (by rfl) ?_; dsimp only)); refine box_event ?hg (N := 13) ?hd (cs := #[.int .i64 0, .int .i64 0, .int .i64 0, .int .i64 0, .int .i64 0, .int .i64 0, .int .i64 0, .int .i64 0, .bool false]) (t := 25) ?hr ?_; (case hd => rfl); (case hg => rfl); (case hr => first | (go_simp; done) | (go_simp; rfl)); intro gb332 hg w58 hbox hb; have n0_ := Aside0.mk (Kd.R_below (Kd.R_elderB (by (with_reducible repeat (first | apply Kd.R_alloc | apply Kd.R_drewN | apply Kd.R_drew)); exact HO_9.out) gb332 (Nat.le_of_eq hg.symm)) hb); have n1_ := Aside0.mk (blk_below (g := gb289) (o := .cells #[.int .i64 t313, .int .i64 t314, .int .i64 t315, .int .i64 t316, .int .i64 t317, .int .i64 t318, .int .i64 t319, .int .i64 t320, .bool t321] 25 (0, 0)) (by (with_reducible repeat (first | refine blk_drewN ?_ _ | refine blk_drew ?_ | refine blk_alloc ?_ _)); exact BK289.out) hb); have n2_ := Aside0.mk (below_step (by repeat (first | (with_reducible first | exact HB.out | apply below_alloc | apply pw_below_drewN | apply below_drew1 | refine below_set ?_ GE289.out) | exact HB.out)) hb); have n3_ := Aside0.mk (hbox); have n4_ := Aside0.mk ((by rw [hg]; exact (below_size (by repeat (first | (with_reducible first | exact HB.out | apply below_alloc | apply pw_below_drewN | apply below_drew1 | refine below_set ?_ GE289.out) | exact HB.out))) : w.heap.size ≤ gb332)); have n5_ := Aside0.mk ((by rw [hg]; exact (below_size (by repeat (first | (with_reducible first | exact HB.out | apply below_alloc | apply pw_below_drewN | apply below_drew1 | refine below_set ?_ GE289.out) | exact HB.out))) : w.heap.size ≤ gb332)); have n6_ := Aside0.mk ((by rw [hg]; exact Nat.ne_of_lt (blk_lt (g := gb289) (o := .cells #[.int .i64 t313, .int .i64 t314, .int .i64 t315, .int .i64 t316, .int .i64 t317, .int .i64 t318, .int .i64 t319, .int .i64 t320, .bool t321] 25 (0, 0)) (by (with_reducible repeat (first | refine blk_drewN ?_ _ | refine blk_drew ?_ | refine blk_alloc ?_ _)); exact BK289.out)) : gb289 ≠ gb332)); have n7_ := Aside0.mk ((by rw [hg]; exact Nat.ne_of_gt (blk_lt (g := gb289) (o := .cells #[.int .i64 t313, .int .i64 t314, .int .i64 t315, .int .i64 t316, .int .i64 t317, .int .i64 t318, .int .i64 t319, .int .i64 t320, .bool t321] 25 (0, 0)) (by (with_reducible repeat (first | refine blk_drewN ?_ _ | refine blk_drew ?_ | refine blk_alloc ?_ _)); exact BK289.out)) : gb332 ≠ gb289)); clear HO_9; clear BK289; clear HB; have HO_9 := n0_; have BK289 := n1_; have HB := n2_; have BK332 := n3_; have GW332 := n4_; have GE332 := n5_; have NB289_332 := n6_; have NB332_289 := n7_; clear n0_ n1_ n2_ n3_ n4_ n5_ n6_ n7_; clear hb hbox hg; have hnb59 := NB332_289.out; have hnc59 := NB289_332.out; have hcz60_0 : w58.cell? ⟨gb332, 0, none⟩ = some (.int .i64 0) := (blk_cell BK332.out 0).trans rfl; have hcz60_1 : w58.cell? ⟨gb332, 1, none⟩ = some (.int .i64 0) := (blk_cell BK332.out 1).trans rfl; have hcz60_2 : w58.cell? ⟨gb332, 2, none⟩ = some (.int .i64 0) := (blk_cell BK332.out 2).trans rfl; have hcz60_3 : w58.cell? ⟨gb332, 3, none⟩ = some (.int .i64 0) := (blk_cell BK332.out 3).trans rfl; have hcz60_4 : w58.cell? ⟨gb332, 4, none⟩ = some (.int .i64 0) := (blk_cell BK332.out 4).trans rfl; have hcz60_5 : w58.cell? ⟨gb332, 5, none⟩ = some (.int .i64 0) := (blk_cell BK332.out 5).trans rfl; have hcz60_6 : w58.cell? ⟨gb332, 6, none⟩ = some (.int .i64 0) := (blk_cell BK332.out 6).trans rfl; have hcz60_7 : w58.cell? ⟨gb332, 7, none⟩ = some (.int .i64 0) := (blk_cell BK332.out 7).trans rfl; have hcz60_8 : w58.cell? ⟨gb332, 8, none⟩ = some (.bool false) := (blk_cell BK332.out 8).trans rfl; have hfz60_0 := blk_frozen BK332.out 0; have hfz60_1 := blk_frozen BK332.out 1; have hfz60_2 := blk_frozen BK332.out 2; have hfz60_3 := blk_frozen BK332.out 3; have hfz60_4 := blk_frozen BK332.out 4; have hfz60_5 := blk_frozen BK332.out 5; have hfz60_6 := blk_frozen BK332.out 6; have hfz60_7 := blk_frozen BK332.out 7; have hfz60_8 := blk_frozen BK332.out 8) | ((with_reducible refine gate_callee (f := 18) rfl ?_); refine goesL_ (some 114) rfl rfl Try.func18 (by kernel_rfl) rfl #[.agg #[.int .i64 ((rd_T25 t327 299).f0), .int .i64 ((rd_T25 t327 299).f1), .int .i64 ((rd_T25 t327 299).f2), .int .i64 ((rd_T25 t327 299).f3), .int .i64 ((rd_T25 t327 299).f4), .int .i64 ((rd_T25 t327 299).f5), .int .i64 ((rd_T25 t327 299).f6), .int .i64 ((rd_T25 t327 299).f7), .bool ((rd_T25 t327 299).f8)], .int .i64 0] rfl (by (try simp only [List.map_toArray, List.map_cons, List.map_nil]); first | done | rfl | (simp only [List.length_drop, List.length_take]; rfl)) ?_; (with_reducible refine (impl_PilotTick.calls k4 ((rd_T25 t327 299).f0) ((rd_T25 t327 299).f1) ((rd_T25 t327 299).f2) ((rd_T25 t327 299).f3) ((rd_T25 t327 299).f4) ((rd_T25 t327 299).f5) ((rd_T25 t327 299).f6) ((rd_T25 t327 299).f7) ((rd_T25 t327 299).f8) 0 t333 t334 t335 t336 t337 t338 t339 t340 t341 t342 _ A55.out).mono ?_); rintro e w61 ⟨rfl, hb⟩; refine ⟨_, rfl, ?_⟩; have n0_ := Aside0.mk (Kd.R_below (by (with_reducible repeat (first | apply Kd.R_alloc | apply Kd.R_drewN | apply Kd.R_drew)); exact (Kd.R_mono (Kd.R_far (p := ⟨gb332, 8, none⟩) (Kd.R_far (p := ⟨gb332, 7, none⟩) (Kd.R_far (p := ⟨gb332, 6, none⟩) (Kd.R_far (p := ⟨gb332, 5, none⟩) (Kd.R_far (p := ⟨gb332, 4, none⟩) (Kd.R_far (p := ⟨gb332, 3, none⟩) (Kd.R_far (p := ⟨gb332, 2, none⟩) (Kd.R_far (p := ⟨gb332, 1, none⟩) (Kd.R_far (p := ⟨gb332, 0, none⟩) (Kd.R_mono HO_9.out (fun k_ hk => (⟨hk, hk.2⟩ : _ ∧ k_ ≠ gb332))) (fun _ hk => hk.2) (.int .i64 ((rd_T25 t327 299).f0))) (fun _ hk => hk.2) (.int .i64 ((rd_T25 t327 299).f1))) (fun _ hk => hk.2) (.int .i64 ((rd_T25 t327 299).f2))) (fun _ hk => hk.2) (.int .i64 ((rd_T25 t327 299).f3))) (fun _ hk => hk.2) (.int .i64 ((rd_T25 t327 299).f4))) (fun _ hk => hk.2) (.int .i64 ((rd_T25 t327 299).f5))) (fun _ hk => hk.2) (.int .i64 ((rd_T25 t327 299).f6))) (fun _ hk => hk.2) (.int .i64 ((rd_T25 t327 299).f7))) (fun _ hk => hk.2) (.bool ((rd_T25 t327 299).f8))) (fun _ h_ => h_.1))) hb); have n1_ := Aside0.mk (blk_below (g := gb289) (o := .cells #[.int .i64 t313, .int .i64 t314, .int .i64 t315, .int .i64 t316, .int .i64 t317, .int .i64 t318, .int .i64 t319, .int .i64 t320, .bool t321] 25 (0, 0)) (by (with_reducible repeat (first | refine blk_drewN ?_ _ | refine blk_drew ?_ | refine blk_alloc ?_ _)); refine blk_far ?_ NB289_332.out _; (with_reducible repeat (first | refine blk_drewN ?_ _ | refine blk_drew ?_ | refine blk_alloc ?_ _)); refine blk_far ?_ NB289_332.out _; (with_reducible repeat (first | refine blk_drewN ?_ _ | refine blk_drew ?_ | refine blk_alloc ?_ _)); refine blk_far ?_ NB289_332.out _; (with_reducible repeat (first | refine blk_drewN ?_ _ | refine blk_drew ?_ | refine blk_alloc ?_ _)); refine blk_far ?_ NB289_332.out _; (with_reducible repeat (first | refine blk_drewN ?_ _ | refine blk_drew ?_ | refine blk_alloc ?_ _)); refine blk_far ?_ NB289_332.out _; (with_reducible repeat (first | refine blk_drewN ?_ _ | refine blk_drew ?_ | refine blk_alloc ?_ _)); refine blk_far ?_ NB289_332.out _; (with_reducible repeat (first | refine blk_drewN ?_ _ | refine blk_drew ?_ | refine blk_alloc ?_ _)); refine blk_far ?_ NB289_332.out _; (with_reducible repeat (first | refine blk_drewN ?_ _ | refine blk_drew ?_ | refine blk_alloc ?_ _)); refine blk_far ?_ NB289_332.out _; (with_reducible repeat (first | refine blk_drewN ?_ _ | refine blk_drew ?_ | refine blk_alloc ?_ _)); refine blk_far ?_ NB289_332.out _; (with_reducible repeat (first | refine blk_drewN ?_ _ | refine blk_drew ?_ | refine blk_alloc ?_ _)); exact BK289.out) hb); have n2_ := Aside0.mk (blk_below (g := gb332) (o := .cells #[.int .i64 ((rd_T25 t327 299).f0), .int .i64 ((rd_T25 t327 299).f1), .int .i64 ((rd_T25 t327 299).f2), .int .i64 ((rd_T25 t327 299).f3), .int .i64 ((rd_T25 t327 299).f4), .int .i64 ((rd_T25 t327 299).f5), .int .i64 ((rd_T25 t327 299).f6), .int .i64 ((rd_T25 t327 299).f7), .bool ((rd_T25 t327 299).f8)] 25 (0, 0)) (by (with_reducible repeat (first | refine blk_drewN ?_ _ | refine blk_drew ?_ | refine blk_alloc ?_ _)); refine blk_put (cs := #[.int .i64 ((rd_T25 t327 299).f0), .int .i64 ((rd_T25 t327 299).f1), .int .i64 ((rd_T25 t327 299).f2), .int .i64 ((rd_T25 t327 299).f3), .int .i64 ((rd_T25 t327 299).f4), .int .i64 ((rd_T25 t327 299).f5), .int .i64 ((rd_T25 t327 299).f6), .int .i64 ((rd_T25 t327 299).f7), .bool false]) ?_ 8 _ rfl; (with_reducible repeat (first | refine blk_drewN ?_ _ | refine blk_drew ?_ | refine blk_alloc ?_ _)); refine blk_put (cs := #[.int .i64 ((rd_T25 t327 299).f0), .int .i64 ((rd_T25 t327 299).f1), .int .i64 ((rd_T25 t327 299).f2), .int .i64 ((rd_T25 t327 299).f3), .int .i64 ((rd_T25 t327 299).f4), .int .i64 ((rd_T25 t327 299).f5), .int .i64 ((rd_T25 t327 299).f6), .int .i64 0, .bool false]) ?_ 7 _ rfl; (with_reducible repeat (first | refine blk_drewN ?_ _ | refine blk_drew ?_ | refine blk_alloc ?_ _)); refine blk_put (cs := #[.int .i64 ((rd_T25 t327 299).f0), .int .i64 ((rd_T25 t327 299).f1), .int .i64 ((rd_T25 t327 299).f2), .int .i64 ((rd_T25 t327 299).f3), .int .i64 ((rd_T25 t327 299).f4), .int .i64 ((rd_T25 t327 299).f5), .int .i64 0, .int .i64 0, .bool false]) ?_ 6 _ rfl; (with_reducible repeat (first | refine blk_drewN ?_ _ | refine blk_drew ?_ | refine blk_alloc ?_ _)); refine blk_put (cs := #[.int .i64 ((rd_T25 t327 299).f0), .int .i64 ((rd_T25 t327 299).f1), .int .i64 ((rd_T25 t327 299).f2), .int .i64 ((rd_T25 t327 299).f3), .int .i64 ((rd_T25 t327 299).f4), .int .i64 0, .int .i64 0, .int .i64 0, .bool false]) ?_ 5 _ rfl; (with_reducible repeat (first | refine blk_drewN ?_ _ | refine blk_drew ?_ | refine blk_alloc ?_ _)); refine blk_put (cs := #[.int .i64 ((rd_T25 t327 299).f0), .int .i64 ((rd_T25 t327 299).f1), .int .i64 ((rd_T25 t327 299).f2), .int .i64 ((rd_T25 t327 299).f3), .int .i64 0, .int .i64 0, .int .i64 0, .int .i64 0, .bool false]) ?_ 4 _ rfl; (with_reducible repeat (first | refine blk_drewN ?_ _ | refine blk_drew ?_ | refine blk_alloc ?_ _)); refine blk_put (cs := #[.int .i64 ((rd_T25 t327 299).f0), .int .i64 ((rd_T25 t327 299).f1), .int .i64 ((rd_T25 t327 299).f2), .int .i64 0, .int .i64 0, .int .i64 0, .int .i64 0, .int .i64 0, .bool false]) ?_ 3 _ rfl; (with_reducible repeat (first | refine blk_drewN ?_ _ | refine blk_drew ?_ | refine blk_alloc ?_ _)); refine blk_put (cs := #[.int .i64 ((rd_T25 t327 299).f0), .int .i64 ((rd_T25 t327 299).f1), .int .i64 0, .int .i64 0, .int .i64 0, .int .i64 0, .int .i64 0, .int .i64 0, .bool false]) ?_ 2 _ rfl; (with_reducible repeat (first | refine blk_drewN ?_ _ | refine blk_drew ?_ | refine blk_alloc ?_ _)); refine blk_put (cs := #[.int .i64 ((rd_T25 t327 299).f0), .int .i64 0, .int .i64 0, .int .i64 0, .int .i64 0, .int .i64 0, .int .i64 0, .int .i64 0, .bool false]) ?_ 1 _ rfl; (with_reducible repeat (first | refine blk_drewN ?_ _ | refine blk_drew ?_ | refine blk_alloc ?_ _)); refine blk_put (cs := #[.int .i64 0, .int .i64 0, .int .i64 0, .int .i64 0, .int .i64 0, .int .i64 0, .int .i64 0, .int .i64 0, .bool false]) ?_ 0 _ rfl; (with_reducible repeat (first | refine blk_drewN ?_ _ | refine blk_drew ?_ | refine blk_alloc ?_ _)); exact BK332.out) hb); have n3_ := Aside0.mk (below_step (by repeat (first | (with_reducible first | exact HB.out | apply below_alloc | apply pw_below_drewN | apply below_drew1 | refine below_set ?_ GE289.out | refine below_set ?_ GE332.out) | exact HB.out)) hb); clear HO_9; clear BK289; clear BK332; clear HB; have HO_9 := n0_; have BK289 := n1_; have BK332 := n2_; have HB := n3_; clear n0_ n1_ n2_ n3_; (try clear hb); (try clear hb2); (try clear hk); (try clear hi)) | ((with_reducible refine gate_dst (N := 14) rfl ?_); (try (refine gate_guard (by rfl) ?_; dsimp only)); refine box_event ?hg (N := 14) ?hd (cs := #[.int .i64 0, .int .i64 0, .int .i64 0, .int .i64 0, .int .i64 0, .int .i64 0, .int .i64 0, .int .i64 0, .bool false]) (t := 25) ?hr ?_; (case hd => rfl); (case hg => rfl); (case hr => first | (go_simp; done) | (go_simp; rfl)); intro gb343 hg w62 hbox hb; have n0_ := Aside0.mk (Kd.R_below (Kd.R_elderB (by (with_reducible repeat (first | apply Kd.R_alloc | apply Kd.R_drewN | apply Kd.R_drew)); exact HO_9.out) gb343 (Nat.le_of_eq hg.symm)) hb); have n1_ := Aside0.mk (blk_below (g := gb289) (o := .cells #[.int .i64 t313, .int .i64 t314, .int .i64 t315, .int .i64 t316, .int .i64 t317, .int .i64 t318, .int .i64 t319, .int .i64 t320, .bool t321] 25 (0, 0)) (by (with_reducible repeat (first | refine blk_drewN ?_ _ | refine blk_drew ?_ | refine blk_alloc ?_ _)); exact BK289.out) hb); have n2_ := Aside0.mk (blk_below (g := gb332) (o := .cells #[.int .i64 ((rd_T25 t327 299).f0), .int .i64 ((rd_T25 t327 299).f1), .int .i64 ((rd_T25 t327 299).f2), .int .i64 ((rd_T25 t327 299).f3), .int .i64 ((rd_T25 t327 299).f4), .int .i64 ((rd_T25 t327 299).f5), .int .i64 ((rd_T25 t327 299).f6), .int .i64 ((rd_T25 t327 299).f7), .bool ((rd_T25 t327 299).f8)] 25 (0, 0)) (by (with_reducible repeat (first | refine blk_drewN ?_ _ | refine blk_drew ?_ | refine blk_alloc ?_ _)); exact BK332.out) hb); have n3_ := Aside0.mk (below_step (by repeat (first | (with_reducible first | exact HB.out | apply below_alloc | apply pw_below_drewN | apply below_drew1 | refine below_set ?_ GE289.out | refine below_set ?_ GE332.out) | exact HB.out)) hb); have n4_ := Aside0.mk (hbox); have n5_ := Aside0.mk ((by rw [hg]; exact (below_size (by repeat (first | (with_reducible first | exact HB.out | apply below_alloc | apply pw_below_drewN | apply below_drew1 | refine below_set ?_ GE289.out | refine below_set ?_ GE332.out) | exact HB.out))) : w.heap.size ≤ gb343)); have n6_ := Aside0.mk ((by rw [hg]; exact (below_size (by repeat (first | (with_reducible first | exact HB.out | apply below_alloc | apply pw_below_drewN | apply below_drew1 | refine below_set ?_ GE289.out | refine below_set ?_ GE332.out) | exact HB.out))) : w.heap.size ≤ gb343)); have n7_ := Aside0.mk ((by rw [hg]; exact Nat.ne_of_lt (blk_lt (g := gb289) (o := .cells #[.int .i64 t313, .int .i64 t314, .int .i64 t315, .int .i64 t316, .int .i64 t317, .int .i64 t318, .int .i64 t319, .int .i64 t320, .bool t321] 25 (0, 0)) (by (with_reducible repeat (first | refine blk_drewN ?_ _ | refine blk_drew ?_ | refine blk_alloc ?_ _)); exact BK289.out)) : gb289 ≠ gb343)); have n8_ := Aside0.mk ((by rw [hg]; exact Nat.ne_of_gt (blk_lt (g := gb289) (o := .cells #[.int .i64 t313, .int .i64 t314, .int .i64 t315, .int .i64 t316, .int .i64 t317, .int .i64 t318, .int .i64 t319, .int .i64 t320, .bool t321] 25 (0, 0)) (by (with_reducible repeat (first | refine blk_drewN ?_ _ | refine blk_drew ?_ | refine blk_alloc ?_ _)); exact BK289.out)) : gb343 ≠ gb289)); have n9_ := Aside0.mk ((by rw [hg]; exact Nat.ne_of_lt (blk_lt (g := gb332) (o := .cells #[.int .i64 ((rd_T25 t327 299).f0), .int .i64 ((rd_T25 t327 299).f1), .int .i64 ((rd_T25 t327 299).f2), .int .i64 ((rd_T25 t327 299).f3), .int .i64 ((rd_T25 t327 299).f4), .int .i64 ((rd_T25 t327 299).f5), .int .i64 ((rd_T25 t327 299).f6), .int .i64 ((rd_T25 t327 299).f7), .bool ((rd_T25 t327 299).f8)] 25 (0, 0)) (by (with_reducible repeat (first | refine blk_drewN ?_ _ | refine blk_drew ?_ | refine blk_alloc ?_ _)); exact BK332.out)) : gb332 ≠ gb343)); have n10_ := Aside0.mk ((by rw [hg]; exact Nat.ne_of_gt (blk_lt (g := gb332) (o := .cells #[.int .i64 ((rd_T25 t327 299).f0), .int .i64 ((rd_T25 t327 299).f1), .int .i64 ((rd_T25 t327 299).f2), .int .i64 ((rd_T25 t327 299).f3), .int .i64 ((rd_T25 t327 299).f4), .int .i64 ((rd_T25 t327 299).f5), .int .i64 ((rd_T25 t327 299).f6), .int .i64 ((rd_T25 t327 299).f7), .bool ((rd_T25 t327 299).f8)] 25 (0, 0)) (by (with_reducible repeat (first | refine blk_drewN ?_ _ | refine blk_drew ?_ | refine blk_alloc ?_ _)); exact BK332.out)) : gb343 ≠ gb332)); clear HO_9; clear BK289; clear BK332; clear HB; have HO_9 := n0_; have BK289 := n1_; have BK332 := n2_; have HB := n3_; have BK343 := n4_; have GW343 := n5_; have GE343 := n6_; have NB289_343 := n7_; have NB343_289 := n8_; have NB332_343 := n9_; have NB343_332 := n10_; clear n0_ n1_ n2_ n3_ n4_ n5_ n6_ n7_ n8_ n9_ n10_; clear hb hbox hg; have hnb63 := NB343_289.out; have hnc63 := NB289_343.out; have hnb64 := NB343_332.out; have hnc64 := NB332_343.out; have hcz65_0 : w62.cell? ⟨gb343, 0, none⟩ = some (.int .i64 0) := (blk_cell BK343.out 0).trans rfl; have hcz65_1 : w62.cell? ⟨gb343, 1, none⟩ = some (.int .i64 0) := (blk_cell BK343.out 1).trans rfl; have hcz65_2 : w62.cell? ⟨gb343, 2, none⟩ = some (.int .i64 0) := (blk_cell BK343.out 2).trans rfl; have hcz65_3 : w62.cell? ⟨gb343, 3, none⟩ = some (.int .i64 0) := (blk_cell BK343.out 3).trans rfl; have hcz65_4 : w62.cell? ⟨gb343, 4, none⟩ = some (.int .i64 0) := (blk_cell BK343.out 4).trans rfl; have hcz65_5 : w62.cell? ⟨gb343, 5, none⟩ = some (.int .i64 0) := (blk_cell BK343.out 5).trans rfl; have hcz65_6 : w62.cell? ⟨gb343, 6, none⟩ = some (.int .i64 0) := (blk_cell BK343.out 6).trans rfl; have hcz65_7 : w62.cell? ⟨gb343, 7, none⟩ = some (.int .i64 0) := (blk_cell BK343.out 7).trans rfl; have hcz65_8 : w62.cell? ⟨gb343, 8, none⟩ = some (.bool false) := (blk_cell BK343.out 8).trans rfl; have hfz65_0 := blk_frozen BK343.out 0; have hfz65_1 := blk_frozen BK343.out 1; have hfz65_2 := blk_frozen BK343.out 2; have hfz65_3 := blk_frozen BK343.out 3; have hfz65_4 := blk_frozen BK343.out 4; have hfz65_5 := blk_frozen BK343.out 5; have hfz65_6 := blk_frozen BK343.out 6; have hfz65_7 := blk_frozen BK343.out 7; have hfz65_8 := blk_frozen BK343.out 8))
               (try simp only [Act.put, List.setIfInBounds_toArray, List.set_cons_zero, List.set_cons_succ])
               have H := HC56.out
               clear HC56
               by_cases c66 : ((rd_T25 t327 299).f0) = 1
               ·
                rw [if_pos c66] at H
                have c66b0 : (((rd_T25 t327 299).f0) == 1) = true := beq_iff_eq.mpr c66
                have c66b1 : (((rd_T25 t327 299).f0) != 1) = false := bne_eq_false_iff_eq.mpr c66
                clear c66
                (first | rw [c66b0] | (simp only [i64_w, i32_w]; rw [c66b0]) | skip)
                by_cases c67 : ((rd_T25 t327 299).f2) = (wrap64 (1000 + x4_6))
                ·
                 rw [if_pos c67] at H
                 have c67b0 : (((rd_T25 t327 299).f2) == (wrap64 (1000 + x4_6))) = true := beq_iff_eq.mpr c67
                 have c67b1 : (((rd_T25 t327 299).f2) != (wrap64 (1000 + x4_6))) = false := bne_eq_false_iff_eq.mpr c67
                 clear c67
                 by_cases c68 : ((rd_T25 t327 299).f4) = 0
                 ·
                  rw [if_pos c68] at H
                  have c68b0 : (((rd_T25 t327 299).f4) == 0) = true := beq_iff_eq.mpr c68
                  have c68b1 : (((rd_T25 t327 299).f4) != 0) = false := bne_eq_false_iff_eq.mpr c68
                  clear c68
                  obtain ⟨y344, hy344⟩ : ∃ y_ : List (S25), y_ = (([(⟨t313, t314, t315, t316, t317, t318, t319, t320, t321⟩ : S25)] : List (S25))) := ⟨_, rfl⟩
                  replace H : (if y344.length + t327.length < 1954687338268 then ((impl_Changes.f k4 (y344 ++ t327)).bind fun t350 => (if t350 ≤ 2 then (if t342 = true then (some (t333 == ((rd_T25 t327 299).f0) && (t334 == ((rd_T25 t327 299).f1) && (t335 == ((rd_T25 t327 299).f2) && (t336 == ((rd_T25 t327 299).f3) && (t337 == ((rd_T25 t327 299).f4) && (t338 == ((rd_T25 t327 299).f5) && (t339 == ((rd_T25 t327 299).f6) && (t340 == ((rd_T25 t327 299).f7) && (t341 == ((rd_T25 t327 299).f8))))))))))) else (some false)) else (some false))) else (none)) = some r := by first | (rw [hy344]; with_reducible exact H) | (have H2_ := (Option.bind_some _ _).symm.trans H; rw [hy344]; with_reducible exact H2_) | (have H2_ := (Option.bind_some _ _).symm.trans H; with_reducible exact H2_) | with_reducible exact H | (rw [hy344]; exact H) | exact H
                  have Ny344 := Aside0.mk hy344
                  clear hy344
                  by_cases c69 : y344.length + t327.length < 1954687338268
                  ·
                   rw [if_pos c69] at H
                   have LMc69 := Aside0.mk c69
                   clear c69
                   obtain ⟨y347, hy347⟩ : ∃ y_ : List (S25), y_ = (y344 ++ t327) := ⟨_, rfl⟩
                   replace H : ((impl_Changes.f k4 y347).bind fun t350 => (if t350 ≤ 2 then (if t342 = true then (some (t333 == ((rd_T25 t327 299).f0) && (t334 == ((rd_T25 t327 299).f1) && (t335 == ((rd_T25 t327 299).f2) && (t336 == ((rd_T25 t327 299).f3) && (t337 == ((rd_T25 t327 299).f4) && (t338 == ((rd_T25 t327 299).f5) && (t339 == ((rd_T25 t327 299).f6) && (t340 == ((rd_T25 t327 299).f7) && (t341 == ((rd_T25 t327 299).f8))))))))))) else (some false)) else (some false))) = some r := by first | (rw [hy347]; with_reducible exact H) | (have H2_ := (Option.bind_some _ _).symm.trans H; rw [hy347]; with_reducible exact H2_) | (have H2_ := (Option.bind_some _ _).symm.trans H; with_reducible exact H2_) | with_reducible exact H | (rw [hy347]; exact H) | exact H
                   have Ny347 := Aside0.mk hy347
                   clear hy347
                   replace H := Option.bind_eq_some_iff.mp H
                   obtain ⟨t350, A700, H⟩ := H
                   replace H : (if t350 ≤ 2 then (if t342 = true then (some (t333 == ((rd_T25 t327 299).f0) && (t334 == ((rd_T25 t327 299).f1) && (t335 == ((rd_T25 t327 299).f2) && (t336 == ((rd_T25 t327 299).f3) && (t337 == ((rd_T25 t327 299).f4) && (t338 == ((rd_T25 t327 299).f5) && (t339 == ((rd_T25 t327 299).f6) && (t340 == ((rd_T25 t327 299).f7) && (t341 == ((rd_T25 t327 299).f8))))))))))) else (some false)) else (some false)) = some r := H
                   have A70 := Aside0.mk A700
                   clear A700
                   by_cases c71 : t350 ≤ 2
                   ·
                    rw [if_pos c71] at H
                    have c71b0 : decide (t350 ≤ 2) = true := decide_eq_true c71
                    clear c71
                    by_cases c72 : t342 = true
                    ·
                     subst c72
                     have H1 : (some (t333 == ((rd_T25 t327 299).f0) && (t334 == ((rd_T25 t327 299).f1) && (t335 == ((rd_T25 t327 299).f2) && (t336 == ((rd_T25 t327 299).f3) && (t337 == ((rd_T25 t327 299).f4) && (t338 == ((rd_T25 t327 299).f5) && (t339 == ((rd_T25 t327 299).f6) && (t340 == ((rd_T25 t327 299).f7) && (t341 == ((rd_T25 t327 299).f8))))))))))) = some r := by rw [if_pos rfl] at H; exact H
                     clear H
                     have H := H1
                     clear H1
                     obtain rfl := Option.some.inj H
                     have hnb73 := NB332_289.out
                     have hnc73 := NB289_332.out
                     have hnb74 := NB332_343.out
                     have hnc74 := NB343_332.out
                     have hcz75_0 : w62.cell? ⟨gb332, 0, none⟩ = some (.int .i64 ((rd_T25 t327 299).f0)) := (blk_cell BK332.out 0).trans rfl
                     have hcz75_1 : w62.cell? ⟨gb332, 1, none⟩ = some (.int .i64 ((rd_T25 t327 299).f1)) := (blk_cell BK332.out 1).trans rfl
                     have hcz75_2 : w62.cell? ⟨gb332, 2, none⟩ = some (.int .i64 ((rd_T25 t327 299).f2)) := (blk_cell BK332.out 2).trans rfl
                     have hcz75_3 : w62.cell? ⟨gb332, 3, none⟩ = some (.int .i64 ((rd_T25 t327 299).f3)) := (blk_cell BK332.out 3).trans rfl
                     have hcz75_4 : w62.cell? ⟨gb332, 4, none⟩ = some (.int .i64 ((rd_T25 t327 299).f4)) := (blk_cell BK332.out 4).trans rfl
                     have hcz75_5 : w62.cell? ⟨gb332, 5, none⟩ = some (.int .i64 ((rd_T25 t327 299).f5)) := (blk_cell BK332.out 5).trans rfl
                     have hcz75_6 : w62.cell? ⟨gb332, 6, none⟩ = some (.int .i64 ((rd_T25 t327 299).f6)) := (blk_cell BK332.out 6).trans rfl
                     have hcz75_7 : w62.cell? ⟨gb332, 7, none⟩ = some (.int .i64 ((rd_T25 t327 299).f7)) := (blk_cell BK332.out 7).trans rfl
                     have hcz75_8 : w62.cell? ⟨gb332, 8, none⟩ = some (.bool ((rd_T25 t327 299).f8)) := (blk_cell BK332.out 8).trans rfl
                     have hfz75_0 := blk_frozen BK332.out 0
                     have hfz75_1 := blk_frozen BK332.out 1
                     have hfz75_2 := blk_frozen BK332.out 2
                     have hfz75_3 := blk_frozen BK332.out 3
                     have hfz75_4 := blk_frozen BK332.out 4
                     have hfz75_5 := blk_frozen BK332.out 5
                     have hfz75_6 := blk_frozen BK332.out 6
                     have hfz75_7 := blk_frozen BK332.out 7
                     have hfz75_8 := blk_frozen BK332.out 8
                     have hnb76 := NB289_343.out
                     have hnc76 := NB343_289.out
                     have hcz77_0 : w62.cell? ⟨gb289, 0, none⟩ = some (.int .i64 t313) := (blk_cell BK289.out 0).trans rfl
                     have hcz77_1 : w62.cell? ⟨gb289, 1, none⟩ = some (.int .i64 t314) := (blk_cell BK289.out 1).trans rfl
                     have hcz77_2 : w62.cell? ⟨gb289, 2, none⟩ = some (.int .i64 t315) := (blk_cell BK289.out 2).trans rfl
                     have hcz77_3 : w62.cell? ⟨gb289, 3, none⟩ = some (.int .i64 t316) := (blk_cell BK289.out 3).trans rfl
                     have hcz77_4 : w62.cell? ⟨gb289, 4, none⟩ = some (.int .i64 t317) := (blk_cell BK289.out 4).trans rfl
                     have hcz77_5 : w62.cell? ⟨gb289, 5, none⟩ = some (.int .i64 t318) := (blk_cell BK289.out 5).trans rfl
                     have hcz77_6 : w62.cell? ⟨gb289, 6, none⟩ = some (.int .i64 t319) := (blk_cell BK289.out 6).trans rfl
                     have hcz77_7 : w62.cell? ⟨gb289, 7, none⟩ = some (.int .i64 t320) := (blk_cell BK289.out 7).trans rfl
                     have hcz77_8 : w62.cell? ⟨gb289, 8, none⟩ = some (.bool t321) := (blk_cell BK289.out 8).trans rfl
                     have hfz77_0 := blk_frozen BK289.out 0
                     have hfz77_1 := blk_frozen BK289.out 1
                     have hfz77_2 := blk_frozen BK289.out 2
                     have hfz77_3 := blk_frozen BK289.out 3
                     have hfz77_4 := blk_frozen BK289.out 4
                     have hfz77_5 := blk_frozen BK289.out 5
                     have hfz77_6 := blk_frozen BK289.out 6
                     have hfz77_7 := blk_frozen BK289.out 7
                     have hfz77_8 := blk_frozen BK289.out 8
                     go_wp2_with (first | ((with_reducible refine gate_dst (N := 134) rfl ?_); (try (refine gate_guard (by rfl) ?_; dsimp only)); refine Kd.R_lit k25 _ 25 ?hg (N := 134) ?hd (xs := ([(⟨t313, t314, t315, t316, t317, t318, t319, t320, t321⟩ : S25)] : List (S25))) (inner := [.int .i64 t313, .int .i64 t314, .int .i64 t315, .int .i64 t316, .int .i64 t317, .int .i64 t318, .int .i64 t319, .int .i64 t320, .bool t321]) (ok := fun _ => True) (okp := fun _ => True) ?hr ?hp (fun _ hk => hk) trivial (Below.refl _ _) (Nat.le_refl _) (by simp) ?_; (case hd => rfl); (case hg => rfl); (case hr => first | (go_simp; done) | (go_simp; rfl)); (case hp => exact (Reps.c9 (show Kd.M k25 _ _ _ (⟨t313, t314, t315, t316, t317, t318, t319, t320, t321⟩ : S25) [.int .i64 t313, .int .i64 t314, .int .i64 t315, .int .i64 t316, .int .i64 t317, .int .i64 t318, .int .i64 t319, .int .i64 t320, .bool t321] from (k25_mkM _ _ _ (⟨t313, t314, t315, t316, t317, t318, t319, t320, t321⟩ : S25) )) (Reps.none _ _))); intro v345 w78 ho79 hb hg_ hnew_; clear hg_ hnew_; (first | rw [← Ny344.out] at ho79 | (simp only [Int.reduceToNat] at ho79; rw [← Ny344.out] at ho79)); have n0_ := Aside0.mk (Kd.R_elder' (by (with_reducible repeat (first | apply Kd.R_alloc | apply Kd.R_drewN | apply Kd.R_drew)); exact (Kd.R_mono (Kd.R_far (p := ⟨gb343, 8, none⟩) (Kd.R_far (p := ⟨gb343, 7, none⟩) (Kd.R_far (p := ⟨gb343, 6, none⟩) (Kd.R_far (p := ⟨gb343, 5, none⟩) (Kd.R_far (p := ⟨gb343, 4, none⟩) (Kd.R_far (p := ⟨gb343, 3, none⟩) (Kd.R_far (p := ⟨gb343, 2, none⟩) (Kd.R_far (p := ⟨gb343, 1, none⟩) (Kd.R_far (p := ⟨gb343, 0, none⟩) (Kd.R_mono HO_9.out (fun k_ hk => (⟨hk, hk.2⟩ : _ ∧ k_ ≠ gb343))) (fun _ hk => hk.2) (.int .i64 t333)) (fun _ hk => hk.2) (.int .i64 t334)) (fun _ hk => hk.2) (.int .i64 t335)) (fun _ hk => hk.2) (.int .i64 t336)) (fun _ hk => hk.2) (.int .i64 t337)) (fun _ hk => hk.2) (.int .i64 t338)) (fun _ hk => hk.2) (.int .i64 t339)) (fun _ hk => hk.2) (.int .i64 t340)) (fun _ hk => hk.2) (.bool t341)) (fun _ h_ => h_.1))) (Kd.R_base ho79) hb); have n1_ := Aside0.mk (Kd.R_lower (Kd.R_newB (Kd.R_newB (Kd.R_newB (Kd.R_new' ho79 (Kd.R_lt (by (with_reducible repeat (first | apply Kd.R_alloc | apply Kd.R_drewN | apply Kd.R_drew)); exact (Kd.R_mono (Kd.R_far (p := ⟨gb343, 8, none⟩) (Kd.R_far (p := ⟨gb343, 7, none⟩) (Kd.R_far (p := ⟨gb343, 6, none⟩) (Kd.R_far (p := ⟨gb343, 5, none⟩) (Kd.R_far (p := ⟨gb343, 4, none⟩) (Kd.R_far (p := ⟨gb343, 3, none⟩) (Kd.R_far (p := ⟨gb343, 2, none⟩) (Kd.R_far (p := ⟨gb343, 1, none⟩) (Kd.R_far (p := ⟨gb343, 0, none⟩) (Kd.R_mono HO_9.out (fun k_ hk => (⟨hk, hk.2⟩ : _ ∧ k_ ≠ gb343))) (fun _ hk => hk.2) (.int .i64 t333)) (fun _ hk => hk.2) (.int .i64 t334)) (fun _ hk => hk.2) (.int .i64 t335)) (fun _ hk => hk.2) (.int .i64 t336)) (fun _ hk => hk.2) (.int .i64 t337)) (fun _ hk => hk.2) (.int .i64 t338)) (fun _ hk => hk.2) (.int .i64 t339)) (fun _ hk => hk.2) (.int .i64 t340)) (fun _ hk => hk.2) (.bool t341)) (fun _ h_ => h_.1))))) (g := gb289) (o := .cells #[.int .i64 t313, .int .i64 t314, .int .i64 t315, .int .i64 t316, .int .i64 t317, .int .i64 t318, .int .i64 t319, .int .i64 t320, .bool t321] 25 (0, 0)) (by (with_reducible repeat (first | refine blk_drewN ?_ _ | refine blk_drew ?_ | refine blk_alloc ?_ _)); refine blk_far ?_ NB289_343.out _; (with_reducible repeat (first | refine blk_drewN ?_ _ | refine blk_drew ?_ | refine blk_alloc ?_ _)); refine blk_far ?_ NB289_343.out _; (with_reducible repeat (first | refine blk_drewN ?_ _ | refine blk_drew ?_ | refine blk_alloc ?_ _)); refine blk_far ?_ NB289_343.out _; (with_reducible repeat (first | refine blk_drewN ?_ _ | refine blk_drew ?_ | refine blk_alloc ?_ _)); refine blk_far ?_ NB289_343.out _; (with_reducible repeat (first | refine blk_drewN ?_ _ | refine blk_drew ?_ | refine blk_alloc ?_ _)); refine blk_far ?_ NB289_343.out _; (with_reducible repeat (first | refine blk_drewN ?_ _ | refine blk_drew ?_ | refine blk_alloc ?_ _)); refine blk_far ?_ NB289_343.out _; (with_reducible repeat (first | refine blk_drewN ?_ _ | refine blk_drew ?_ | refine blk_alloc ?_ _)); refine blk_far ?_ NB289_343.out _; (with_reducible repeat (first | refine blk_drewN ?_ _ | refine blk_drew ?_ | refine blk_alloc ?_ _)); refine blk_far ?_ NB289_343.out _; (with_reducible repeat (first | refine blk_drewN ?_ _ | refine blk_drew ?_ | refine blk_alloc ?_ _)); refine blk_far ?_ NB289_343.out _; (with_reducible repeat (first | refine blk_drewN ?_ _ | refine blk_drew ?_ | refine blk_alloc ?_ _)); exact BK289.out)) (g := gb332) (o := .cells #[.int .i64 ((rd_T25 t327 299).f0), .int .i64 ((rd_T25 t327 299).f1), .int .i64 ((rd_T25 t327 299).f2), .int .i64 ((rd_T25 t327 299).f3), .int .i64 ((rd_T25 t327 299).f4), .int .i64 ((rd_T25 t327 299).f5), .int .i64 ((rd_T25 t327 299).f6), .int .i64 ((rd_T25 t327 299).f7), .bool ((rd_T25 t327 299).f8)] 25 (0, 0)) (by (with_reducible repeat (first | refine blk_drewN ?_ _ | refine blk_drew ?_ | refine blk_alloc ?_ _)); refine blk_far ?_ NB332_343.out _; (with_reducible repeat (first | refine blk_drewN ?_ _ | refine blk_drew ?_ | refine blk_alloc ?_ _)); refine blk_far ?_ NB332_343.out _; (with_reducible repeat (first | refine blk_drewN ?_ _ | refine blk_drew ?_ | refine blk_alloc ?_ _)); refine blk_far ?_ NB332_343.out _; (with_reducible repeat (first | refine blk_drewN ?_ _ | refine blk_drew ?_ | refine blk_alloc ?_ _)); refine blk_far ?_ NB332_343.out _; (with_reducible repeat (first | refine blk_drewN ?_ _ | refine blk_drew ?_ | refine blk_alloc ?_ _)); refine blk_far ?_ NB332_343.out _; (with_reducible repeat (first | refine blk_drewN ?_ _ | refine blk_drew ?_ | refine blk_alloc ?_ _)); refine blk_far ?_ NB332_343.out _; (with_reducible repeat (first | refine blk_drewN ?_ _ | refine blk_drew ?_ | refine blk_alloc ?_ _)); refine blk_far ?_ NB332_343.out _; (with_reducible repeat (first | refine blk_drewN ?_ _ | refine blk_drew ?_ | refine blk_alloc ?_ _)); refine blk_far ?_ NB332_343.out _; (with_reducible repeat (first | refine blk_drewN ?_ _ | refine blk_drew ?_ | refine blk_alloc ?_ _)); refine blk_far ?_ NB332_343.out _; (with_reducible repeat (first | refine blk_drewN ?_ _ | refine blk_drew ?_ | refine blk_alloc ?_ _)); exact BK332.out)) (g := gb343) (o := .cells #[.int .i64 t333, .int .i64 t334, .int .i64 t335, .int .i64 t336, .int .i64 t337, .int .i64 t338, .int .i64 t339, .int .i64 t340, .bool t341] 25 (0, 0)) (by (with_reducible repeat (first | refine blk_drewN ?_ _ | refine blk_drew ?_ | refine blk_alloc ?_ _)); refine blk_put (cs := #[.int .i64 t333, .int .i64 t334, .int .i64 t335, .int .i64 t336, .int .i64 t337, .int .i64 t338, .int .i64 t339, .int .i64 t340, .bool false]) ?_ 8 _ rfl; (with_reducible repeat (first | refine blk_drewN ?_ _ | refine blk_drew ?_ | refine blk_alloc ?_ _)); refine blk_put (cs := #[.int .i64 t333, .int .i64 t334, .int .i64 t335, .int .i64 t336, .int .i64 t337, .int .i64 t338, .int .i64 t339, .int .i64 0, .bool false]) ?_ 7 _ rfl; (with_reducible repeat (first | refine blk_drewN ?_ _ | refine blk_drew ?_ | refine blk_alloc ?_ _)); refine blk_put (cs := #[.int .i64 t333, .int .i64 t334, .int .i64 t335, .int .i64 t336, .int .i64 t337, .int .i64 t338, .int .i64 0, .int .i64 0, .bool false]) ?_ 6 _ rfl; (with_reducible repeat (first | refine blk_drewN ?_ _ | refine blk_drew ?_ | refine blk_alloc ?_ _)); refine blk_put (cs := #[.int .i64 t333, .int .i64 t334, .int .i64 t335, .int .i64 t336, .int .i64 t337, .int .i64 0, .int .i64 0, .int .i64 0, .bool false]) ?_ 5 _ rfl; (with_reducible repeat (first | refine blk_drewN ?_ _ | refine blk_drew ?_ | refine blk_alloc ?_ _)); refine blk_put (cs := #[.int .i64 t333, .int .i64 t334, .int .i64 t335, .int .i64 t336, .int .i64 0, .int .i64 0, .int .i64 0, .int .i64 0, .bool false]) ?_ 4 _ rfl; (with_reducible repeat (first | refine blk_drewN ?_ _ | refine blk_drew ?_ | refine blk_alloc ?_ _)); refine blk_put (cs := #[.int .i64 t333, .int .i64 t334, .int .i64 t335, .int .i64 0, .int .i64 0, .int .i64 0, .int .i64 0, .int .i64 0, .bool false]) ?_ 3 _ rfl; (with_reducible repeat (first | refine blk_drewN ?_ _ | refine blk_drew ?_ | refine blk_alloc ?_ _)); refine blk_put (cs := #[.int .i64 t333, .int .i64 t334, .int .i64 0, .int .i64 0, .int .i64 0, .int .i64 0, .int .i64 0, .int .i64 0, .bool false]) ?_ 2 _ rfl; (with_reducible repeat (first | refine blk_drewN ?_ _ | refine blk_drew ?_ | refine blk_alloc ?_ _)); refine blk_put (cs := #[.int .i64 t333, .int .i64 0, .int .i64 0, .int .i64 0, .int .i64 0, .int .i64 0, .int .i64 0, .int .i64 0, .bool false]) ?_ 1 _ rfl; (with_reducible repeat (first | refine blk_drewN ?_ _ | refine blk_drew ?_ | refine blk_alloc ?_ _)); refine blk_put (cs := #[.int .i64 0, .int .i64 0, .int .i64 0, .int .i64 0, .int .i64 0, .int .i64 0, .int .i64 0, .int .i64 0, .bool false]) ?_ 0 _ rfl; (with_reducible repeat (first | refine blk_drewN ?_ _ | refine blk_drew ?_ | refine blk_alloc ?_ _)); exact BK343.out)) (below_size (by repeat (first | (with_reducible first | exact HB.out | apply below_alloc | apply pw_below_drewN | apply below_drew1 | refine below_set ?_ GE289.out | refine below_set ?_ GE332.out | refine below_set ?_ GE343.out) | exact HB.out)))); have n2_ := Aside0.mk (blk_below (g := gb289) (o := .cells #[.int .i64 t313, .int .i64 t314, .int .i64 t315, .int .i64 t316, .int .i64 t317, .int .i64 t318, .int .i64 t319, .int .i64 t320, .bool t321] 25 (0, 0)) (by (with_reducible repeat (first | refine blk_drewN ?_ _ | refine blk_drew ?_ | refine blk_alloc ?_ _)); refine blk_far ?_ NB289_343.out _; (with_reducible repeat (first | refine blk_drewN ?_ _ | refine blk_drew ?_ | refine blk_alloc ?_ _)); refine blk_far ?_ NB289_343.out _; (with_reducible repeat (first | refine blk_drewN ?_ _ | refine blk_drew ?_ | refine blk_alloc ?_ _)); refine blk_far ?_ NB289_343.out _; (with_reducible repeat (first | refine blk_drewN ?_ _ | refine blk_drew ?_ | refine blk_alloc ?_ _)); refine blk_far ?_ NB289_343.out _; (with_reducible repeat (first | refine blk_drewN ?_ _ | refine blk_drew ?_ | refine blk_alloc ?_ _)); refine blk_far ?_ NB289_343.out _; (with_reducible repeat (first | refine blk_drewN ?_ _ | refine blk_drew ?_ | refine blk_alloc ?_ _)); refine blk_far ?_ NB289_343.out _; (with_reducible repeat (first | refine blk_drewN ?_ _ | refine blk_drew ?_ | refine blk_alloc ?_ _)); refine blk_far ?_ NB289_343.out _; (with_reducible repeat (first | refine blk_drewN ?_ _ | refine blk_drew ?_ | refine blk_alloc ?_ _)); refine blk_far ?_ NB289_343.out _; (with_reducible repeat (first | refine blk_drewN ?_ _ | refine blk_drew ?_ | refine blk_alloc ?_ _)); refine blk_far ?_ NB289_343.out _; (with_reducible repeat (first | refine blk_drewN ?_ _ | refine blk_drew ?_ | refine blk_alloc ?_ _)); exact BK289.out) hb); have n3_ := Aside0.mk (blk_below (g := gb332) (o := .cells #[.int .i64 ((rd_T25 t327 299).f0), .int .i64 ((rd_T25 t327 299).f1), .int .i64 ((rd_T25 t327 299).f2), .int .i64 ((rd_T25 t327 299).f3), .int .i64 ((rd_T25 t327 299).f4), .int .i64 ((rd_T25 t327 299).f5), .int .i64 ((rd_T25 t327 299).f6), .int .i64 ((rd_T25 t327 299).f7), .bool ((rd_T25 t327 299).f8)] 25 (0, 0)) (by (with_reducible repeat (first | refine blk_drewN ?_ _ | refine blk_drew ?_ | refine blk_alloc ?_ _)); refine blk_far ?_ NB332_343.out _; (with_reducible repeat (first | refine blk_drewN ?_ _ | refine blk_drew ?_ | refine blk_alloc ?_ _)); refine blk_far ?_ NB332_343.out _; (with_reducible repeat (first | refine blk_drewN ?_ _ | refine blk_drew ?_ | refine blk_alloc ?_ _)); refine blk_far ?_ NB332_343.out _; (with_reducible repeat (first | refine blk_drewN ?_ _ | refine blk_drew ?_ | refine blk_alloc ?_ _)); refine blk_far ?_ NB332_343.out _; (with_reducible repeat (first | refine blk_drewN ?_ _ | refine blk_drew ?_ | refine blk_alloc ?_ _)); refine blk_far ?_ NB332_343.out _; (with_reducible repeat (first | refine blk_drewN ?_ _ | refine blk_drew ?_ | refine blk_alloc ?_ _)); refine blk_far ?_ NB332_343.out _; (with_reducible repeat (first | refine blk_drewN ?_ _ | refine blk_drew ?_ | refine blk_alloc ?_ _)); refine blk_far ?_ NB332_343.out _; (with_reducible repeat (first | refine blk_drewN ?_ _ | refine blk_drew ?_ | refine blk_alloc ?_ _)); refine blk_far ?_ NB332_343.out _; (with_reducible repeat (first | refine blk_drewN ?_ _ | refine blk_drew ?_ | refine blk_alloc ?_ _)); refine blk_far ?_ NB332_343.out _; (with_reducible repeat (first | refine blk_drewN ?_ _ | refine blk_drew ?_ | refine blk_alloc ?_ _)); exact BK332.out) hb); have n4_ := Aside0.mk (blk_below (g := gb343) (o := .cells #[.int .i64 t333, .int .i64 t334, .int .i64 t335, .int .i64 t336, .int .i64 t337, .int .i64 t338, .int .i64 t339, .int .i64 t340, .bool t341] 25 (0, 0)) (by (with_reducible repeat (first | refine blk_drewN ?_ _ | refine blk_drew ?_ | refine blk_alloc ?_ _)); refine blk_put (cs := #[.int .i64 t333, .int .i64 t334, .int .i64 t335, .int .i64 t336, .int .i64 t337, .int .i64 t338, .int .i64 t339, .int .i64 t340, .bool false]) ?_ 8 _ rfl; (with_reducible repeat (first | refine blk_drewN ?_ _ | refine blk_drew ?_ | refine blk_alloc ?_ _)); refine blk_put (cs := #[.int .i64 t333, .int .i64 t334, .int .i64 t335, .int .i64 t336, .int .i64 t337, .int .i64 t338, .int .i64 t339, .int .i64 0, .bool false]) ?_ 7 _ rfl; (with_reducible repeat (first | refine blk_drewN ?_ _ | refine blk_drew ?_ | refine blk_alloc ?_ _)); refine blk_put (cs := #[.int .i64 t333, .int .i64 t334, .int .i64 t335, .int .i64 t336, .int .i64 t337, .int .i64 t338, .int .i64 0, .int .i64 0, .bool false]) ?_ 6 _ rfl; (with_reducible repeat (first | refine blk_drewN ?_ _ | refine blk_drew ?_ | refine blk_alloc ?_ _)); refine blk_put (cs := #[.int .i64 t333, .int .i64 t334, .int .i64 t335, .int .i64 t336, .int .i64 t337, .int .i64 0, .int .i64 0, .int .i64 0, .bool false]) ?_ 5 _ rfl; (with_reducible repeat (first | refine blk_drewN ?_ _ | refine blk_drew ?_ | refine blk_alloc ?_ _)); refine blk_put (cs := #[.int .i64 t333, .int .i64 t334, .int .i64 t335, .int .i64 t336, .int .i64 0, .int .i64 0, .int .i64 0, .int .i64 0, .bool false]) ?_ 4 _ rfl; (with_reducible repeat (first | refine blk_drewN ?_ _ | refine blk_drew ?_ | refine blk_alloc ?_ _)); refine blk_put (cs := #[.int .i64 t333, .int .i64 t334, .int .i64 t335, .int .i64 0, .int .i64 0, .int .i64 0, .int .i64 0, .int .i64 0, .bool false]) ?_ 3 _ rfl; (with_reducible repeat (first | refine blk_drewN ?_ _ | refine blk_drew ?_ | refine blk_alloc ?_ _)); refine blk_put (cs := #[.int .i64 t333, .int .i64 t334, .int .i64 0, .int .i64 0, .int .i64 0, .int .i64 0, .int .i64 0, .int .i64 0, .bool false]) ?_ 2 _ rfl; (with_reducible repeat (first | refine blk_drewN ?_ _ | refine blk_drew ?_ | refine blk_alloc ?_ _)); refine blk_put (cs := #[.int .i64 t333, .int .i64 0, .int .i64 0, .int .i64 0, .int .i64 0, .int .i64 0, .int .i64 0, .int .i64 0, .bool false]) ?_ 1 _ rfl; (with_reducible repeat (first | refine blk_drewN ?_ _ | refine blk_drew ?_ | refine blk_alloc ?_ _)); refine blk_put (cs := #[.int .i64 0, .int .i64 0, .int .i64 0, .int .i64 0, .int .i64 0, .int .i64 0, .int .i64 0, .int .i64 0, .bool false]) ?_ 0 _ rfl; (with_reducible repeat (first | refine blk_drewN ?_ _ | refine blk_drew ?_ | refine blk_alloc ?_ _)); exact BK343.out) hb); have n5_ := Aside0.mk (below_step (by repeat (first | (with_reducible first | exact HB.out | apply below_alloc | apply pw_below_drewN | apply below_drew1 | refine below_set ?_ GE289.out | refine below_set ?_ GE332.out | refine below_set ?_ GE343.out) | exact HB.out)) hb); clear HO_9; clear BK289; clear BK332; clear BK343; clear HB; have HO_9 := n0_; have HO346 := n1_; have BK289 := n2_; have BK332 := n3_; have BK343 := n4_; have HB := n5_; clear n0_ n1_ n2_ n3_ n4_ n5_; clear hb ho79) | ((with_reducible refine gate_builtin (b := .append) (xs := #[.tmp 134, .tmp 135]) rfl ?_); (try (refine gate_guard (by rfl) ?_; dsimp only)); at_builtin; refine Kd.R_append_rows k25 (w0 := w) w.heap.size rfl (.tmp 134) (.tmp 135) 33 25 (.agg #[(.int .i64 0), (.int .i64 0), (.int .i64 0), (.int .i64 0), (.int .i64 0), (.int .i64 0), (.int .i64 0), (.int .i64 0), (.bool false)]) 72 rfl Try.underlying33 info25 rfl (by decide) (by omega) v345 y344 t327 _ _ _ (fun k_ => some k_ ≠ (.slice (some ad331) t327.length co57 : Value).ownBlock ∧ k_ ≠ gb289 ∧ k_ ≠ gb332 ∧ k_ ≠ gb343) (fun _ => False) rfl rfl ?aO ?aR (fun _ _ h => h) (fun _ h => h.elim) ?aF ?aB ?aS ?aL ?_; (case aR => repeat (first | exact (Kd.R_reads' HO_9.out).2.2 | (with_reducible refine Kd.C_alloc ?_ _) | (with_reducible refine Kd.C_drewN ?_ _) | (with_reducible refine Kd.C_drew ?_))); (case aB => exact (by repeat (first | (with_reducible first | exact HB.out | apply below_alloc | apply pw_below_drewN | apply below_drew1 | refine below_set ?_ GE289.out | refine below_set ?_ GE332.out | refine below_set ?_ GE343.out) | exact HB.out))); (case aF => exact (fun k_ hk => ⟨Kd.fresh' (Kd.R_lt (by (with_reducible repeat (first | apply Kd.R_alloc | apply Kd.R_drewN | apply Kd.R_drew)); exact HO_9.out)) k_ hk, Kd.freshB (g := gb289) (o := .cells #[.int .i64 t313, .int .i64 t314, .int .i64 t315, .int .i64 t316, .int .i64 t317, .int .i64 t318, .int .i64 t319, .int .i64 t320, .bool t321] 25 (0, 0)) (by (with_reducible repeat (first | refine blk_drewN ?_ _ | refine blk_drew ?_ | refine blk_alloc ?_ _)); exact BK289.out) k_ hk, Kd.freshB (g := gb332) (o := .cells #[.int .i64 ((rd_T25 t327 299).f0), .int .i64 ((rd_T25 t327 299).f1), .int .i64 ((rd_T25 t327 299).f2), .int .i64 ((rd_T25 t327 299).f3), .int .i64 ((rd_T25 t327 299).f4), .int .i64 ((rd_T25 t327 299).f5), .int .i64 ((rd_T25 t327 299).f6), .int .i64 ((rd_T25 t327 299).f7), .bool ((rd_T25 t327 299).f8)] 25 (0, 0)) (by (with_reducible repeat (first | refine blk_drewN ?_ _ | refine blk_drew ?_ | refine blk_alloc ?_ _)); exact BK332.out) k_ hk, Kd.freshB (g := gb343) (o := .cells #[.int .i64 t333, .int .i64 t334, .int .i64 t335, .int .i64 t336, .int .i64 t337, .int .i64 t338, .int .i64 t339, .int .i64 t340, .bool t341] 25 (0, 0)) (by (with_reducible repeat (first | refine blk_drewN ?_ _ | refine blk_drew ?_ | refine blk_alloc ?_ _)); exact BK343.out) k_ hk⟩)); (case aO => exact (by (with_reducible repeat (first | apply Kd.R_alloc | apply Kd.R_drewN | apply Kd.R_drew)); exact Kd.R_mono HO346.out (fun _ hk => ⟨hk.1.1.1.2, ⟨hk.1.1.2, ⟨hk.1.2, hk.2⟩⟩⟩))); (case aS => exact (below_size (by repeat (first | (with_reducible first | exact HB.out | apply below_alloc | apply pw_below_drewN | apply below_drew1 | refine below_set ?_ GE289.out | refine below_set ?_ GE332.out | refine below_set ?_ GE343.out) | exact HB.out)))); (case aL => have := LMc69.out; omega); intro v348 w80 ho hb hg hat; rw [← Ny347.out] at ho; have n0_ := Aside0.mk (Kd.R_after (ok := (fun k_ => k_ ≠ gb289 ∧ k_ ≠ gb332 ∧ k_ ≠ gb343)) (by (with_reducible repeat (first | apply Kd.R_alloc | apply Kd.R_drewN | apply Kd.R_drew)); exact Kd.R_mono HO_9.out (fun _ hk => ⟨⟨hk.1.1.1, ⟨hk.1.1.2, hk.1.2⟩⟩, hk.2⟩)) hg hat); have n1_ := Aside0.mk (blk_grown (g := gb289) (o := .cells #[.int .i64 t313, .int .i64 t314, .int .i64 t315, .int .i64 t316, .int .i64 t317, .int .i64 t318, .int .i64 t319, .int .i64 t320, .bool t321] 25 (0, 0)) (by (with_reducible repeat (first | refine blk_drewN ?_ _ | refine blk_drew ?_ | refine blk_alloc ?_ _)); exact BK289.out) hg (Kd.R_away HO346.out (fun _ hk => hk.1.1.2))); have n2_ := Aside0.mk (blk_grown (g := gb332) (o := .cells #[.int .i64 ((rd_T25 t327 299).f0), .int .i64 ((rd_T25 t327 299).f1), .int .i64 ((rd_T25 t327 299).f2), .int .i64 ((rd_T25 t327 299).f3), .int .i64 ((rd_T25 t327 299).f4), .int .i64 ((rd_T25 t327 299).f5), .int .i64 ((rd_T25 t327 299).f6), .int .i64 ((rd_T25 t327 299).f7), .bool ((rd_T25 t327 299).f8)] 25 (0, 0)) (by (with_reducible repeat (first | refine blk_drewN ?_ _ | refine blk_drew ?_ | refine blk_alloc ?_ _)); exact BK332.out) hg (Kd.R_away HO346.out (fun _ hk => hk.1.2))); have n3_ := Aside0.mk (blk_grown (g := gb343) (o := .cells #[.int .i64 t333, .int .i64 t334, .int .i64 t335, .int .i64 t336, .int .i64 t337, .int .i64 t338, .int .i64 t339, .int .i64 t340, .bool t341] 25 (0, 0)) (by (with_reducible repeat (first | refine blk_drewN ?_ _ | refine blk_drew ?_ | refine blk_alloc ?_ _)); exact BK343.out) hg (Kd.R_away HO346.out (fun _ hk => hk.2))); have n4_ := Aside0.mk (hb); have n5_ := Aside0.mk (ho); clear HO_9; clear BK289; clear BK332; clear BK343; clear HB; clear HO346; have HO_9 := n0_; have BK289 := n1_; have BK332 := n2_; have BK343 := n3_; have HB := n4_; have HO349 := n5_; clear n0_ n1_ n2_ n3_ n4_ n5_; clear ho hb hg hat; obtain ⟨Ao81, co81, eo81⟩ := Kd.R_slice HO349.out; subst eo81) | (go_at_call 19; (with_reducible refine (impl_Changes.calls k4 _ _ y347 t350 _ ?side1 ?side2 A70.out).mono ?_); (case side1 => repeat (first | exact (Kd.R_reads' HO349.out).2.2 | (with_reducible refine Kd.C_alloc ?_ _) | (with_reducible refine Kd.C_drewN ?_ _) | (with_reducible refine Kd.C_drew ?_))); (case side2 => exact (Kd.R_reads' HO349.out).2.1); rintro e w' ⟨rfl, ⟨nd, rfl⟩⟩; have hcz82_0 : w80.cell? ⟨gb343, 0, none⟩ = some (.int .i64 t333) := (blk_cell BK343.out 0).trans rfl; have hcz82_1 : w80.cell? ⟨gb343, 1, none⟩ = some (.int .i64 t334) := (blk_cell BK343.out 1).trans rfl; have hcz82_2 : w80.cell? ⟨gb343, 2, none⟩ = some (.int .i64 t335) := (blk_cell BK343.out 2).trans rfl; have hcz82_3 : w80.cell? ⟨gb343, 3, none⟩ = some (.int .i64 t336) := (blk_cell BK343.out 3).trans rfl; have hcz82_4 : w80.cell? ⟨gb343, 4, none⟩ = some (.int .i64 t337) := (blk_cell BK343.out 4).trans rfl; have hcz82_5 : w80.cell? ⟨gb343, 5, none⟩ = some (.int .i64 t338) := (blk_cell BK343.out 5).trans rfl; have hcz82_6 : w80.cell? ⟨gb343, 6, none⟩ = some (.int .i64 t339) := (blk_cell BK343.out 6).trans rfl; have hcz82_7 : w80.cell? ⟨gb343, 7, none⟩ = some (.int .i64 t340) := (blk_cell BK343.out 7).trans rfl; have hcz82_8 : w80.cell? ⟨gb343, 8, none⟩ = some (.bool t341) := (blk_cell BK343.out 8).trans rfl; have hfz82_0 := blk_frozen BK343.out 0; have hfz82_1 := blk_frozen BK343.out 1; have hfz82_2 := blk_frozen BK343.out 2; have hfz82_3 := blk_frozen BK343.out 3; have hfz82_4 := blk_frozen BK343.out 4; have hfz82_5 := blk_frozen BK343.out 5; have hfz82_6 := blk_frozen BK343.out 6; have hfz82_7 := blk_frozen BK343.out 7; have hfz82_8 := blk_frozen BK343.out 8; have hcz83_0 : w80.cell? ⟨gb332, 0, none⟩ = some (.int .i64 ((rd_T25 t327 299).f0)) := (blk_cell BK332.out 0).trans rfl; have hcz83_1 : w80.cell? ⟨gb332, 1, none⟩ = some (.int .i64 ((rd_T25 t327 299).f1)) := (blk_cell BK332.out 1).trans rfl; have hcz83_2 : w80.cell? ⟨gb332, 2, none⟩ = some (.int .i64 ((rd_T25 t327 299).f2)) := (blk_cell BK332.out 2).trans rfl; have hcz83_3 : w80.cell? ⟨gb332, 3, none⟩ = some (.int .i64 ((rd_T25 t327 299).f3)) := (blk_cell BK332.out 3).trans rfl; have hcz83_4 : w80.cell? ⟨gb332, 4, none⟩ = some (.int .i64 ((rd_T25 t327 299).f4)) := (blk_cell BK332.out 4).trans rfl; have hcz83_5 : w80.cell? ⟨gb332, 5, none⟩ = some (.int .i64 ((rd_T25 t327 299).f5)) := (blk_cell BK332.out 5).trans rfl; have hcz83_6 : w80.cell? ⟨gb332, 6, none⟩ = some (.int .i64 ((rd_T25 t327 299).f6)) := (blk_cell BK332.out 6).trans rfl; have hcz83_7 : w80.cell? ⟨gb332, 7, none⟩ = some (.int .i64 ((rd_T25 t327 299).f7)) := (blk_cell BK332.out 7).trans rfl; have hcz83_8 : w80.cell? ⟨gb332, 8, none⟩ = some (.bool ((rd_T25 t327 299).f8)) := (blk_cell BK332.out 8).trans rfl; have hfz83_0 := blk_frozen BK332.out 0; have hfz83_1 := blk_frozen BK332.out 1; have hfz83_2 := blk_frozen BK332.out 2; have hfz83_3 := blk_frozen BK332.out 3; have hfz83_4 := blk_frozen BK332.out 4; have hfz83_5 := blk_frozen BK332.out 5; have hfz83_6 := blk_frozen BK332.out 6; have hfz83_7 := blk_frozen BK332.out 7; have hfz83_8 := blk_frozen BK332.out 8))
                     go_ret
                     exact ⟨by first | rfl | (simp [errW_none, errW_some] <;> rfl) | (simp [*, errW_none, errW_some] <;> rfl), by repeat (first | (with_reducible first | exact HB.out | apply below_alloc | apply pw_below_drewN | apply below_drew1 | refine below_set ?_ GE289.out | refine below_set ?_ GE332.out | refine below_set ?_ GE343.out) | exact HB.out)⟩
                    ·
                     replace c72 := Bool.eq_false_iff.mpr c72
                     subst c72
                     have H1 : (some false) = some r := by rw [if_neg (show ¬ (false = true) by decide)] at H; exact H
                     clear H
                     have H := H1
                     clear H1
                     obtain rfl := Option.some.inj H
                     have hnb84 := NB332_289.out
                     have hnc84 := NB289_332.out
                     have hnb85 := NB332_343.out
                     have hnc85 := NB343_332.out
                     have hcz86_0 : w62.cell? ⟨gb332, 0, none⟩ = some (.int .i64 ((rd_T25 t327 299).f0)) := (blk_cell BK332.out 0).trans rfl
                     have hcz86_1 : w62.cell? ⟨gb332, 1, none⟩ = some (.int .i64 ((rd_T25 t327 299).f1)) := (blk_cell BK332.out 1).trans rfl
                     have hcz86_2 : w62.cell? ⟨gb332, 2, none⟩ = some (.int .i64 ((rd_T25 t327 299).f2)) := (blk_cell BK332.out 2).trans rfl
                     have hcz86_3 : w62.cell? ⟨gb332, 3, none⟩ = some (.int .i64 ((rd_T25 t327 299).f3)) := (blk_cell BK332.out 3).trans rfl
                     have hcz86_4 : w62.cell? ⟨gb332, 4, none⟩ = some (.int .i64 ((rd_T25 t327 299).f4)) := (blk_cell BK332.out 4).trans rfl
                     have hcz86_5 : w62.cell? ⟨gb332, 5, none⟩ = some (.int .i64 ((rd_T25 t327 299).f5)) := (blk_cell BK332.out 5).trans rfl
                     have hcz86_6 : w62.cell? ⟨gb332, 6, none⟩ = some (.int .i64 ((rd_T25 t327 299).f6)) := (blk_cell BK332.out 6).trans rfl
                     have hcz86_7 : w62.cell? ⟨gb332, 7, none⟩ = some (.int .i64 ((rd_T25 t327 299).f7)) := (blk_cell BK332.out 7).trans rfl
                     have hcz86_8 : w62.cell? ⟨gb332, 8, none⟩ = some (.bool ((rd_T25 t327 299).f8)) := (blk_cell BK332.out 8).trans rfl
                     have hfz86_0 := blk_frozen BK332.out 0
                     have hfz86_1 := blk_frozen BK332.out 1
                     have hfz86_2 := blk_frozen BK332.out 2
                     have hfz86_3 := blk_frozen BK332.out 3
                     have hfz86_4 := blk_frozen BK332.out 4
                     have hfz86_5 := blk_frozen BK332.out 5
                     have hfz86_6 := blk_frozen BK332.out 6
                     have hfz86_7 := blk_frozen BK332.out 7
                     have hfz86_8 := blk_frozen BK332.out 8
                     have hnb87 := NB289_343.out
                     have hnc87 := NB343_289.out
                     have hcz88_0 : w62.cell? ⟨gb289, 0, none⟩ = some (.int .i64 t313) := (blk_cell BK289.out 0).trans rfl
                     have hcz88_1 : w62.cell? ⟨gb289, 1, none⟩ = some (.int .i64 t314) := (blk_cell BK289.out 1).trans rfl
                     have hcz88_2 : w62.cell? ⟨gb289, 2, none⟩ = some (.int .i64 t315) := (blk_cell BK289.out 2).trans rfl
                     have hcz88_3 : w62.cell? ⟨gb289, 3, none⟩ = some (.int .i64 t316) := (blk_cell BK289.out 3).trans rfl
                     have hcz88_4 : w62.cell? ⟨gb289, 4, none⟩ = some (.int .i64 t317) := (blk_cell BK289.out 4).trans rfl
                     have hcz88_5 : w62.cell? ⟨gb289, 5, none⟩ = some (.int .i64 t318) := (blk_cell BK289.out 5).trans rfl
                     have hcz88_6 : w62.cell? ⟨gb289, 6, none⟩ = some (.int .i64 t319) := (blk_cell BK289.out 6).trans rfl
                     have hcz88_7 : w62.cell? ⟨gb289, 7, none⟩ = some (.int .i64 t320) := (blk_cell BK289.out 7).trans rfl
                     have hcz88_8 : w62.cell? ⟨gb289, 8, none⟩ = some (.bool t321) := (blk_cell BK289.out 8).trans rfl
                     have hfz88_0 := blk_frozen BK289.out 0
                     have hfz88_1 := blk_frozen BK289.out 1
                     have hfz88_2 := blk_frozen BK289.out 2
                     have hfz88_3 := blk_frozen BK289.out 3
                     have hfz88_4 := blk_frozen BK289.out 4
                     have hfz88_5 := blk_frozen BK289.out 5
                     have hfz88_6 := blk_frozen BK289.out 6
                     have hfz88_7 := blk_frozen BK289.out 7
                     have hfz88_8 := blk_frozen BK289.out 8
                     go_wp2_with (first | ((with_reducible refine gate_dst (N := 134) rfl ?_); (try (refine gate_guard (by rfl) ?_; dsimp only)); refine Kd.R_lit k25 _ 25 ?hg (N := 134) ?hd (xs := ([(⟨t313, t314, t315, t316, t317, t318, t319, t320, t321⟩ : S25)] : List (S25))) (inner := [.int .i64 t313, .int .i64 t314, .int .i64 t315, .int .i64 t316, .int .i64 t317, .int .i64 t318, .int .i64 t319, .int .i64 t320, .bool t321]) (ok := fun _ => True) (okp := fun _ => True) ?hr ?hp (fun _ hk => hk) trivial (Below.refl _ _) (Nat.le_refl _) (by simp) ?_; (case hd => rfl); (case hg => rfl); (case hr => first | (go_simp; done) | (go_simp; rfl)); (case hp => exact (Reps.c9 (show Kd.M k25 _ _ _ (⟨t313, t314, t315, t316, t317, t318, t319, t320, t321⟩ : S25) [.int .i64 t313, .int .i64 t314, .int .i64 t315, .int .i64 t316, .int .i64 t317, .int .i64 t318, .int .i64 t319, .int .i64 t320, .bool t321] from (k25_mkM _ _ _ (⟨t313, t314, t315, t316, t317, t318, t319, t320, t321⟩ : S25) )) (Reps.none _ _))); intro v345 w89 ho90 hb hg_ hnew_; clear hg_ hnew_; (first | rw [← Ny344.out] at ho90 | (simp only [Int.reduceToNat] at ho90; rw [← Ny344.out] at ho90)); have n0_ := Aside0.mk (Kd.R_elder' (by (with_reducible repeat (first | apply Kd.R_alloc | apply Kd.R_drewN | apply Kd.R_drew)); exact (Kd.R_mono (Kd.R_far (p := ⟨gb343, 8, none⟩) (Kd.R_far (p := ⟨gb343, 7, none⟩) (Kd.R_far (p := ⟨gb343, 6, none⟩) (Kd.R_far (p := ⟨gb343, 5, none⟩) (Kd.R_far (p := ⟨gb343, 4, none⟩) (Kd.R_far (p := ⟨gb343, 3, none⟩) (Kd.R_far (p := ⟨gb343, 2, none⟩) (Kd.R_far (p := ⟨gb343, 1, none⟩) (Kd.R_far (p := ⟨gb343, 0, none⟩) (Kd.R_mono HO_9.out (fun k_ hk => (⟨hk, hk.2⟩ : _ ∧ k_ ≠ gb343))) (fun _ hk => hk.2) (.int .i64 t333)) (fun _ hk => hk.2) (.int .i64 t334)) (fun _ hk => hk.2) (.int .i64 t335)) (fun _ hk => hk.2) (.int .i64 t336)) (fun _ hk => hk.2) (.int .i64 t337)) (fun _ hk => hk.2) (.int .i64 t338)) (fun _ hk => hk.2) (.int .i64 t339)) (fun _ hk => hk.2) (.int .i64 t340)) (fun _ hk => hk.2) (.bool t341)) (fun _ h_ => h_.1))) (Kd.R_base ho90) hb); have n1_ := Aside0.mk (Kd.R_lower (Kd.R_newB (Kd.R_newB (Kd.R_newB (Kd.R_new' ho90 (Kd.R_lt (by (with_reducible repeat (first | apply Kd.R_alloc | apply Kd.R_drewN | apply Kd.R_drew)); exact (Kd.R_mono (Kd.R_far (p := ⟨gb343, 8, none⟩) (Kd.R_far (p := ⟨gb343, 7, none⟩) (Kd.R_far (p := ⟨gb343, 6, none⟩) (Kd.R_far (p := ⟨gb343, 5, none⟩) (Kd.R_far (p := ⟨gb343, 4, none⟩) (Kd.R_far (p := ⟨gb343, 3, none⟩) (Kd.R_far (p := ⟨gb343, 2, none⟩) (Kd.R_far (p := ⟨gb343, 1, none⟩) (Kd.R_far (p := ⟨gb343, 0, none⟩) (Kd.R_mono HO_9.out (fun k_ hk => (⟨hk, hk.2⟩ : _ ∧ k_ ≠ gb343))) (fun _ hk => hk.2) (.int .i64 t333)) (fun _ hk => hk.2) (.int .i64 t334)) (fun _ hk => hk.2) (.int .i64 t335)) (fun _ hk => hk.2) (.int .i64 t336)) (fun _ hk => hk.2) (.int .i64 t337)) (fun _ hk => hk.2) (.int .i64 t338)) (fun _ hk => hk.2) (.int .i64 t339)) (fun _ hk => hk.2) (.int .i64 t340)) (fun _ hk => hk.2) (.bool t341)) (fun _ h_ => h_.1))))) (g := gb289) (o := .cells #[.int .i64 t313, .int .i64 t314, .int .i64 t315, .int .i64 t316, .int .i64 t317, .int .i64 t318, .int .i64 t319, .int .i64 t320, .bool t321] 25 (0, 0)) (by (with_reducible repeat (first | refine blk_drewN ?_ _ | refine blk_drew ?_ | refine blk_alloc ?_ _)); refine blk_far ?_ NB289_343.out _; (with_reducible repeat (first | refine blk_drewN ?_ _ | refine blk_drew ?_ | refine blk_alloc ?_ _)); refine blk_far ?_ NB289_343.out _; (with_reducible repeat (first | refine blk_drewN ?_ _ | refine blk_drew ?_ | refine blk_alloc ?_ _)); refine blk_far ?_ NB289_343.out _; (with_reducible repeat (first | refine blk_drewN ?_ _ | refine blk_drew ?_ | refine blk_alloc ?_ _)); refine blk_far ?_ NB289_343.out _; (with_reducible repeat (first | refine blk_drewN ?_ _ | refine blk_drew ?_ | refine blk_alloc ?_ _)); refine blk_far ?_ NB289_343.out _; (with_reducible repeat (first | refine blk_drewN ?_ _ | refine blk_drew ?_ | refine blk_alloc ?_ _)); refine blk_far ?_ NB289_343.out _; (with_reducible repeat (first | refine blk_drewN ?_ _ | refine blk_drew ?_ | refine blk_alloc ?_ _)); refine blk_far ?_ NB289_343.out _; (with_reducible repeat (first | refine blk_drewN ?_ _ | refine blk_drew ?_ | refine blk_alloc ?_ _)); refine blk_far ?_ NB289_343.out _; (with_reducible repeat (first | refine blk_drewN ?_ _ | refine blk_drew ?_ | refine blk_alloc ?_ _)); refine blk_far ?_ NB289_343.out _; (with_reducible repeat (first | refine blk_drewN ?_ _ | refine blk_drew ?_ | refine blk_alloc ?_ _)); exact BK289.out)) (g := gb332) (o := .cells #[.int .i64 ((rd_T25 t327 299).f0), .int .i64 ((rd_T25 t327 299).f1), .int .i64 ((rd_T25 t327 299).f2), .int .i64 ((rd_T25 t327 299).f3), .int .i64 ((rd_T25 t327 299).f4), .int .i64 ((rd_T25 t327 299).f5), .int .i64 ((rd_T25 t327 299).f6), .int .i64 ((rd_T25 t327 299).f7), .bool ((rd_T25 t327 299).f8)] 25 (0, 0)) (by (with_reducible repeat (first | refine blk_drewN ?_ _ | refine blk_drew ?_ | refine blk_alloc ?_ _)); refine blk_far ?_ NB332_343.out _; (with_reducible repeat (first | refine blk_drewN ?_ _ | refine blk_drew ?_ | refine blk_alloc ?_ _)); refine blk_far ?_ NB332_343.out _; (with_reducible repeat (first | refine blk_drewN ?_ _ | refine blk_drew ?_ | refine blk_alloc ?_ _)); refine blk_far ?_ NB332_343.out _; (with_reducible repeat (first | refine blk_drewN ?_ _ | refine blk_drew ?_ | refine blk_alloc ?_ _)); refine blk_far ?_ NB332_343.out _; (with_reducible repeat (first | refine blk_drewN ?_ _ | refine blk_drew ?_ | refine blk_alloc ?_ _)); refine blk_far ?_ NB332_343.out _; (with_reducible repeat (first | refine blk_drewN ?_ _ | refine blk_drew ?_ | refine blk_alloc ?_ _)); refine blk_far ?_ NB332_343.out _; (with_reducible repeat (first | refine blk_drewN ?_ _ | refine blk_drew ?_ | refine blk_alloc ?_ _)); refine blk_far ?_ NB332_343.out _; (with_reducible repeat (first | refine blk_drewN ?_ _ | refine blk_drew ?_ | refine blk_alloc ?_ _)); refine blk_far ?_ NB332_343.out _; (with_reducible repeat (first | refine blk_drewN ?_ _ | refine blk_drew ?_ | refine blk_alloc ?_ _)); refine blk_far ?_ NB332_343.out _; (with_reducible repeat (first | refine blk_drewN ?_ _ | refine blk_drew ?_ | refine blk_alloc ?_ _)); exact BK332.out)) (g := gb343) (o := .cells #[.int .i64 t333, .int .i64 t334, .int .i64 t335, .int .i64 t336, .int .i64 t337, .int .i64 t338, .int .i64 t339, .int .i64 t340, .bool t341] 25 (0, 0)) (by (with_reducible repeat (first | refine blk_drewN ?_ _ | refine blk_drew ?_ | refine blk_alloc ?_ _)); refine blk_put (cs := #[.int .i64 t333, .int .i64 t334, .int .i64 t335, .int .i64 t336, .int .i64 t337, .int .i64 t338, .int .i64 t339, .int .i64 t340, .bool false]) ?_ 8 _ rfl; (with_reducible repeat (first | refine blk_drewN ?_ _ | refine blk_drew ?_ | refine blk_alloc ?_ _)); refine blk_put (cs := #[.int .i64 t333, .int .i64 t334, .int .i64 t335, .int .i64 t336, .int .i64 t337, .int .i64 t338, .int .i64 t339, .int .i64 0, .bool false]) ?_ 7 _ rfl; (with_reducible repeat (first | refine blk_drewN ?_ _ | refine blk_drew ?_ | refine blk_alloc ?_ _)); refine blk_put (cs := #[.int .i64 t333, .int .i64 t334, .int .i64 t335, .int .i64 t336, .int .i64 t337, .int .i64 t338, .int .i64 0, .int .i64 0, .bool false]) ?_ 6 _ rfl; (with_reducible repeat (first | refine blk_drewN ?_ _ | refine blk_drew ?_ | refine blk_alloc ?_ _)); refine blk_put (cs := #[.int .i64 t333, .int .i64 t334, .int .i64 t335, .int .i64 t336, .int .i64 t337, .int .i64 0, .int .i64 0, .int .i64 0, .bool false]) ?_ 5 _ rfl; (with_reducible repeat (first | refine blk_drewN ?_ _ | refine blk_drew ?_ | refine blk_alloc ?_ _)); refine blk_put (cs := #[.int .i64 t333, .int .i64 t334, .int .i64 t335, .int .i64 t336, .int .i64 0, .int .i64 0, .int .i64 0, .int .i64 0, .bool false]) ?_ 4 _ rfl; (with_reducible repeat (first | refine blk_drewN ?_ _ | refine blk_drew ?_ | refine blk_alloc ?_ _)); refine blk_put (cs := #[.int .i64 t333, .int .i64 t334, .int .i64 t335, .int .i64 0, .int .i64 0, .int .i64 0, .int .i64 0, .int .i64 0, .bool false]) ?_ 3 _ rfl; (with_reducible repeat (first | refine blk_drewN ?_ _ | refine blk_drew ?_ | refine blk_alloc ?_ _)); refine blk_put (cs := #[.int .i64 t333, .int .i64 t334, .int .i64 0, .int .i64 0, .int .i64 0, .int .i64 0, .int .i64 0, .int .i64 0, .bool false]) ?_ 2 _ rfl; (with_reducible repeat (first | refine blk_drewN ?_ _ | refine blk_drew ?_ | refine blk_alloc ?_ _)); refine blk_put (cs := #[.int .i64 t333, .int .i64 0, .int .i64 0, .int .i64 0, .int .i64 0, .int .i64 0, .int .i64 0, .int .i64 0, .bool false]) ?_ 1 _ rfl; (with_reducible repeat (first | refine blk_drewN ?_ _ | refine blk_drew ?_ | refine blk_alloc ?_ _)); refine blk_put (cs := #[.int .i64 0, .int .i64 0, .int .i64 0, .int .i64 0, .int .i64 0, .int .i64 0, .int .i64 0, .int .i64 0, .bool false]) ?_ 0 _ rfl; (with_reducible repeat (first | refine blk_drewN ?_ _ | refine blk_drew ?_ | refine blk_alloc ?_ _)); exact BK343.out)) (below_size (by repeat (first | (with_reducible first | exact HB.out | apply below_alloc | apply pw_below_drewN | apply below_drew1 | refine below_set ?_ GE289.out | refine below_set ?_ GE332.out | refine below_set ?_ GE343.out) | exact HB.out)))); have n2_ := Aside0.mk (blk_below (g := gb289) (o := .cells #[.int .i64 t313, .int .i64 t314, .int .i64 t315, .int .i64 t316, .int .i64 t317, .int .i64 t318, .int .i64 t319, .int .i64 t320, .bool t321] 25 (0, 0)) (by (with_reducible repeat (first | refine blk_drewN ?_ _ | refine blk_drew ?_ | refine blk_alloc ?_ _)); refine blk_far ?_ NB289_343.out _; (with_reducible repeat (first | refine blk_drewN ?_ _ | refine blk_drew ?_ | refine blk_alloc ?_ _)); refine blk_far ?_ NB289_343.out _; (with_reducible repeat (first | refine blk_drewN ?_ _ | refine blk_drew ?_ | refine blk_alloc ?_ _)); refine blk_far ?_ NB289_343.out _; (with_reducible repeat (first | refine blk_drewN ?_ _ | refine blk_drew ?_ | refine blk_alloc ?_ _)); refine blk_far ?_ NB289_343.out _; (with_reducible repeat (first | refine blk_drewN ?_ _ | refine blk_drew ?_ | refine blk_alloc ?_ _)); refine blk_far ?_ NB289_343.out _; (with_reducible repeat (first | refine blk_drewN ?_ _ | refine blk_drew ?_ | refine blk_alloc ?_ _)); refine blk_far ?_ NB289_343.out _; (with_reducible repeat (first | refine blk_drewN ?_ _ | refine blk_drew ?_ | refine blk_alloc ?_ _)); refine blk_far ?_ NB289_343.out _; (with_reducible repeat (first | refine blk_drewN ?_ _ | refine blk_drew ?_ | refine blk_alloc ?_ _)); refine blk_far ?_ NB289_343.out _; (with_reducible repeat (first | refine blk_drewN ?_ _ | refine blk_drew ?_ | refine blk_alloc ?_ _)); refine blk_far ?_ NB289_343.out _; (with_reducible repeat (first | refine blk_drewN ?_ _ | refine blk_drew ?_ | refine blk_alloc ?_ _)); exact BK289.out) hb); have n3_ := Aside0.mk (blk_below (g := gb332) (o := .cells #[.int .i64 ((rd_T25 t327 299).f0), .int .i64 ((rd_T25 t327 299).f1), .int .i64 ((rd_T25 t327 299).f2), .int .i64 ((rd_T25 t327 299).f3), .int .i64 ((rd_T25 t327 299).f4), .int .i64 ((rd_T25 t327 299).f5), .int .i64 ((rd_T25 t327 299).f6), .int .i64 ((rd_T25 t327 299).f7), .bool ((rd_T25 t327 299).f8)] 25 (0, 0)) (by (with_reducible repeat (first | refine blk_drewN ?_ _ | refine blk_drew ?_ | refine blk_alloc ?_ _)); refine blk_far ?_ NB332_343.out _; (with_reducible repeat (first | refine blk_drewN ?_ _ | refine blk_drew ?_ | refine blk_alloc ?_ _)); refine blk_far ?_ NB332_343.out _; (with_reducible repeat (first | refine blk_drewN ?_ _ | refine blk_drew ?_ | refine blk_alloc ?_ _)); refine blk_far ?_ NB332_343.out _; (with_reducible repeat (first | refine blk_drewN ?_ _ | refine blk_drew ?_ | refine blk_alloc ?_ _)); refine blk_far ?_ NB332_343.out _; (with_reducible repeat (first | refine blk_drewN ?_ _ | refine blk_drew ?_ | refine blk_alloc ?_ _)); refine blk_far ?_ NB332_343.out _; (with_reducible repeat (first | refine blk_drewN ?_ _ | refine blk_drew ?_ | refine blk_alloc ?_ _)); refine blk_far ?_ NB332_343.out _; (with_reducible repeat (first | refine blk_drewN ?_ _ | refine blk_drew ?_ | refine blk_alloc ?_ _)); refine blk_far ?_ NB332_343.out _; (with_reducible repeat (first | refine blk_drewN ?_ _ | refine blk_drew ?_ | refine blk_alloc ?_ _)); refine blk_far ?_ NB332_343.out _; (with_reducible repeat (first | refine blk_drewN ?_ _ | refine blk_drew ?_ | refine blk_alloc ?_ _)); refine blk_far ?_ NB332_343.out _; (with_reducible repeat (first | refine blk_drewN ?_ _ | refine blk_drew ?_ | refine blk_alloc ?_ _)); exact BK332.out) hb); have n4_ := Aside0.mk (blk_below (g := gb343) (o := .cells #[.int .i64 t333, .int .i64 t334, .int .i64 t335, .int .i64 t336, .int .i64 t337, .int .i64 t338, .int .i64 t339, .int .i64 t340, .bool t341] 25 (0, 0)) (by (with_reducible repeat (first | refine blk_drewN ?_ _ | refine blk_drew ?_ | refine blk_alloc ?_ _)); refine blk_put (cs := #[.int .i64 t333, .int .i64 t334, .int .i64 t335, .int .i64 t336, .int .i64 t337, .int .i64 t338, .int .i64 t339, .int .i64 t340, .bool false]) ?_ 8 _ rfl; (with_reducible repeat (first | refine blk_drewN ?_ _ | refine blk_drew ?_ | refine blk_alloc ?_ _)); refine blk_put (cs := #[.int .i64 t333, .int .i64 t334, .int .i64 t335, .int .i64 t336, .int .i64 t337, .int .i64 t338, .int .i64 t339, .int .i64 0, .bool false]) ?_ 7 _ rfl; (with_reducible repeat (first | refine blk_drewN ?_ _ | refine blk_drew ?_ | refine blk_alloc ?_ _)); refine blk_put (cs := #[.int .i64 t333, .int .i64 t334, .int .i64 t335, .int .i64 t336, .int .i64 t337, .int .i64 t338, .int .i64 0, .int .i64 0, .bool false]) ?_ 6 _ rfl; (with_reducible repeat (first | refine blk_drewN ?_ _ | refine blk_drew ?_ | refine blk_alloc ?_ _)); refine blk_put (cs := #[.int .i64 t333, .int .i64 t334, .int .i64 t335, .int .i64 t336, .int .i64 t337, .int .i64 0, .int .i64 0, .int .i64 0, .bool false]) ?_ 5 _ rfl; (with_reducible repeat (first | refine blk_drewN ?_ _ | refine blk_drew ?_ | refine blk_alloc ?_ _)); refine blk_put (cs := #[.int .i64 t333, .int .i64 t334, .int .i64 t335, .int .i64 t336, .int .i64 0, .int .i64 0, .int .i64 0, .int .i64 0, .bool false]) ?_ 4 _ rfl; (with_reducible repeat (first | refine blk_drewN ?_ _ | refine blk_drew ?_ | refine blk_alloc ?_ _)); refine blk_put (cs := #[.int .i64 t333, .int .i64 t334, .int .i64 t335, .int .i64 0, .int .i64 0, .int .i64 0, .int .i64 0, .int .i64 0, .bool false]) ?_ 3 _ rfl; (with_reducible repeat (first | refine blk_drewN ?_ _ | refine blk_drew ?_ | refine blk_alloc ?_ _)); refine blk_put (cs := #[.int .i64 t333, .int .i64 t334, .int .i64 0, .int .i64 0, .int .i64 0, .int .i64 0, .int .i64 0, .int .i64 0, .bool false]) ?_ 2 _ rfl; (with_reducible repeat (first | refine blk_drewN ?_ _ | refine blk_drew ?_ | refine blk_alloc ?_ _)); refine blk_put (cs := #[.int .i64 t333, .int .i64 0, .int .i64 0, .int .i64 0, .int .i64 0, .int .i64 0, .int .i64 0, .int .i64 0, .bool false]) ?_ 1 _ rfl; (with_reducible repeat (first | refine blk_drewN ?_ _ | refine blk_drew ?_ | refine blk_alloc ?_ _)); refine blk_put (cs := #[.int .i64 0, .int .i64 0, .int .i64 0, .int .i64 0, .int .i64 0, .int .i64 0, .int .i64 0, .int .i64 0, .bool false]) ?_ 0 _ rfl; (with_reducible repeat (first | refine blk_drewN ?_ _ | refine blk_drew ?_ | refine blk_alloc ?_ _)); exact BK343.out) hb); have n5_ := Aside0.mk (below_step (by repeat (first | (with_reducible first | exact HB.out | apply below_alloc | apply pw_below_drewN | apply below_drew1 | refine below_set ?_ GE289.out | refine below_set ?_ GE332.out | refine below_set ?_ GE343.out) | exact HB.out)) hb); clear HO_9; clear BK289; clear BK332; clear BK343; clear HB; have HO_9 := n0_; have HO346 := n1_; have BK289 := n2_; have BK332 := n3_; have BK343 := n4_; have HB := n5_; clear n0_ n1_ n2_ n3_ n4_ n5_; clear hb ho90) | ((with_reducible refine gate_builtin (b := .append) (xs := #[.tmp 134, .tmp 135]) rfl ?_); (try (refine gate_guard (by rfl) ?_; dsimp only)); at_builtin; refine Kd.R_append_rows k25 (w0 := w) w.heap.size rfl (.tmp 134) (.tmp 135) 33 25 (.agg #[(.int .i64 0), (.int .i64 0), (.int .i64 0), (.int .i64 0), (.int .i64 0), (.int .i64 0), (.int .i64 0), (.int .i64 0), (.bool false)]) 72 rfl Try.underlying33 info25 rfl (by decide) (by omega) v345 y344 t327 _ _ _ (fun k_ => some k_ ≠ (.slice (some ad331) t327.length co57 : Value).ownBlock ∧ k_ ≠ gb289 ∧ k_ ≠ gb332 ∧ k_ ≠ gb343) (fun _ => False) rfl rfl ?aO ?aR (fun _ _ h => h) (fun _ h => h.elim) ?aF ?aB ?aS ?aL ?_; (case aR => repeat (first | exact (Kd.R_reads' HO_9.out).2.2 | (with_reducible refine Kd.C_alloc ?_ _) | (with_reducible refine Kd.C_drewN ?_ _) | (with_reducible refine Kd.C_drew ?_))); (case aB => exact (by repeat (first | (with_reducible first | exact HB.out | apply below_alloc | apply pw_below_drewN | apply below_drew1 | refine below_set ?_ GE289.out | refine below_set ?_ GE332.out | refine below_set ?_ GE343.out) | exact HB.out))); (case aF => exact (fun k_ hk => ⟨Kd.fresh' (Kd.R_lt (by (with_reducible repeat (first | apply Kd.R_alloc | apply Kd.R_drewN | apply Kd.R_drew)); exact HO_9.out)) k_ hk, Kd.freshB (g := gb289) (o := .cells #[.int .i64 t313, .int .i64 t314, .int .i64 t315, .int .i64 t316, .int .i64 t317, .int .i64 t318, .int .i64 t319, .int .i64 t320, .bool t321] 25 (0, 0)) (by (with_reducible repeat (first | refine blk_drewN ?_ _ | refine blk_drew ?_ | refine blk_alloc ?_ _)); exact BK289.out) k_ hk, Kd.freshB (g := gb332) (o := .cells #[.int .i64 ((rd_T25 t327 299).f0), .int .i64 ((rd_T25 t327 299).f1), .int .i64 ((rd_T25 t327 299).f2), .int .i64 ((rd_T25 t327 299).f3), .int .i64 ((rd_T25 t327 299).f4), .int .i64 ((rd_T25 t327 299).f5), .int .i64 ((rd_T25 t327 299).f6), .int .i64 ((rd_T25 t327 299).f7), .bool ((rd_T25 t327 299).f8)] 25 (0, 0)) (by (with_reducible repeat (first | refine blk_drewN ?_ _ | refine blk_drew ?_ | refine blk_alloc ?_ _)); exact BK332.out) k_ hk, Kd.freshB (g := gb343) (o := .cells #[.int .i64 t333, .int .i64 t334, .int .i64 t335, .int .i64 t336, .int .i64 t337, .int .i64 t338, .int .i64 t339, .int .i64 t340, .bool t341] 25 (0, 0)) (by (with_reducible repeat (first | refine blk_drewN ?_ _ | refine blk_drew ?_ | refine blk_alloc ?_ _)); exact BK343.out) k_ hk⟩)); (case aO => exact (by (with_reducible repeat (first | apply Kd.R_alloc | apply Kd.R_drewN | apply Kd.R_drew)); exact Kd.R_mono HO346.out (fun _ hk => ⟨hk.1.1.1.2, ⟨hk.1.1.2, ⟨hk.1.2, hk.2⟩⟩⟩))); (case aS => exact (below_size (by repeat (first | (with_reducible first | exact HB.out | apply below_alloc | apply pw_below_drewN | apply below_drew1 | refine below_set ?_ GE289.out | refine below_set ?_ GE332.out | refine below_set ?_ GE343.out) | exact HB.out)))); (case aL => have := LMc69.out; omega); intro v348 w91 ho hb hg hat; rw [← Ny347.out] at ho; have n0_ := Aside0.mk (Kd.R_after (ok := (fun k_ => k_ ≠ gb289 ∧ k_ ≠ gb332 ∧ k_ ≠ gb343)) (by (with_reducible repeat (first | apply Kd.R_alloc | apply Kd.R_drewN | apply Kd.R_drew)); exact Kd.R_mono HO_9.out (fun _ hk => ⟨⟨hk.1.1.1, ⟨hk.1.1.2, hk.1.2⟩⟩, hk.2⟩)) hg hat); have n1_ := Aside0.mk (blk_grown (g := gb289) (o := .cells #[.int .i64 t313, .int .i64 t314, .int .i64 t315, .int .i64 t316, .int .i64 t317, .int .i64 t318, .int .i64 t319, .int .i64 t320, .bool t321] 25 (0, 0)) (by (with_reducible repeat (first | refine blk_drewN ?_ _ | refine blk_drew ?_ | refine blk_alloc ?_ _)); exact BK289.out) hg (Kd.R_away HO346.out (fun _ hk => hk.1.1.2))); have n2_ := Aside0.mk (blk_grown (g := gb332) (o := .cells #[.int .i64 ((rd_T25 t327 299).f0), .int .i64 ((rd_T25 t327 299).f1), .int .i64 ((rd_T25 t327 299).f2), .int .i64 ((rd_T25 t327 299).f3), .int .i64 ((rd_T25 t327 299).f4), .int .i64 ((rd_T25 t327 299).f5), .int .i64 ((rd_T25 t327 299).f6), .int .i64 ((rd_T25 t327 299).f7), .bool ((rd_T25 t327 299).f8)] 25 (0, 0)) (by (with_reducible repeat (first | refine blk_drewN ?_ _ | refine blk_drew ?_ | refine blk_alloc ?_ _)); exact BK332.out) hg (Kd.R_away HO346.out (fun _ hk => hk.1.2))); have n3_ := Aside0.mk (blk_grown (g := gb343) (o := .cells #[.int .i64 t333, .int .i64 t334, .int .i64 t335, .int .i64 t336, .int .i64 t337, .int .i64 t338, .int .i64 t339, .int .i64 t340, .bool t341] 25 (0, 0)) (by (with_reducible repeat (first | refine blk_drewN ?_ _ | refine blk_drew ?_ | refine blk_alloc ?_ _)); exact BK343.out) hg (Kd.R_away HO346.out (fun _ hk => hk.2))); have n4_ := Aside0.mk (hb); have n5_ := Aside0.mk (ho); clear HO_9; clear BK289; clear BK332; clear BK343; clear HB; clear HO346; have HO_9 := n0_; have BK289 := n1_; have BK332 := n2_; have BK343 := n3_; have HB := n4_; have HO349 := n5_; clear n0_ n1_ n2_ n3_ n4_ n5_; clear ho hb hg hat; obtain ⟨Ao92, co92, eo92⟩ := Kd.R_slice HO349.out; subst eo92) | (go_at_call 19; (with_reducible refine (impl_Changes.calls k4 _ _ y347 t350 _ ?side1 ?side2 A70.out).mono ?_); (case side1 => repeat (first | exact (Kd.R_reads' HO349.out).2.2 | (with_reducible refine Kd.C_alloc ?_ _) | (with_reducible refine Kd.C_drewN ?_ _) | (with_reducible refine Kd.C_drew ?_))); (case side2 => exact (Kd.R_reads' HO349.out).2.1); rintro e w' ⟨rfl, ⟨nd, rfl⟩⟩))
                     go_ret
                     exact ⟨by first | rfl | (simp [errW_none, errW_some] <;> rfl) | (simp [*, errW_none, errW_some] <;> rfl), by repeat (first | (with_reducible first | exact HB.out | apply below_alloc | apply pw_below_drewN | apply below_drew1 | refine below_set ?_ GE289.out | refine below_set ?_ GE332.out | refine below_set ?_ GE343.out) | exact HB.out)⟩
                   ·
                    rw [if_neg c71] at H
                    have c71b0 : decide (t350 ≤ 2) = false := decide_eq_false c71
                    clear c71
                    obtain rfl := Option.some.inj H
                    have hnb93 := NB332_289.out
                    have hnc93 := NB289_332.out
                    have hnb94 := NB332_343.out
                    have hnc94 := NB343_332.out
                    have hcz95_0 : w62.cell? ⟨gb332, 0, none⟩ = some (.int .i64 ((rd_T25 t327 299).f0)) := (blk_cell BK332.out 0).trans rfl
                    have hcz95_1 : w62.cell? ⟨gb332, 1, none⟩ = some (.int .i64 ((rd_T25 t327 299).f1)) := (blk_cell BK332.out 1).trans rfl
                    have hcz95_2 : w62.cell? ⟨gb332, 2, none⟩ = some (.int .i64 ((rd_T25 t327 299).f2)) := (blk_cell BK332.out 2).trans rfl
                    have hcz95_3 : w62.cell? ⟨gb332, 3, none⟩ = some (.int .i64 ((rd_T25 t327 299).f3)) := (blk_cell BK332.out 3).trans rfl
                    have hcz95_4 : w62.cell? ⟨gb332, 4, none⟩ = some (.int .i64 ((rd_T25 t327 299).f4)) := (blk_cell BK332.out 4).trans rfl
                    have hcz95_5 : w62.cell? ⟨gb332, 5, none⟩ = some (.int .i64 ((rd_T25 t327 299).f5)) := (blk_cell BK332.out 5).trans rfl
                    have hcz95_6 : w62.cell? ⟨gb332, 6, none⟩ = some (.int .i64 ((rd_T25 t327 299).f6)) := (blk_cell BK332.out 6).trans rfl
                    have hcz95_7 : w62.cell? ⟨gb332, 7, none⟩ = some (.int .i64 ((rd_T25 t327 299).f7)) := (blk_cell BK332.out 7).trans rfl
                    have hcz95_8 : w62.cell? ⟨gb332, 8, none⟩ = some (.bool ((rd_T25 t327 299).f8)) := (blk_cell BK332.out 8).trans rfl
                    have hfz95_0 := blk_frozen BK332.out 0
                    have hfz95_1 := blk_frozen BK332.out 1
                    have hfz95_2 := blk_frozen BK332.out 2
                    have hfz95_3 := blk_frozen BK332.out 3
                    have hfz95_4 := blk_frozen BK332.out 4
                    have hfz95_5 := blk_frozen BK332.out 5
                    have hfz95_6 := blk_frozen BK332.out 6
                    have hfz95_7 := blk_frozen BK332.out 7
                    have hfz95_8 := blk_frozen BK332.out 8
                    have hnb96 := NB289_343.out
                    have hnc96 := NB343_289.out
                    have hcz97_0 : w62.cell? ⟨gb289, 0, none⟩ = some (.int .i64 t313) := (blk_cell BK289.out 0).trans rfl
                    have hcz97_1 : w62.cell? ⟨gb289, 1, none⟩ = some (.int .i64 t314) := (blk_cell BK289.out 1).trans rfl
                    have hcz97_2 : w62.cell? ⟨gb289, 2, none⟩ = some (.int .i64 t315) := (blk_cell BK289.out 2).trans rfl
                    have hcz97_3 : w62.cell? ⟨gb289, 3, none⟩ = some (.int .i64 t316) := (blk_cell BK289.out 3).trans rfl
                    have hcz97_4 : w62.cell? ⟨gb289, 4, none⟩ = some (.int .i64 t317) := (blk_cell BK289.out 4).trans rfl
                    have hcz97_5 : w62.cell? ⟨gb289, 5, none⟩ = some (.int .i64 t318) := (blk_cell BK289.out 5).trans rfl
                    have hcz97_6 : w62.cell? ⟨gb289, 6, none⟩ = some (.int .i64 t319) := (blk_cell BK289.out 6).trans rfl
                    have hcz97_7 : w62.cell? ⟨gb289, 7, none⟩ = some (.int .i64 t320) := (blk_cell BK289.out 7).trans rfl
                    have hcz97_8 : w62.cell? ⟨gb289, 8, none⟩ = some (.bool t321) := (blk_cell BK289.out 8).trans rfl
                    have hfz97_0 := blk_frozen BK289.out 0
                    have hfz97_1 := blk_frozen BK289.out 1
                    have hfz97_2 := blk_frozen BK289.out 2
                    have hfz97_3 := blk_frozen BK289.out 3
                    have hfz97_4 := blk_frozen BK289.out 4
                    have hfz97_5 := blk_frozen BK289.out 5
                    have hfz97_6 := blk_frozen BK289.out 6
                    have hfz97_7 := blk_frozen BK289.out 7
                    have hfz97_8 := blk_frozen BK289.out 8
                    go_wp2_with (first | ((with_reducible refine gate_dst (N := 134) rfl ?_); (try (refine gate_guard (by rfl) ?_; dsimp only)); refine Kd.R_lit k25 _ 25 ?hg (N := 134) ?hd (xs := ([(⟨t313, t314, t315, t316, t317, t318, t319, t320, t321⟩ : S25)] : List (S25))) (inner := [.int .i64 t313, .int .i64 t314, .int .i64 t315, .int .i64 t316, .int .i64 t317, .int .i64 t318, .int .i64 t319, .int .i64 t320, .bool t321]) (ok := fun _ => True) (okp := fun _ => True) ?hr ?hp (fun _ hk => hk) trivial (Below.refl _ _) (Nat.le_refl _) (by simp) ?_; (case hd => rfl); (case hg => rfl); (case hr => first | (go_simp; done) | (go_simp; rfl)); (case hp => exact (Reps.c9 (show Kd.M k25 _ _ _ (⟨t313, t314, t315, t316, t317, t318, t319, t320, t321⟩ : S25) [.int .i64 t313, .int .i64 t314, .int .i64 t315, .int .i64 t316, .int .i64 t317, .int .i64 t318, .int .i64 t319, .int .i64 t320, .bool t321] from (k25_mkM _ _ _ (⟨t313, t314, t315, t316, t317, t318, t319, t320, t321⟩ : S25) )) (Reps.none _ _))); intro v345 w98 ho99 hb hg_ hnew_; clear hg_ hnew_; (first | rw [← Ny344.out] at ho99 | (simp only [Int.reduceToNat] at ho99; rw [← Ny344.out] at ho99)); have n0_ := Aside0.mk (Kd.R_elder' (by (with_reducible repeat (first | apply Kd.R_alloc | apply Kd.R_drewN | apply Kd.R_drew)); exact (Kd.R_mono (Kd.R_far (p := ⟨gb343, 8, none⟩) (Kd.R_far (p := ⟨gb343, 7, none⟩) (Kd.R_far (p := ⟨gb343, 6, none⟩) (Kd.R_far (p := ⟨gb343, 5, none⟩) (Kd.R_far (p := ⟨gb343, 4, none⟩) (Kd.R_far (p := ⟨gb343, 3, none⟩) (Kd.R_far (p := ⟨gb343, 2, none⟩) (Kd.R_far (p := ⟨gb343, 1, none⟩) (Kd.R_far (p := ⟨gb343, 0, none⟩) (Kd.R_mono HO_9.out (fun k_ hk => (⟨hk, hk.2⟩ : _ ∧ k_ ≠ gb343))) (fun _ hk => hk.2) (.int .i64 t333)) (fun _ hk => hk.2) (.int .i64 t334)) (fun _ hk => hk.2) (.int .i64 t335)) (fun _ hk => hk.2) (.int .i64 t336)) (fun _ hk => hk.2) (.int .i64 t337)) (fun _ hk => hk.2) (.int .i64 t338)) (fun _ hk => hk.2) (.int .i64 t339)) (fun _ hk => hk.2) (.int .i64 t340)) (fun _ hk => hk.2) (.bool t341)) (fun _ h_ => h_.1))) (Kd.R_base ho99) hb); have n1_ := Aside0.mk (Kd.R_lower (Kd.R_newB (Kd.R_newB (Kd.R_newB (Kd.R_new' ho99 (Kd.R_lt (by (with_reducible repeat (first | apply Kd.R_alloc | apply Kd.R_drewN | apply Kd.R_drew)); exact (Kd.R_mono (Kd.R_far (p := ⟨gb343, 8, none⟩) (Kd.R_far (p := ⟨gb343, 7, none⟩) (Kd.R_far (p := ⟨gb343, 6, none⟩) (Kd.R_far (p := ⟨gb343, 5, none⟩) (Kd.R_far (p := ⟨gb343, 4, none⟩) (Kd.R_far (p := ⟨gb343, 3, none⟩) (Kd.R_far (p := ⟨gb343, 2, none⟩) (Kd.R_far (p := ⟨gb343, 1, none⟩) (Kd.R_far (p := ⟨gb343, 0, none⟩) (Kd.R_mono HO_9.out (fun k_ hk => (⟨hk, hk.2⟩ : _ ∧ k_ ≠ gb343))) (fun _ hk => hk.2) (.int .i64 t333)) (fun _ hk => hk.2) (.int .i64 t334)) (fun _ hk => hk.2) (.int .i64 t335)) (fun _ hk => hk.2) (.int .i64 t336)) (fun _ hk => hk.2) (.int .i64 t337)) (fun _ hk => hk.2) (.int .i64 t338)) (fun _ hk => hk.2) (.int .i64 t339)) (fun _ hk => hk.2) (.int .i64 t340)) (fun _ hk => hk.2) (.bool t341)) (fun _ h_ => h_.1))))) (g := gb289) (o := .cells #[.int .i64 t313, .int .i64 t314, .int .i64 t315, .int .i64 t316, .int .i64 t317, .int .i64 t318, .int .i64 t319, .int .i64 t320, .bool t321] 25 (0, 0)) (by (with_reducible repeat (first | refine blk_drewN ?_ _ | refine blk_drew ?_ | refine blk_alloc ?_ _)); refine blk_far ?_ NB289_343.out _; (with_reducible repeat (first | refine blk_drewN ?_ _ | refine blk_drew ?_ | refine blk_alloc ?_ _)); refine blk_far ?_ NB289_343.out _; (with_reducible repeat (first | refine blk_drewN ?_ _ | refine blk_drew ?_ | refine blk_alloc ?_ _)); refine blk_far ?_ NB289_343.out _; (with_reducible repeat (first | refine blk_drewN ?_ _ | refine blk_drew ?_ | refine blk_alloc ?_ _)); refine blk_far ?_ NB289_343.out _; (with_reducible repeat (first | refine blk_drewN ?_ _ | refine blk_drew ?_ | refine blk_alloc ?_ _)); refine blk_far ?_ NB289_343.out _; (with_reducible repeat (first | refine blk_drewN ?_ _ | refine blk_drew ?_ | refine blk_alloc ?_ _)); refine blk_far ?_ NB289_343.out _; (with_reducible repeat (first | refine blk_drewN ?_ _ | refine blk_drew ?_ | refine blk_alloc ?_ _)); refine blk_far ?_ NB289_343.out _; (with_reducible repeat (first | refine blk_drewN ?_ _ | refine blk_drew ?_ | refine blk_alloc ?_ _)); refine blk_far ?_ NB289_343.out _; (with_reducible repeat (first | refine blk_drewN ?_ _ | refine blk_drew ?_ | refine blk_alloc ?_ _)); refine blk_far ?_ NB289_343.out _; (with_reducible repeat (first | refine blk_drewN ?_ _ | refine blk_drew ?_ | refine blk_alloc ?_ _)); exact BK289.out)) (g := gb332) (o := .cells #[.int .i64 ((rd_T25 t327 299).f0), .int .i64 ((rd_T25 t327 299).f1), .int .i64 ((rd_T25 t327 299).f2), .int .i64 ((rd_T25 t327 299).f3), .int .i64 ((rd_T25 t327 299).f4), .int .i64 ((rd_T25 t327 299).f5), .int .i64 ((rd_T25 t327 299).f6), .int .i64 ((rd_T25 t327 299).f7), .bool ((rd_T25 t327 299).f8)] 25 (0, 0)) (by (with_reducible repeat (first | refine blk_drewN ?_ _ | refine blk_drew ?_ | refine blk_alloc ?_ _)); refine blk_far ?_ NB332_343.out _; (with_reducible repeat (first | refine blk_drewN ?_ _ | refine blk_drew ?_ | refine blk_alloc ?_ _)); refine blk_far ?_ NB332_343.out _; (with_reducible repeat (first | refine blk_drewN ?_ _ | refine blk_drew ?_ | refine blk_alloc ?_ _)); refine blk_far ?_ NB332_343.out _; (with_reducible repeat (first | refine blk_drewN ?_ _ | refine blk_drew ?_ | refine blk_alloc ?_ _)); refine blk_far ?_ NB332_343.out _; (with_reducible repeat (first | refine blk_drewN ?_ _ | refine blk_drew ?_ | refine blk_alloc ?_ _)); refine blk_far ?_ NB332_343.out _; (with_reducible repeat (first | refine blk_drewN ?_ _ | refine blk_drew ?_ | refine blk_alloc ?_ _)); refine blk_far ?_ NB332_343.out _; (with_reducible repeat (first | refine blk_drewN ?_ _ | refine blk_drew ?_ | refine blk_alloc ?_ _)); refine blk_far ?_ NB332_343.out _; (with_reducible repeat (first | refine blk_drewN ?_ _ | refine blk_drew ?_ | refine blk_alloc ?_ _)); refine blk_far ?_ NB332_343.out _; (with_reducible repeat (first | refine blk_drewN ?_ _ | refine blk_drew ?_ | refine blk_alloc ?_ _)); refine blk_far ?_ NB332_343.out _; (with_reducible repeat (first | refine blk_drewN ?_ _ | refine blk_drew ?_ | refine blk_alloc ?_ _)); exact BK332.out)) (g := gb343) (o := .cells #[.int .i64 t333, .int .i64 t334, .int .i64 t335, .int .i64 t336, .int .i64 t337, .int .i64 t338, .int .i64 t339, .int .i64 t340, .bool t341] 25 (0, 0)) (by (with_reducible repeat (first | refine blk_drewN ?_ _ | refine blk_drew ?_ | refine blk_alloc ?_ _)); refine blk_put (cs := #[.int .i64 t333, .int .i64 t334, .int .i64 t335, .int .i64 t336, .int .i64 t337, .int .i64 t338, .int .i64 t339, .int .i64 t340, .bool false]) ?_ 8 _ rfl; (with_reducible repeat (first | refine blk_drewN ?_ _ | refine blk_drew ?_ | refine blk_alloc ?_ _)); refine blk_put (cs := #[.int .i64 t333, .int .i64 t334, .int .i64 t335, .int .i64 t336, .int .i64 t337, .int .i64 t338, .int .i64 t339, .int .i64 0, .bool false]) ?_ 7 _ rfl; (with_reducible repeat (first | refine blk_drewN ?_ _ | refine blk_drew ?_ | refine blk_alloc ?_ _)); refine blk_put (cs := #[.int .i64 t333, .int .i64 t334, .int .i64 t335, .int .i64 t336, .int .i64 t337, .int .i64 t338, .int .i64 0, .int .i64 0, .bool false]) ?_ 6 _ rfl; (with_reducible repeat (first | refine blk_drewN ?_ _ | refine blk_drew ?_ | refine blk_alloc ?_ _)); refine blk_put (cs := #[.int .i64 t333, .int .i64 t334, .int .i64 t335, .int .i64 t336, .int .i64 t337, .int .i64 0, .int .i64 0, .int .i64 0, .bool false]) ?_ 5 _ rfl; (with_reducible repeat (first | refine blk_drewN ?_ _ | refine blk_drew ?_ | refine blk_alloc ?_ _)); refine blk_put (cs := #[.int .i64 t333, .int .i64 t334, .int .i64 t335, .int .i64 t336, .int .i64 0, .int .i64 0, .int .i64 0, .int .i64 0, .bool false]) ?_ 4 _ rfl; (with_reducible repeat (first | refine blk_drewN ?_ _ | refine blk_drew ?_ | refine blk_alloc ?_ _)); refine blk_put (cs := #[.int .i64 t333, .int .i64 t334, .int .i64 t335, .int .i64 0, .int .i64 0, .int .i64 0, .int .i64 0, .int .i64 0, .bool false]) ?_ 3 _ rfl; (with_reducible repeat (first | refine blk_drewN ?_ _ | refine blk_drew ?_ | refine blk_alloc ?_ _)); refine blk_put (cs := #[.int .i64 t333, .int .i64 t334, .int .i64 0, .int .i64 0, .int .i64 0, .int .i64 0, .int .i64 0, .int .i64 0, .bool false]) ?_ 2 _ rfl; (with_reducible repeat (first | refine blk_drewN ?_ _ | refine blk_drew ?_ | refine blk_alloc ?_ _)); refine blk_put (cs := #[.int .i64 t333, .int .i64 0, .int .i64 0, .int .i64 0, .int .i64 0, .int .i64 0, .int .i64 0, .int .i64 0, .bool false]) ?_ 1 _ rfl; (with_reducible repeat (first | refine blk_drewN ?_ _ | refine blk_drew ?_ | refine blk_alloc ?_ _)); refine blk_put (cs := #[.int .i64 0, .int .i64 0, .int .i64 0, .int .i64 0, .int .i64 0, .int .i64 0, .int .i64 0, .int .i64 0, .bool false]) ?_ 0 _ rfl; (with_reducible repeat (first | refine blk_drewN ?_ _ | refine blk_drew ?_ | refine blk_alloc ?_ _)); exact BK343.out)) (below_size (by repeat (first | (with_reducible first | exact HB.out | apply below_alloc | apply pw_below_drewN | apply below_drew1 | refine below_set ?_ GE289.out | refine below_set ?_ GE332.out | refine below_set ?_ GE343.out) | exact HB.out)))); have n2_ := Aside0.mk (blk_below (g := gb289) (o := .cells #[.int .i64 t313, .int .i64 t314, .int .i64 t315, .int .i64 t316, .int .i64 t317, .int .i64 t318, .int .i64 t319, .int .i64 t320, .bool t321] 25 (0, 0)) (by (with_reducible repeat (first | refine blk_drewN ?_ _ | refine blk_drew ?_ | refine blk_alloc ?_ _)); refine blk_far ?_ NB289_343.out _; (with_reducible repeat (first | refine blk_drewN ?_ _ | refine blk_drew ?_ | refine blk_alloc ?_ _)); refine blk_far ?_ NB289_343.out _; (with_reducible repeat (first | refine blk_drewN ?_ _ | refine blk_drew ?_ | refine blk_alloc ?_ _)); refine blk_far ?_ NB289_343.out _; (with_reducible repeat (first | refine blk_drewN ?_ _ | refine blk_drew ?_ | refine blk_alloc ?_ _)); refine blk_far ?_ NB289_343.out _; (with_reducible repeat (first | refine blk_drewN ?_ _ | refine blk_drew ?_ | refine blk_alloc ?_ _)); refine blk_far ?_ NB289_343.out _; (with_reducible repeat (first | refine blk_drewN ?_ _ | refine blk_drew ?_ | refine blk_alloc ?_ _)); refine blk_far ?_ NB289_343.out _; (with_reducible repeat (first | refine blk_drewN ?_ _ | refine blk_drew ?_ | refine blk_alloc ?_ _)); refine blk_far ?_ NB289_343.out _; (with_reducible repeat (first | refine blk_drewN ?_ _ | refine blk_drew ?_ | refine blk_alloc ?_ _)); refine blk_far ?_ NB289_343.out _; (with_reducible repeat (first | refine blk_drewN ?_ _ | refine blk_drew ?_ | refine blk_alloc ?_ _)); refine blk_far ?_ NB289_343.out _; (with_reducible repeat (first | refine blk_drewN ?_ _ | refine blk_drew ?_ | refine blk_alloc ?_ _)); exact BK289.out) hb); have n3_ := Aside0.mk (blk_below (g := gb332) (o := .cells #[.int .i64 ((rd_T25 t327 299).f0), .int .i64 ((rd_T25 t327 299).f1), .int .i64 ((rd_T25 t327 299).f2), .int .i64 ((rd_T25 t327 299).f3), .int .i64 ((rd_T25 t327 299).f4), .int .i64 ((rd_T25 t327 299).f5), .int .i64 ((rd_T25 t327 299).f6), .int .i64 ((rd_T25 t327 299).f7), .bool ((rd_T25 t327 299).f8)] 25 (0, 0)) (by (with_reducible repeat (first | refine blk_drewN ?_ _ | refine blk_drew ?_ | refine blk_alloc ?_ _)); refine blk_far ?_ NB332_343.out _; (with_reducible repeat (first | refine blk_drewN ?_ _ | refine blk_drew ?_ | refine blk_alloc ?_ _)); refine blk_far ?_ NB332_343.out _; (with_reducible repeat (first | refine blk_drewN ?_ _ | refine blk_drew ?_ | refine blk_alloc ?_ _)); refine blk_far ?_ NB332_343.out _; (with_reducible repeat (first | refine blk_drewN ?_ _ | refine blk_drew ?_ | refine blk_alloc ?_ _)); refine blk_far ?_ NB332_343.out _; (with_reducible repeat (first | refine blk_drewN ?_ _ | refine blk_drew ?_ | refine blk_alloc ?_ _)); refine blk_far ?_ NB332_343.out _; (with_reducible repeat (first | refine blk_drewN ?_ _ | refine blk_drew ?_ | refine blk_alloc ?_ _)); refine blk_far ?_ NB332_343.out _; (with_reducible repeat (first | refine blk_drewN ?_ _ | refine blk_drew ?_ | refine blk_alloc ?_ _)); refine blk_far ?_ NB332_343.out _; (with_reducible repeat (first | refine blk_drewN ?_ _ | refine blk_drew ?_ | refine blk_alloc ?_ _)); refine blk_far ?_ NB332_343.out _; (with_reducible repeat (first | refine blk_drewN ?_ _ | refine blk_drew ?_ | refine blk_alloc ?_ _)); refine blk_far ?_ NB332_343.out _; (with_reducible repeat (first | refine blk_drewN ?_ _ | refine blk_drew ?_ | refine blk_alloc ?_ _)); exact BK332.out) hb); have n4_ := Aside0.mk (blk_below (g := gb343) (o := .cells #[.int .i64 t333, .int .i64 t334, .int .i64 t335, .int .i64 t336, .int .i64 t337, .int .i64 t338, .int .i64 t339, .int .i64 t340, .bool t341] 25 (0, 0)) (by (with_reducible repeat (first | refine blk_drewN ?_ _ | refine blk_drew ?_ | refine blk_alloc ?_ _)); refine blk_put (cs := #[.int .i64 t333, .int .i64 t334, .int .i64 t335, .int .i64 t336, .int .i64 t337, .int .i64 t338, .int .i64 t339, .int .i64 t340, .bool false]) ?_ 8 _ rfl; (with_reducible repeat (first | refine blk_drewN ?_ _ | refine blk_drew ?_ | refine blk_alloc ?_ _)); refine blk_put (cs := #[.int .i64 t333, .int .i64 t334, .int .i64 t335, .int .i64 t336, .int .i64 t337, .int .i64 t338, .int .i64 t339, .int .i64 0, .bool false]) ?_ 7 _ rfl; (with_reducible repeat (first | refine blk_drewN ?_ _ | refine blk_drew ?_ | refine blk_alloc ?_ _)); refine blk_put (cs := #[.int .i64 t333, .int .i64 t334, .int .i64 t335, .int .i64 t336, .int .i64 t337, .int .i64 t338, .int .i64 0, .int .i64 0, .bool false]) ?_ 6 _ rfl; (with_reducible repeat (first | refine blk_drewN ?_ _ | refine blk_drew ?_ | refine blk_alloc ?_ _)); refine blk_put (cs := #[.int .i64 t333, .int .i64 t334, .int .i64 t335, .int .i64 t336, .int .i64 t337, .int .i64 0, .int .i64 0, .int .i64 0, .bool false]) ?_ 5 _ rfl; (with_reducible repeat (first | refine blk_drewN ?_ _ | refine blk_drew ?_ | refine blk_alloc ?_ _)); refine blk_put (cs := #[.int .i64 t333, .int .i64 t334, .int .i64 t335, .int .i64 t336, .int .i64 0, .int .i64 0, .int .i64 0, .int .i64 0, .bool false]) ?_ 4 _ rfl; (with_reducible repeat (first | refine blk_drewN ?_ _ | refine blk_drew ?_ | refine blk_alloc ?_ _)); refine blk_put (cs := #[.int .i64 t333, .int .i64 t334, .int .i64 t335, .int .i64 0, .int .i64 0, .int .i64 0, .int .i64 0, .int .i64 0, .bool false]) ?_ 3 _ rfl; (with_reducible repeat (first | refine blk_drewN ?_ _ | refine blk_drew ?_ | refine blk_alloc ?_ _)); refine blk_put (cs := #[.int .i64 t333, .int .i64 t334, .int .i64 0, .int .i64 0, .int .i64 0, .int .i64 0, .int .i64 0, .int .i64 0, .bool false]) ?_ 2 _ rfl; (with_reducible repeat (first | refine blk_drewN ?_ _ | refine blk_drew ?_ | refine blk_alloc ?_ _)); refine blk_put (cs := #[.int .i64 t333, .int .i64 0, .int .i64 0, .int .i64 0, .int .i64 0, .int .i64 0, .int .i64 0, .int .i64 0, .bool false]) ?_ 1 _ rfl; (with_reducible repeat (first | refine blk_drewN ?_ _ | refine blk_drew ?_ | refine blk_alloc ?_ _)); refine blk_put (cs := #[.int .i64 0, .int .i64 0, .int .i64 0, .int .i64 0, .int .i64 0, .int .i64 0, .int .i64 0, .int .i64 0, .bool false]) ?_ 0 _ rfl; (with_reducible repeat (first | refine blk_drewN ?_ _ | refine blk_drew ?_ | refine blk_alloc ?_ _)); exact BK343.out) hb); have n5_ := Aside0.mk (below_step (by repeat (first | (with_reducible first | exact HB.out | apply below_alloc | apply pw_below_drewN | apply below_drew1 | refine below_set ?_ GE289.out | refine below_set ?_ GE332.out | refine below_set ?_ GE343.out) | exact HB.out)) hb); clear HO_9; clear BK289; clear BK332; clear BK343; clear HB; have HO_9 := n0_; have HO346 := n1_; have BK289 := n2_; have BK332 := n3_; have BK343 := n4_; have HB := n5_; clear n0_ n1_ n2_ n3_ n4_ n5_; clear hb ho99) | ((with_reducible refine gate_builtin (b := .append) (xs := #[.tmp 134, .tmp 135]) rfl ?_); (try (refine gate_guard (by rfl) ?_; dsimp only)); at_builtin; refine Kd.R_append_rows k25 (w0 := w) w.heap.size rfl (.tmp 134) (.tmp 135) 33 25 (.agg #[(.int .i64 0), (.int .i64 0), (.int .i64 0), (.int .i64 0), (.int .i64 0), (.int .i64 0), (.int .i64 0), (.int .i64 0), (.bool false)]) 72 rfl Try.underlying33 info25 rfl (by decide) (by omega) v345 y344 t327 _ _ _ (fun k_ => some k_ ≠ (.slice (some ad331) t327.length co57 : Value).ownBlock ∧ k_ ≠ gb289 ∧ k_ ≠ gb332 ∧ k_ ≠ gb343) (fun _ => False) rfl rfl ?aO ?aR (fun _ _ h => h) (fun _ h => h.elim) ?aF ?aB ?aS ?aL ?_; (case aR => repeat (first | exact (Kd.R_reads' HO_9.out).2.2 | (with_reducible refine Kd.C_alloc ?_ _) | (with_reducible refine Kd.C_drewN ?_ _) | (with_reducible refine Kd.C_drew ?_))); (case aB => exact (by repeat (first | (with_reducible first | exact HB.out | apply below_alloc | apply pw_below_drewN | apply below_drew1 | refine below_set ?_ GE289.out | refine below_set ?_ GE332.out | refine below_set ?_ GE343.out) | exact HB.out))); (case aF => exact (fun k_ hk => ⟨Kd.fresh' (Kd.R_lt (by (with_reducible repeat (first | apply Kd.R_alloc | apply Kd.R_drewN | apply Kd.R_drew)); exact HO_9.out)) k_ hk, Kd.freshB (g := gb289) (o := .cells #[.int .i64 t313, .int .i64 t314, .int .i64 t315, .int .i64 t316, .int .i64 t317, .int .i64 t318, .int .i64 t319, .int .i64 t320, .bool t321] 25 (0, 0)) (by (with_reducible repeat (first | refine blk_drewN ?_ _ | refine blk_drew ?_ | refine blk_alloc ?_ _)); exact BK289.out) k_ hk, Kd.freshB (g := gb332) (o := .cells #[.int .i64 ((rd_T25 t327 299).f0), .int .i64 ((rd_T25 t327 299).f1), .int .i64 ((rd_T25 t327 299).f2), .int .i64 ((rd_T25 t327 299).f3), .int .i64 ((rd_T25 t327 299).f4), .int .i64 ((rd_T25 t327 299).f5), .int .i64 ((rd_T25 t327 299).f6), .int .i64 ((rd_T25 t327 299).f7), .bool ((rd_T25 t327 299).f8)] 25 (0, 0)) (by (with_reducible repeat (first | refine blk_drewN ?_ _ | refine blk_drew ?_ | refine blk_alloc ?_ _)); exact BK332.out) k_ hk, Kd.freshB (g := gb343) (o := .cells #[.int .i64 t333, .int .i64 t334, .int .i64 t335, .int .i64 t336, .int .i64 t337, .int .i64 t338, .int .i64 t339, .int .i64 t340, .bool t341] 25 (0, 0)) (by (with_reducible repeat (first | refine blk_drewN ?_ _ | refine blk_drew ?_ | refine blk_alloc ?_ _)); exact BK343.out) k_ hk⟩)); (case aO => exact (by (with_reducible repeat (first | apply Kd.R_alloc | apply Kd.R_drewN | apply Kd.R_drew)); exact Kd.R_mono HO346.out (fun _ hk => ⟨hk.1.1.1.2, ⟨hk.1.1.2, ⟨hk.1.2, hk.2⟩⟩⟩))); (case aS => exact (below_size (by repeat (first | (with_reducible first | exact HB.out | apply below_alloc | apply pw_below_drewN | apply below_drew1 | refine below_set ?_ GE289.out | refine below_set ?_ GE332.out | refine below_set ?_ GE343.out) | exact HB.out)))); (case aL => have := LMc69.out; omega); intro v348 w100 ho hb hg hat; rw [← Ny347.out] at ho; have n0_ := Aside0.mk (Kd.R_after (ok := (fun k_ => k_ ≠ gb289 ∧ k_ ≠ gb332 ∧ k_ ≠ gb343)) (by (with_reducible repeat (first | apply Kd.R_alloc | apply Kd.R_drewN | apply Kd.R_drew)); exact Kd.R_mono HO_9.out (fun _ hk => ⟨⟨hk.1.1.1, ⟨hk.1.1.2, hk.1.2⟩⟩, hk.2⟩)) hg hat); have n1_ := Aside0.mk (blk_grown (g := gb289) (o := .cells #[.int .i64 t313, .int .i64 t314, .int .i64 t315, .int .i64 t316, .int .i64 t317, .int .i64 t318, .int .i64 t319, .int .i64 t320, .bool t321] 25 (0, 0)) (by (with_reducible repeat (first | refine blk_drewN ?_ _ | refine blk_drew ?_ | refine blk_alloc ?_ _)); exact BK289.out) hg (Kd.R_away HO346.out (fun _ hk => hk.1.1.2))); have n2_ := Aside0.mk (blk_grown (g := gb332) (o := .cells #[.int .i64 ((rd_T25 t327 299).f0), .int .i64 ((rd_T25 t327 299).f1), .int .i64 ((rd_T25 t327 299).f2), .int .i64 ((rd_T25 t327 299).f3), .int .i64 ((rd_T25 t327 299).f4), .int .i64 ((rd_T25 t327 299).f5), .int .i64 ((rd_T25 t327 299).f6), .int .i64 ((rd_T25 t327 299).f7), .bool ((rd_T25 t327 299).f8)] 25 (0, 0)) (by (with_reducible repeat (first | refine blk_drewN ?_ _ | refine blk_drew ?_ | refine blk_alloc ?_ _)); exact BK332.out) hg (Kd.R_away HO346.out (fun _ hk => hk.1.2))); have n3_ := Aside0.mk (blk_grown (g := gb343) (o := .cells #[.int .i64 t333, .int .i64 t334, .int .i64 t335, .int .i64 t336, .int .i64 t337, .int .i64 t338, .int .i64 t339, .int .i64 t340, .bool t341] 25 (0, 0)) (by (with_reducible repeat (first | refine blk_drewN ?_ _ | refine blk_drew ?_ | refine blk_alloc ?_ _)); exact BK343.out) hg (Kd.R_away HO346.out (fun _ hk => hk.2))); have n4_ := Aside0.mk (hb); have n5_ := Aside0.mk (ho); clear HO_9; clear BK289; clear BK332; clear BK343; clear HB; clear HO346; have HO_9 := n0_; have BK289 := n1_; have BK332 := n2_; have BK343 := n3_; have HB := n4_; have HO349 := n5_; clear n0_ n1_ n2_ n3_ n4_ n5_; clear ho hb hg hat; obtain ⟨Ao101, co101, eo101⟩ := Kd.R_slice HO349.out; subst eo101) | (go_at_call 19; (with_reducible refine (impl_Changes.calls k4 _ _ y347 t350 _ ?side1 ?side2 A70.out).mono ?_); (case side1 => repeat (first | exact (Kd.R_reads' HO349.out).2.2 | (with_reducible refine Kd.C_alloc ?_ _) | (with_reducible refine Kd.C_drewN ?_ _) | (with_reducible refine Kd.C_drew ?_))); (case side2 => exact (Kd.R_reads' HO349.out).2.1); rintro e w' ⟨rfl, ⟨nd, rfl⟩⟩))
                    go_ret
                    exact ⟨by first | rfl | (simp [errW_none, errW_some] <;> rfl) | (simp [*, errW_none, errW_some] <;> rfl), by repeat (first | (with_reducible first | exact HB.out | apply below_alloc | apply pw_below_drewN | apply below_drew1 | refine below_set ?_ GE289.out | refine below_set ?_ GE332.out | refine below_set ?_ GE343.out) | exact HB.out)⟩
                  ·
                   rw [if_neg c69] at H
                   exact absurd H (by simp)
                 ·
                  rw [if_neg c68] at H
                  have c68b0 : (((rd_T25 t327 299).f4) == 0) = false := beq_eq_false_iff_ne.mpr c68
                  have c68b1 : (((rd_T25 t327 299).f4) != 0) = true := bne_iff_ne.mpr c68
                  obtain rfl := Option.some.inj H
                  have hnb102 := NB332_289.out
                  have hnc102 := NB289_332.out
                  have hnb103 := NB332_343.out
                  have hnc103 := NB343_332.out
                  have hcz104_0 : w62.cell? ⟨gb332, 0, none⟩ = some (.int .i64 ((rd_T25 t327 299).f0)) := (blk_cell BK332.out 0).trans rfl
                  have hcz104_1 : w62.cell? ⟨gb332, 1, none⟩ = some (.int .i64 ((rd_T25 t327 299).f1)) := (blk_cell BK332.out 1).trans rfl
                  have hcz104_2 : w62.cell? ⟨gb332, 2, none⟩ = some (.int .i64 ((rd_T25 t327 299).f2)) := (blk_cell BK332.out 2).trans rfl
                  have hcz104_3 : w62.cell? ⟨gb332, 3, none⟩ = some (.int .i64 ((rd_T25 t327 299).f3)) := (blk_cell BK332.out 3).trans rfl
                  have hcz104_4 : w62.cell? ⟨gb332, 4, none⟩ = some (.int .i64 ((rd_T25 t327 299).f4)) := (blk_cell BK332.out 4).trans rfl
                  have hcz104_5 : w62.cell? ⟨gb332, 5, none⟩ = some (.int .i64 ((rd_T25 t327 299).f5)) := (blk_cell BK332.out 5).trans rfl
                  have hcz104_6 : w62.cell? ⟨gb332, 6, none⟩ = some (.int .i64 ((rd_T25 t327 299).f6)) := (blk_cell BK332.out 6).trans rfl
                  have hcz104_7 : w62.cell? ⟨gb332, 7, none⟩ = some (.int .i64 ((rd_T25 t327 299).f7)) := (blk_cell BK332.out 7).trans rfl
                  have hcz104_8 : w62.cell? ⟨gb332, 8, none⟩ = some (.bool ((rd_T25 t327 299).f8)) := (blk_cell BK332.out 8).trans rfl
                  have hfz104_0 := blk_frozen BK332.out 0
                  have hfz104_1 := blk_frozen BK332.out 1
                  have hfz104_2 := blk_frozen BK332.out 2
                  have hfz104_3 := blk_frozen BK332.out 3
                  have hfz104_4 := blk_frozen BK332.out 4
                  have hfz104_5 := blk_frozen BK332.out 5
                  have hfz104_6 := blk_frozen BK332.out 6
                  have hfz104_7 := blk_frozen BK332.out 7
                  have hfz104_8 := blk_frozen BK332.out 8
                  go_wp2
                  go_ret
                  exact ⟨by first | rfl | (simp [errW_none, errW_some] <;> rfl) | (simp [*, errW_none, errW_some] <;> rfl), by repeat (first | (with_reducible first | exact HB.out | apply below_alloc | apply pw_below_drewN | apply below_drew1 | refine below_set ?_ GE289.out | refine below_set ?_ GE332.out | refine below_set ?_ GE343.out) | exact HB.out)⟩
                ·
                 rw [if_neg c67] at H
                 have c67b0 : (((rd_T25 t327 299).f2) == (wrap64 (1000 + x4_6))) = false := beq_eq_false_iff_ne.mpr c67
                 have c67b1 : (((rd_T25 t327 299).f2) != (wrap64 (1000 + x4_6))) = true := bne_iff_ne.mpr c67
                 obtain rfl := Option.some.inj H
                 have hnb105 := NB332_289.out
                 have hnc105 := NB289_332.out
                 have hnb106 := NB332_343.out
                 have hnc106 := NB343_332.out
                 have hcz107_0 : w62.cell? ⟨gb332, 0, none⟩ = some (.int .i64 ((rd_T25 t327 299).f0)) := (blk_cell BK332.out 0).trans rfl
                 have hcz107_1 : w62.cell? ⟨gb332, 1, none⟩ = some (.int .i64 ((rd_T25 t327 299).f1)) := (blk_cell BK332.out 1).trans rfl
                 have hcz107_2 : w62.cell? ⟨gb332, 2, none⟩ = some (.int .i64 ((rd_T25 t327 299).f2)) := (blk_cell BK332.out 2).trans rfl
                 have hcz107_3 : w62.cell? ⟨gb332, 3, none⟩ = some (.int .i64 ((rd_T25 t327 299).f3)) := (blk_cell BK332.out 3).trans rfl
                 have hcz107_4 : w62.cell? ⟨gb332, 4, none⟩ = some (.int .i64 ((rd_T25 t327 299).f4)) := (blk_cell BK332.out 4).trans rfl
                 have hcz107_5 : w62.cell? ⟨gb332, 5, none⟩ = some (.int .i64 ((rd_T25 t327 299).f5)) := (blk_cell BK332.out 5).trans rfl
                 have hcz107_6 : w62.cell? ⟨gb332, 6, none⟩ = some (.int .i64 ((rd_T25 t327 299).f6)) := (blk_cell BK332.out 6).trans rfl
                 have hcz107_7 : w62.cell? ⟨gb332, 7, none⟩ = some (.int .i64 ((rd_T25 t327 299).f7)) := (blk_cell BK332.out 7).trans rfl
                 have hcz107_8 : w62.cell? ⟨gb332, 8, none⟩ = some (.bool ((rd_T25 t327 299).f8)) := (blk_cell BK332.out 8).trans rfl
                 have hfz107_0 := blk_frozen BK332.out 0
                 have hfz107_1 := blk_frozen BK332.out 1
                 have hfz107_2 := blk_frozen BK332.out 2
                 have hfz107_3 := blk_frozen BK332.out 3
                 have hfz107_4 := blk_frozen BK332.out 4
                 have hfz107_5 := blk_frozen BK332.out 5
                 have hfz107_6 := blk_frozen BK332.out 6
                 have hfz107_7 := blk_frozen BK332.out 7
                 have hfz107_8 := blk_frozen BK332.out 8
                 go_wp2
                 go_ret
                 exact ⟨by first | rfl | (simp [errW_none, errW_some] <;> rfl) | (simp [*, errW_none, errW_some] <;> rfl), by repeat (first | (with_reducible first | exact HB.out | apply below_alloc | apply pw_below_drewN | apply below_drew1 | refine below_set ?_ GE289.out | refine below_set ?_ GE332.out | refine below_set ?_ GE343.out) | exact HB.out)⟩
               ·
                rw [if_neg c66] at H
                have c66b0 : (((rd_T25 t327 299).f0) == 1) = false := beq_eq_false_iff_ne.mpr c66
                have c66b1 : (((rd_T25 t327 299).f0) != 1) = true := bne_iff_ne.mpr c66
                (first | rw [c66b0] | (simp only [i64_w, i32_w]; rw [c66b0]) | skip)
                obtain rfl := Option.some.inj H
                have hnb108 := NB332_289.out
                have hnc108 := NB289_332.out
                have hnb109 := NB332_343.out
                have hnc109 := NB343_332.out
                have hcz110_0 : w62.cell? ⟨gb332, 0, none⟩ = some (.int .i64 ((rd_T25 t327 299).f0)) := (blk_cell BK332.out 0).trans rfl
                have hcz110_1 : w62.cell? ⟨gb332, 1, none⟩ = some (.int .i64 ((rd_T25 t327 299).f1)) := (blk_cell BK332.out 1).trans rfl
                have hcz110_2 : w62.cell? ⟨gb332, 2, none⟩ = some (.int .i64 ((rd_T25 t327 299).f2)) := (blk_cell BK332.out 2).trans rfl
                have hcz110_3 : w62.cell? ⟨gb332, 3, none⟩ = some (.int .i64 ((rd_T25 t327 299).f3)) := (blk_cell BK332.out 3).trans rfl
                have hcz110_4 : w62.cell? ⟨gb332, 4, none⟩ = some (.int .i64 ((rd_T25 t327 299).f4)) := (blk_cell BK332.out 4).trans rfl
                have hcz110_5 : w62.cell? ⟨gb332, 5, none⟩ = some (.int .i64 ((rd_T25 t327 299).f5)) := (blk_cell BK332.out 5).trans rfl
                have hcz110_6 : w62.cell? ⟨gb332, 6, none⟩ = some (.int .i64 ((rd_T25 t327 299).f6)) := (blk_cell BK332.out 6).trans rfl
                have hcz110_7 : w62.cell? ⟨gb332, 7, none⟩ = some (.int .i64 ((rd_T25 t327 299).f7)) := (blk_cell BK332.out 7).trans rfl
                have hcz110_8 : w62.cell? ⟨gb332, 8, none⟩ = some (.bool ((rd_T25 t327 299).f8)) := (blk_cell BK332.out 8).trans rfl
                have hfz110_0 := blk_frozen BK332.out 0
                have hfz110_1 := blk_frozen BK332.out 1
                have hfz110_2 := blk_frozen BK332.out 2
                have hfz110_3 := blk_frozen BK332.out 3
                have hfz110_4 := blk_frozen BK332.out 4
                have hfz110_5 := blk_frozen BK332.out 5
                have hfz110_6 := blk_frozen BK332.out 6
                have hfz110_7 := blk_frozen BK332.out 7
                have hfz110_8 := blk_frozen BK332.out 8
                go_wp2
                go_ret
                exact ⟨by first | rfl | (simp [errW_none, errW_some] <;> rfl) | (simp [*, errW_none, errW_some] <;> rfl), by repeat (first | (with_reducible first | exact HB.out | apply below_alloc | apply pw_below_drewN | apply below_drew1 | refine below_set ?_ GE289.out | refine below_set ?_ GE332.out | refine below_set ?_ GE343.out) | exact HB.out)⟩
              ·
               rw [if_neg c54] at H
               exact absurd H (by simp)
       ·
        rw [if_neg c31] at H
        exact absurd H (by simp)

/-- THE ONE PURE STATEMENT of laws_FnCaptured: yours. -/
def laws_FnCaptured.Pure : Prop := ∀ (l0 : List Int), l0.length ≤ maxLen → l0.length * 1 ≤ 140737488351232 → (∀ x ∈ l0, (Lit.int .u8 x).wf = true) → ∃ k, laws_FnCaptured.f k l0 = some true
theorem laws_FnCaptured.walk (P : laws_FnCaptured.Pure) (a0 : Option Addr) (len0 cap0 : Nat) (z0 : List Int) (w : World) (w0 : (a0 = none ∧ len0 = 0 ∧ cap0 = 0 ∧ z0 = []) ∨ ∃ x, a0 = some x ∧ len0 ≤ cap0 ∧ cap0 ≤ maxLen ∧ z0.length = cap0 ∧ (∀ i, i < z0.length → w.cell? (x.add i) = some (.int .u8 (z0.getD i 0))) ∧ ∀ n ∈ z0, (Lit.int .u8 n).wf = true) (y0 : len0 * 1 ≤ 140737488351232) :
  Calls Try.prog 4 #[.slice a0 len0 cap0] w fun e w' => e = .returned (.bool true) ∧ Below w.heap.size w w' := by
 obtain ⟨l0, rfl, hr0, hm0, hw0, hc0⟩ := ReadsInt.ofRowC w0
 obtain ⟨k, h⟩ := P l0 hm0 y0 hw0
 refine (laws_FnCaptured.calls k _ _ l0 true w (Kd.C_of_reads (d := (0 : Int)) (h1 := fun _ => rfl) hr0) hc0 h).mono ?_
 rintro e w' ⟨rfl, hd⟩
 exact ⟨rfl, hd⟩

end Go.Proofs.Ytdodiflcmjbfdaa.PFnCaptured
