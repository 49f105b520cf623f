/- Walks of the functions named below, by a program of the session over the kit's printer. -/
import Derived.Test.YtifcfkoohfbfoaaPFnSurfacex0
import Derived.Test.YtifcfkoohfbfoaaPFnSurfacex1
import Derived.Test.YtifcfkoohfbfoaaPFnSurfacex2
import Derived.Test.YtifcfkoohfbfoaaPFnSurfacex3
import Derived.Test.YtifcfkoohfbfoaaPFnSurfacex5
import Derived.Test.YtifcfkoohfbfoaaPFnSurfacex6
namespace Go.Proofs.Ytifcfkoohfbfoaa.PFnSurface
open Go.RowKit Go.Proofs.YtifcfkoohfbfoaaW.PrintWords Go.Proofs.YtifcfkoohfbfoaaW.PrintLast Go.Proofs.YtifcfkoohfbfoaaW.PrintMore
attribute [local go_sem] max2_int min2_int max_two min_two max_three min_three max_four min_four   -- for this text's walks alone
set_option linter.unusedVariables false
set_option linter.unusedSimpArgs false

/-! ### laws_FnSurface: function 7 -/
mutual
def laws_FnSurface.l0 : Nat → Int → Int → List Int → List Int → Int → Int → Int → Int → Int → Int → Int → Option (Bool)
  | 0, _, _, _, _, _, _, _, _, _, _, _ => none
  | k + 1, x5, x7, x221000, x221001, x222000, x222001, x222002, x227000, x227001, x227002, x227003 => if x7 ≤ 2 then ((impl_Law.f k x7 x221000 x221001 x227000 x227001 x227002 x227003 x222000 x222001 x222002 x5).bind fun bt227 => (if bt227.2 = 1 then (laws_FnSurface.j1 k x5 x7 bt227.1 bt227.2 true x221000 x221001 x222000 x222001 x222002 x227000 x227001 x227002 x227003) else (if bt227.1 < x222000 then (laws_FnSurface.j1 k x5 x7 bt227.1 bt227.2 true x221000 x221001 x222000 x222001 x222002 x227000 x227001 x227002 x227003) else (if bt227.1 > x222001 then (laws_FnSurface.j1 k x5 x7 bt227.1 bt227.2 true x221000 x221001 x222000 x222001 x222002 x227000 x227001 x227002 x227003) else ((laws_size.f (wrap64 (bt227.1 - x5))).bind fun t229 => (laws_FnSurface.j1 k x5 x7 bt227.1 bt227.2 (decide (t229 > x222002)) x221000 x221001 x222000 x222001 x222002 x227000 x227001 x227002 x227003)))))) else (if 0 < (x221000.length : Int) then ((impl_GainAt.f k x221000 x221001 (rd x221000 0)).bind fun t233 => ((impl_ModeOf.f k 1 true 0).bind fun t234 => ((impl_GainOk.f k x221000 x221001).bind fun t235 => (if t235 = true then (if 0 < (x221001.length : Int) then (if t233 = (rd x221001 0) then (if t234 = 2 then ((impl_ModeOf.f k 2 true 0).bind fun t237 => (if t237 = 0 then ((impl_ModeOf.f k 3 false 0).bind fun t238 => (some (t238 == 1))) else (some false))) else (some false)) else (some false)) else (none)) else (some false))))) else (none))
def laws_FnSurface.j1 : Nat → Int → Int → Int → Int → Bool → List Int → List Int → Int → Int → Int → Int → Int → Int → Int → Option (Bool)
  | 0, _, _, _, _, _, _, _, _, _, _, _, _, _, _ => none
  | k + 1, x5, x7, x8, x9, x73, x221000, x221001, x222000, x222001, x222002, x227000, x227001, x227002, x227003 => if x73 = true then (some false) else (if x7 = 0 then (if x227003 > 250 then (if x8 > x5 then (laws_FnSurface.j2 k x5 x7 x8 x9 true x221000 x221001 x222000 x222001 x222002 x227000 x227001 x227002 x227003) else (if x227003 < (-100) then (laws_FnSurface.j2 k x5 x7 x8 x9 (decide (x8 < x5)) x221000 x221001 x222000 x222001 x222002 x227000 x227001 x227002 x227003) else (laws_FnSurface.j2 k x5 x7 x8 x9 false x221000 x221001 x222000 x222001 x222002 x227000 x227001 x227002 x227003))) else (if x227003 < (-100) then (laws_FnSurface.j2 k x5 x7 x8 x9 (decide (x8 < x5)) x221000 x221001 x222000 x222001 x222002 x227000 x227001 x227002 x227003) else (laws_FnSurface.j2 k x5 x7 x8 x9 false x221000 x221001 x222000 x222001 x222002 x227000 x227001 x227002 x227003))) else (laws_FnSurface.j2 k x5 x7 x8 x9 false x221000 x221001 x222000 x222001 x222002 x227000 x227001 x227002 x227003))
def laws_FnSurface.j2 : Nat → Int → Int → Int → Int → Bool → List Int → List Int → Int → Int → Int → Int → Int → Int → Int → Option (Bool)
  | 0, _, _, _, _, _, _, _, _, _, _, _, _, _, _ => none
  | k + 1, x5, x7, x8, x9, x95, x221000, x221001, x222000, x222001, x222002, x227000, x227001, x227002, x227003 => if x95 = true then (some false) else (if x7 = 2 then ((impl_Law.f k x7 x221000 x221001 (wrap64 (x227000 + 1)) x227001 x227002 x227003 x222000 x222001 x222002 x5).bind fun bt230 => (if bt230.1 < x8 then (some false) else (if x9 = 0 then (if x8 = (wrap64 (10 * (wrap64 ((wrap64 (x227000 + 1)) - 1)))) then (laws_FnSurface.l0 k x5 (wrap64 (x7 + 1)) x221000 x221001 x222000 x222001 x222002 (wrap64 (x227000 + 1)) x227001 x227002 x227003) else (some false)) else (laws_FnSurface.l0 k x5 (wrap64 (x7 + 1)) x221000 x221001 x222000 x222001 x222002 (wrap64 (x227000 + 1)) x227001 x227002 x227003)))) else (laws_FnSurface.l0 k x5 (wrap64 (x7 + 1)) x221000 x221001 x222000 x222001 x222002 x227000 x227001 x227002 x227003))
end
def laws_FnSurface.f (k : Nat) (l0 : List Int) : Option (Bool) := (laws_big.f l0).bind fun t209 => (if t209 = true then (some true) else ((spec_DrawLaws.f k l0).bind fun bt210 => ((laws_at.f l0 1).bind fun t222 => ((laws_at.f l0 2).bind fun t223 => ((laws_at.f l0 3).bind fun t224 => ((laws_at.f l0 4).bind fun t225 => (laws_FnSurface.l0 k bt210.2.2.2.2.2 0 bt210.1 bt210.2.1 bt210.2.2.1 bt210.2.2.2.1 bt210.2.2.2.2.1 (wrap64 ((wrap64 (t222 * 4)) - 500)) (wrap64 ((wrap64 (t223 * 4)) - 500)) (wrap64 (t224 * 3)) (wrap64 ((wrap64 (t225 * 4)) - 400)))))))))
theorem laws_FnSurface.mono_l : ∀ k, (∀ y0 y1 y2 y3 y4 y5 y6 y7 y8 y9 y10, LeO (laws_FnSurface.l0 k y0 y1 y2 y3 y4 y5 y6 y7 y8 y9 y10) (laws_FnSurface.l0 (k + 1) y0 y1 y2 y3 y4 y5 y6 y7 y8 y9 y10)) ∧ (∀ y0 y1 y2 y3 y4 y5 y6 y7 y8 y9 y10 y11 y12 y13, LeO (laws_FnSurface.j1 k y0 y1 y2 y3 y4 y5 y6 y7 y8 y9 y10 y11 y12 y13) (laws_FnSurface.j1 (k + 1) y0 y1 y2 y3 y4 y5 y6 y7 y8 y9 y10 y11 y12 y13)) ∧ (∀ y0 y1 y2 y3 y4 y5 y6 y7 y8 y9 y10 y11 y12 y13, LeO (laws_FnSurface.j2 k y0 y1 y2 y3 y4 y5 y6 y7 y8 y9 y10 y11 y12 y13) (laws_FnSurface.j2 (k + 1) y0 y1 y2 y3 y4 y5 y6 y7 y8 y9 y10 y11 y12 y13))
  | 0 => ⟨fun _ _ _ _ _ _ _ _ _ _ _ r h => by simp [laws_FnSurface.l0] at h, fun _ _ _ _ _ _ _ _ _ _ _ _ _ _ r h => by simp [laws_FnSurface.j1] at h, fun _ _ _ _ _ _ _ _ _ _ _ _ _ _ r h => by simp [laws_FnSurface.j2] at h⟩
  | k + 1 => by
    obtain ⟨ih0, ih1, ih2⟩ := laws_FnSurface.mono_l k
    refine ⟨?_, ?_, ?_⟩
    · intro y0 y1 y2 y3 y4 y5 y6 y7 y8 y9 y10
      unfold laws_FnSurface.l0
      repeat' first
      | (with_reducible exact ih0 _ _ _ _ _ _ _ _ _ _ _)
      | (with_reducible exact ih1 _ _ _ _ _ _ _ _ _ _ _ _ _ _)
      | (with_reducible exact ih2 _ _ _ _ _ _ _ _ _ _ _ _ _ _)
      | (with_reducible exact impl_GainAt.mono _ _ _ _)
      | (with_reducible exact impl_GainOk.mono _ _ _)
      | (with_reducible exact impl_Law.mono _ _ _ _ _ _ _ _ _ _ _ _)
      | (with_reducible exact impl_ModeOf.mono _ _ _ _)
      | (with_reducible exact spec_DrawLaws.mono _ _)
      | (with_reducible exact LeO.refl _)
      | (with_reducible exact LeO.none _)
      | (with_reducible refine LeO.ite ?_ ?_)
      | (with_reducible refine LeO.bind ?_ (fun _ => ?_))
      | exact ih0 _ _ _ _ _ _ _ _ _ _ _
      | exact ih1 _ _ _ _ _ _ _ _ _ _ _ _ _ _
      | exact ih2 _ _ _ _ _ _ _ _ _ _ _ _ _ _
      | exact impl_GainAt.mono _ _ _ _
      | exact impl_GainOk.mono _ _ _
      | exact impl_Law.mono _ _ _ _ _ _ _ _ _ _ _ _
      | exact impl_ModeOf.mono _ _ _ _
      | exact spec_DrawLaws.mono _ _
      | exact LeO.none _
      | refine LeO.ite ?_ ?_
      | refine LeO.bind ?_ (fun _ => ?_)
    · intro y0 y1 y2 y3 y4 y5 y6 y7 y8 y9 y10 y11 y12 y13
      unfold laws_FnSurface.j1
      repeat' first
      | (with_reducible exact ih0 _ _ _ _ _ _ _ _ _ _ _)
      | (with_reducible exact ih1 _ _ _ _ _ _ _ _ _ _ _ _ _ _)
      | (with_reducible exact ih2 _ _ _ _ _ _ _ _ _ _ _ _ _ _)
      | (with_reducible exact impl_GainAt.mono _ _ _ _)
      | (with_reducible exact impl_GainOk.mono _ _ _)
      | (with_reducible exact impl_Law.mono _ _ _ _ _ _ _ _ _ _ _ _)
      | (with_reducible exact impl_ModeOf.mono _ _ _ _)
      | (with_reducible exact spec_DrawLaws.mono _ _)
      | (with_reducible exact LeO.refl _)
      | (with_reducible exact LeO.none _)
      | (with_reducible refine LeO.ite ?_ ?_)
      | (with_reducible refine LeO.bind ?_ (fun _ => ?_))
      | exact ih0 _ _ _ _ _ _ _ _ _ _ _
      | exact ih1 _ _ _ _ _ _ _ _ _ _ _ _ _ _
      | exact ih2 _ _ _ _ _ _ _ _ _ _ _ _ _ _
      | exact impl_GainAt.mono _ _ _ _
      | exact impl_GainOk.mono _ _ _
      | exact impl_Law.mono _ _ _ _ _ _ _ _ _ _ _ _
      | exact impl_ModeOf.mono _ _ _ _
      | exact spec_DrawLaws.mono _ _
      | exact LeO.none _
      | refine LeO.ite ?_ ?_
      | refine LeO.bind ?_ (fun _ => ?_)
    · intro y0 y1 y2 y3 y4 y5 y6 y7 y8 y9 y10 y11 y12 y13
      unfold laws_FnSurface.j2
      repeat' first
      | (with_reducible exact ih0 _ _ _ _ _ _ _ _ _ _ _)
      | (with_reducible exact ih1 _ _ _ _ _ _ _ _ _ _ _ _ _ _)
      | (with_reducible exact ih2 _ _ _ _ _ _ _ _ _ _ _ _ _ _)
      | (with_reducible exact impl_GainAt.mono _ _ _ _)
      | (with_reducible exact impl_GainOk.mono _ _ _)
      | (with_reducible exact impl_Law.mono _ _ _ _ _ _ _ _ _ _ _ _)
      | (with_reducible exact impl_ModeOf.mono _ _ _ _)
      | (with_reducible exact spec_DrawLaws.mono _ _)
      | (with_reducible exact LeO.refl _)
      | (with_reducible exact LeO.none _)
      | (with_reducible refine LeO.ite ?_ ?_)
      | (with_reducible refine LeO.bind ?_ (fun _ => ?_))
      | exact ih0 _ _ _ _ _ _ _ _ _ _ _
      | exact ih1 _ _ _ _ _ _ _ _ _ _ _ _ _ _
      | exact ih2 _ _ _ _ _ _ _ _ _ _ _ _ _ _
      | exact impl_GainAt.mono _ _ _ _
      | exact impl_GainOk.mono _ _ _
      | exact impl_Law.mono _ _ _ _ _ _ _ _ _ _ _ _
      | exact impl_ModeOf.mono _ _ _ _
      | exact spec_DrawLaws.mono _ _
      | exact LeO.none _
      | refine LeO.ite ?_ ?_
      | refine LeO.bind ?_ (fun _ => ?_)
theorem laws_FnSurface.mono : ∀ a0 k, LeO (laws_FnSurface.f k a0) (laws_FnSurface.f (k + 1) a0) := by
  intro a0 k
  obtain ⟨ih0, ih1, ih2⟩ := laws_FnSurface.mono_l k
  unfold laws_FnSurface.f
  repeat' first
      | (with_reducible exact ih0 _ _ _ _ _ _ _ _ _ _ _)
      | (with_reducible exact ih1 _ _ _ _ _ _ _ _ _ _ _ _ _ _)
      | (with_reducible exact ih2 _ _ _ _ _ _ _ _ _ _ _ _ _ _)
      | (with_reducible exact impl_GainAt.mono _ _ _ _)
      | (with_reducible exact impl_GainOk.mono _ _ _)
      | (with_reducible exact impl_Law.mono _ _ _ _ _ _ _ _ _ _ _ _)
      | (with_reducible exact impl_ModeOf.mono _ _ _ _)
      | (with_reducible exact spec_DrawLaws.mono _ _)
      | (with_reducible exact LeO.refl _)
      | (with_reducible exact LeO.none _)
      | (with_reducible refine LeO.ite ?_ ?_)
      | (with_reducible refine LeO.bind ?_ (fun _ => ?_))
      | exact ih0 _ _ _ _ _ _ _ _ _ _ _
      | exact ih1 _ _ _ _ _ _ _ _ _ _ _ _ _ _
      | exact ih2 _ _ _ _ _ _ _ _ _ _ _ _ _ _
      | exact impl_GainAt.mono _ _ _ _
      | exact impl_GainOk.mono _ _ _
      | exact impl_Law.mono _ _ _ _ _ _ _ _ _ _ _ _
      | exact impl_ModeOf.mono _ _ _ _
      | exact spec_DrawLaws.mono _ _
      | exact LeO.none _
      | refine LeO.ite ?_ ?_
      | refine LeO.bind ?_ (fun _ => ?_)
def laws_FnSurface.T9 : Bool × List (List Nat × List Nat) := (true, [([], []), ([0], [0]), ([1], [1]), ([2], [2]), ([2], [2]), ([4, 2], [2, 4]), ([3, 5, 2], [2, 3, 5]), ([2, 6], [2, 6]), ([7, 2], [7]), ([8], [8]), ([8], [8]), ([10, 8], [8, 10]), ([9, 11, 8], [8, 9, 11]), ([8, 12], [8, 12]), ([13, 8], [13]), ([14], [14]), ([14], [14]), ([15, 16, 14], [14, 15, 16]), ([17, 14, 14], [14, 17]), ([14], [14]), ([19, 14], [14, 19]), ([18, 20, 14], [14, 18, 20]), ([14, 21], [14, 21])])
def laws_FnSurface.B9 : List Nat := [0, 1, 3, 7, 7, 23, 63, 127, 255, 511, 511, 1535, 4095, 8191, 16383, 32767, 32767, 131071, 262143, 32767, 557055, 2097151, 4194303]
theorem laws_FnSurface.tab9 : rtab .any (opsOf Try.f7 9) = laws_FnSurface.T9 := by kernel_rfl
theorem laws_FnSurface.bits9 : waitsOk laws_FnSurface.T9.2 laws_FnSurface.B9 = true := by kernel_rfl
set_option maxHeartbeats 8000000 in
set_option maxRecDepth 100000 in
theorem laws_FnSurface.calls (k : Nat) (A0 : Option Addr) (c0 : Nat) (l0 : List Int) (r : Bool) (w : World) (hr0 : Kd.C (Kd.int .u8) w A0 l0.length l0) (hc0 : l0.length ≤ c0) (h : laws_FnSurface.f k l0 = some r) :
    Calls Try.prog 7 #[.slice A0 l0.length c0] w fun e w' => e = .returned (.bool r) ∧ Below w.heap.size w w' := by
  have hu41 := Try.underlying41
  have hu34 := Try.underlying34
  have hu48 := Try.underlying48
  have HR0 := Aside0.mk hr0
  have HC0 := Aside0.mk hc0
  clear hr0 hc0
  have HB := Aside0.mk (Below.refl w.heap.size w)
  have H : ((laws_big.f l0).bind fun t209 => (if t209 = true then (some true) else ((spec_DrawLaws.f k l0).bind fun bt210 => ((laws_at.f l0 1).bind fun t222 => ((laws_at.f l0 2).bind fun t223 => ((laws_at.f l0 3).bind fun t224 => ((laws_at.f l0 4).bind fun t225 => (laws_FnSurface.l0 k bt210.2.2.2.2.2 0 bt210.1 bt210.2.1 bt210.2.2.1 bt210.2.2.2.1 bt210.2.2.2.2.1 (wrap64 ((wrap64 (t222 * 4)) - 500)) (wrap64 ((wrap64 (t223 * 4)) - 500)) (wrap64 (t224 * 3)) (wrap64 ((wrap64 (t225 * 4)) - 400)))))))))) = some r := h
  clear h
  replace H := Option.bind_eq_some_iff.mp H
  obtain ⟨t209, A20, H⟩ := H
  replace H : (if t209 = true then (some true) else ((spec_DrawLaws.f k l0).bind fun bt210 => ((laws_at.f l0 1).bind fun t222 => ((laws_at.f l0 2).bind fun t223 => ((laws_at.f l0 3).bind fun t224 => ((laws_at.f l0 4).bind fun t225 => (laws_FnSurface.l0 k bt210.2.2.2.2.2 0 bt210.1 bt210.2.1 bt210.2.2.1 bt210.2.2.2.1 bt210.2.2.2.2.1 (wrap64 ((wrap64 (t222 * 4)) - 500)) (wrap64 ((wrap64 (t223 * 4)) - 500)) (wrap64 (t224 * 3)) (wrap64 ((wrap64 (t225 * 4)) - 400))))))))) = some r := H
  have A2 := Aside0.mk A20
  clear A20
  by_cases c3 : t209 = true
  · subst c3
    have H1 : (some true) = some r := by rw [if_pos rfl] at H; exact H
    clear H
    have H := H1
    clear H1
    obtain rfl := Option.some.inj H
    go_enter Try.func7, Try.ntmps7
    go_wp2_with (first | ((with_reducible refine gate_callee (f := 15) rfl ?_); refine goesL_ (some 15) rfl rfl Try.func15 (by kernel_rfl) rfl #[.slice A0 l0.length c0] rfl (by (try simp only [List.map_toArray, List.map_cons, List.map_nil]); first | done | rfl | (simp only [List.length_drop, List.length_take]; rfl)) ?_; (with_reducible refine (laws_big.calls _ _ l0 true _ ?side1 ?side2 A2.out).mono ?_); (case side1 => repeat (first | exact HR0.out | (with_reducible refine Kd.C_alloc ?_ _) | (with_reducible refine Kd.C_drewN ?_ _) | (with_reducible refine Kd.C_drew ?_))); (case side2 => exact HC0.out); rintro e w' ⟨rfl, ⟨nd, rfl⟩⟩; refine ⟨_, rfl, ?_⟩))
    go_ret
    exact ⟨by first | rfl | (simp [errW_none, errW_some] <;> rfl) | (simp [*, errW_none, errW_some] <;> rfl), by repeat (first | (with_reducible first | exact HB.out | apply below_alloc | apply pw_below_drewN | apply below_drew1) | exact HB.out)⟩
  · replace c3 := Bool.eq_false_iff.mpr c3
    subst c3
    have H1 : ((spec_DrawLaws.f k l0).bind fun bt210 => ((laws_at.f l0 1).bind fun t222 => ((laws_at.f l0 2).bind fun t223 => ((laws_at.f l0 3).bind fun t224 => ((laws_at.f l0 4).bind fun t225 => (laws_FnSurface.l0 k bt210.2.2.2.2.2 0 bt210.1 bt210.2.1 bt210.2.2.1 bt210.2.2.2.1 bt210.2.2.2.2.1 (wrap64 ((wrap64 (t222 * 4)) - 500)) (wrap64 ((wrap64 (t223 * 4)) - 500)) (wrap64 (t224 * 3)) (wrap64 ((wrap64 (t225 * 4)) - 400)))))))) = some r := by rw [if_neg (show ¬ (false = true) by decide)] at H; exact H
    clear H
    have H := H1
    clear H1
    replace H := Option.bind_eq_some_iff.mp H
    obtain ⟨⟨t210, t213, t216, t217, t218, t219⟩, A40, H⟩ := H
    replace H : ((laws_at.f l0 1).bind fun t222 => ((laws_at.f l0 2).bind fun t223 => ((laws_at.f l0 3).bind fun t224 => ((laws_at.f l0 4).bind fun t225 => (laws_FnSurface.l0 k t219 0 t210 t213 t216 t217 t218 (wrap64 ((wrap64 (t222 * 4)) - 500)) (wrap64 ((wrap64 (t223 * 4)) - 500)) (wrap64 (t224 * 3)) (wrap64 ((wrap64 (t225 * 4)) - 400))))))) = some r := H
    have A4 := Aside0.mk A40
    clear A40
    replace H := Option.bind_eq_some_iff.mp H
    obtain ⟨t222, A50, H⟩ := H
    replace H : ((laws_at.f l0 2).bind fun t223 => ((laws_at.f l0 3).bind fun t224 => ((laws_at.f l0 4).bind fun t225 => (laws_FnSurface.l0 k t219 0 t210 t213 t216 t217 t218 (wrap64 ((wrap64 (t222 * 4)) - 500)) (wrap64 ((wrap64 (t223 * 4)) - 500)) (wrap64 (t224 * 3)) (wrap64 ((wrap64 (t225 * 4)) - 400)))))) = some r := H
    have A5 := Aside0.mk A50
    clear A50
    replace H := Option.bind_eq_some_iff.mp H
    obtain ⟨t223, A60, H⟩ := H
    replace H : ((laws_at.f l0 3).bind fun t224 => ((laws_at.f l0 4).bind fun t225 => (laws_FnSurface.l0 k t219 0 t210 t213 t216 t217 t218 (wrap64 ((wrap64 (t222 * 4)) - 500)) (wrap64 ((wrap64 (t223 * 4)) - 500)) (wrap64 (t224 * 3)) (wrap64 ((wrap64 (t225 * 4)) - 400))))) = some r := H
    have A6 := Aside0.mk A60
    clear A60
    replace H := Option.bind_eq_some_iff.mp H
    obtain ⟨t224, A70, H⟩ := H
    replace H : ((laws_at.f l0 4).bind fun t225 => (laws_FnSurface.l0 k t219 0 t210 t213 t216 t217 t218 (wrap64 ((wrap64 (t222 * 4)) - 500)) (wrap64 ((wrap64 (t223 * 4)) - 500)) (wrap64 (t224 * 3)) (wrap64 ((wrap64 (t225 * 4)) - 400)))) = some r := H
    have A7 := Aside0.mk A70
    clear A70
    replace H := Option.bind_eq_some_iff.mp H
    obtain ⟨t225, A80, H⟩ := H
    replace H : (laws_FnSurface.l0 k t219 0 t210 t213 t216 t217 t218 (wrap64 ((wrap64 (t222 * 4)) - 500)) (wrap64 ((wrap64 (t223 * 4)) - 500)) (wrap64 (t224 * 3)) (wrap64 ((wrap64 (t225 * 4)) - 400))) = some r := H
    have A8 := Aside0.mk A80
    clear A80
    have H' := Aside0.mk H
    clear H
    go_enter Try.func7, Try.ntmps7
    go_wp2_with (first | ((with_reducible refine gate_callee (f := 15) rfl ?_); refine goesL_ (some 15) rfl rfl Try.func15 (by kernel_rfl) rfl #[.slice A0 l0.length c0] rfl (by (try simp only [List.map_toArray, List.map_cons, List.map_nil]); first | done | rfl | (simp only [List.length_drop, List.length_take]; rfl)) ?_; (with_reducible refine (laws_big.calls _ _ l0 false _ ?side1 ?side2 A2.out).mono ?_); (case side1 => repeat (first | exact HR0.out | (with_reducible refine Kd.C_alloc ?_ _) | (with_reducible refine Kd.C_drewN ?_ _) | (with_reducible refine Kd.C_drew ?_))); (case side2 => exact HC0.out); rintro e w' ⟨rfl, ⟨nd, rfl⟩⟩; refine ⟨_, rfl, ?_⟩) | ((with_reducible refine gate_callee (f := 23) rfl ?_); refine goesL_ (some 18) rfl rfl Try.func23 (by kernel_rfl) rfl #[.slice A0 l0.length c0] rfl (by (try simp only [List.map_toArray, List.map_cons, List.map_nil]); first | done | rfl | (simp only [List.length_drop, List.length_take]; rfl)) ?_; (with_reducible refine (spec_DrawLaws.calls k _ _ l0 t210 t213 t216 t217 t218 t219 _ ?side1 ?side2 A4.out).mono ?_); (case side1 => repeat (first | exact HR0.out | (with_reducible refine Kd.C_alloc ?_ _) | (with_reducible refine Kd.C_drewN ?_ _) | (with_reducible refine Kd.C_drew ?_))); (case side2 => exact HC0.out); rintro e w9 ⟨v211, v214, rfl, ho0, ho1, hb⟩; refine ⟨_, rfl, ?_⟩; have n0_ := Aside0.mk (Kd.R_lower ho0 (below_size (by repeat (first | (with_reducible first | exact HB.out | apply below_alloc | apply pw_below_drewN | apply below_drew1) | exact HB.out)))); have n1_ := Aside0.mk (Kd.R_lower ho1 (below_size (by repeat (first | (with_reducible first | exact HB.out | apply below_alloc | apply pw_below_drewN | apply below_drew1) | exact HB.out)))); have n2_ := Aside0.mk (below_step (by repeat (first | (with_reducible first | exact HB.out | apply below_alloc | apply pw_below_drewN | apply below_drew1) | exact HB.out)) hb); clear HB; have HO212 := n0_; have HO215 := n1_; have HB := n2_; clear n0_ n1_ n2_; (try clear hb); (try clear hb2); (try clear hk); (try clear hi); (try clear ho0); (try clear ho1)) | ((with_reducible refine gate_dst (N := 3) rfl ?_); refine box_event ?hg (N := 3) ?hd (cs := #[.slice none 0 0, .slice none 0 0]) (t := 41) ?hr ?_; (case hd => rfl); (case hg => rfl); (case hr => first | (go_simp; done) | (go_simp; rfl)); intro gb220 hg w10 hbox hb; have n0_ := Aside0.mk (Kd.R_below (by (with_reducible repeat (first | apply Kd.R_alloc | apply Kd.R_drewN | apply Kd.R_drew)); exact HO212.out) hb); have n1_ := Aside0.mk (Kd.R_below (by (with_reducible repeat (first | apply Kd.R_alloc | apply Kd.R_drewN | apply Kd.R_drew)); exact HO215.out) hb); have n2_ := Aside0.mk (below_step (by repeat (first | (with_reducible first | exact HB.out | apply below_alloc | apply pw_below_drewN | apply below_drew1) | exact HB.out)) hb); have n3_ := Aside0.mk (hbox); have n4_ := Aside0.mk ((by rw [hg]; exact (below_size (by repeat (first | (with_reducible first | exact HB.out | apply below_alloc | apply pw_below_drewN | apply below_drew1) | exact HB.out))) : w.heap.size ≤ gb220)); have n5_ := Aside0.mk ((by rw [hg]; exact (below_size (by repeat (first | (with_reducible first | exact HB.out | apply below_alloc | apply pw_below_drewN | apply below_drew1) | exact HB.out))) : w.heap.size ≤ gb220)); clear HO212; clear HO215; clear HB; have HO212 := n0_; have HO215 := n1_; have HB := n2_; have BK220 := n3_; have GW220 := n4_; have GE220 := n5_; clear n0_ n1_ n2_ n3_ n4_ n5_; clear hb hbox hg) | ((with_reducible refine gate_dst (N := 4) rfl ?_); refine box_event ?hg (N := 4) ?hd (cs := #[.int .i64 0, .int .i64 0, .int .i64 0]) (t := 34) ?hr ?_; (case hd => rfl); (case hg => rfl); (case hr => first | (go_simp; done) | (go_simp; rfl)); intro gb221 hg w11 hbox hb; have n0_ := Aside0.mk (Kd.R_below (by (with_reducible repeat (first | apply Kd.R_alloc | apply Kd.R_drewN | apply Kd.R_drew)); exact HO212.out) hb); have n1_ := Aside0.mk (Kd.R_below (by (with_reducible repeat (first | apply Kd.R_alloc | apply Kd.R_drewN | apply Kd.R_drew)); exact HO215.out) hb); have n2_ := Aside0.mk (blk_below (g := gb220) (o := .cells #[.slice none 0 0, .slice none 0 0] 41 (0, 0)) (by (with_reducible repeat (first | refine blk_drewN ?_ _ | refine blk_drew ?_ | refine blk_alloc ?_ _)); exact BK220.out) hb); have n3_ := Aside0.mk (below_step (by repeat (first | (with_reducible first | exact HB.out | apply below_alloc | apply pw_below_drewN | apply below_drew1 | refine below_set ?_ GE220.out) | exact HB.out)) hb); have n4_ := Aside0.mk (hbox); have n5_ := Aside0.mk ((by rw [hg]; exact (below_size (by repeat (first | (with_reducible first | exact HB.out | apply below_alloc | apply pw_below_drewN | apply below_drew1 | refine below_set ?_ GE220.out) | exact HB.out))) : w.heap.size ≤ gb221)); have n6_ := Aside0.mk ((by rw [hg]; exact (below_size (by repeat (first | (with_reducible first | exact HB.out | apply below_alloc | apply pw_below_drewN | apply below_drew1 | refine below_set ?_ GE220.out) | exact HB.out))) : w.heap.size ≤ gb221)); have n7_ := Aside0.mk ((by rw [hg]; exact Nat.ne_of_lt (blk_lt (g := gb220) (o := .cells #[.slice none 0 0, .slice none 0 0] 41 (0, 0)) (by (with_reducible repeat (first | refine blk_drewN ?_ _ | refine blk_drew ?_ | refine blk_alloc ?_ _)); exact BK220.out)) : gb220 ≠ gb221)); have n8_ := Aside0.mk ((by rw [hg]; exact Nat.ne_of_gt (blk_lt (g := gb220) (o := .cells #[.slice none 0 0, .slice none 0 0] 41 (0, 0)) (by (with_reducible repeat (first | refine blk_drewN ?_ _ | refine blk_drew ?_ | refine blk_alloc ?_ _)); exact BK220.out)) : gb221 ≠ gb220)); clear HO212; clear HO215; clear BK220; clear HB; have HO212 := n0_; have HO215 := n1_; have BK220 := n2_; have HB := n3_; have BK221 := n4_; have GW221 := n5_; have GE221 := n6_; have NB220_221 := n7_; have NB221_220 := n8_; clear n0_ n1_ n2_ n3_ n4_ n5_ n6_ n7_ n8_; clear hb hbox hg; obtain ⟨Ao12, co12, eo12⟩ := Kd.R_slice HO212.out; subst eo12; have hnb13 := NB220_221.out; have hnc13 := NB221_220.out; have hcz14_0 : w11.cell? ⟨gb220, 0, none⟩ = some (.slice none 0 0) := (blk_cell BK220.out 0).trans rfl; have hcz14_1 : w11.cell? ⟨gb220, 1, none⟩ = some (.slice none 0 0) := (blk_cell BK220.out 1).trans rfl; have hfz14_0 := blk_frozen BK220.out 0; have hfz14_1 := blk_frozen BK220.out 1; obtain ⟨Ao15, co15, eo15⟩ := Kd.R_slice HO215.out; subst eo15; have hcz16_0 : w11.cell? ⟨gb221, 0, none⟩ = some (.int .i64 0) := (blk_cell BK221.out 0).trans rfl; have hcz16_1 : w11.cell? ⟨gb221, 1, none⟩ = some (.int .i64 0) := (blk_cell BK221.out 1).trans rfl; have hcz16_2 : w11.cell? ⟨gb221, 2, none⟩ = some (.int .i64 0) := (blk_cell BK221.out 2).trans rfl; have hfz16_0 := blk_frozen BK221.out 0; have hfz16_1 := blk_frozen BK221.out 1; have hfz16_2 := blk_frozen BK221.out 2) | ((with_reducible refine gate_callee (f := 16) rfl ?_); refine goesL_ (some 23) rfl rfl Try.func16 (by kernel_rfl) rfl #[.slice A0 l0.length c0, .int .i64 1] rfl (by (try simp only [List.map_toArray, List.map_cons, List.map_nil]); first | done | rfl | (simp only [List.length_drop, List.length_take]; rfl)) ?_; (with_reducible refine (laws_at.calls _ _ l0 1 t222 _ ?side1 ?side2 A5.out).mono ?_); (case side1 => exact Kd.C_below HR0.out (by repeat (first | (with_reducible first | exact HB.out | apply below_alloc | apply pw_below_drewN | apply below_drew1 | refine below_set ?_ GE220.out | refine below_set ?_ GE221.out) | exact HB.out))); (case side2 => exact HC0.out); rintro e w' ⟨rfl, ⟨nd, rfl⟩⟩; refine ⟨_, rfl, ?_⟩) | ((with_reducible refine gate_callee (f := 16) rfl ?_); refine goesL_ (some 27) rfl rfl Try.func16 (by kernel_rfl) rfl #[.slice A0 l0.length c0, .int .i64 2] rfl (by (try simp only [List.map_toArray, List.map_cons, List.map_nil]); first | done | rfl | (simp only [List.length_drop, List.length_take]; rfl)) ?_; (with_reducible refine (laws_at.calls _ _ l0 2 t223 _ ?side1 ?side2 A6.out).mono ?_); (case side1 => exact Kd.C_below HR0.out (by repeat (first | (with_reducible first | exact HB.out | apply below_alloc | apply pw_below_drewN | apply below_drew1 | refine below_set ?_ GE220.out | refine below_set ?_ GE221.out) | exact HB.out))); (case side2 => exact HC0.out); rintro e w' ⟨rfl, ⟨nd, rfl⟩⟩; refine ⟨_, rfl, ?_⟩) | ((with_reducible refine gate_callee (f := 16) rfl ?_); refine goesL_ (some 31) rfl rfl Try.func16 (by kernel_rfl) rfl #[.slice A0 l0.length c0, .int .i64 3] rfl (by (try simp only [List.map_toArray, List.map_cons, List.map_nil]); first | done | rfl | (simp only [List.length_drop, List.length_take]; rfl)) ?_; (with_reducible refine (laws_at.calls _ _ l0 3 t224 _ ?side1 ?side2 A7.out).mono ?_); (case side1 => exact Kd.C_below HR0.out (by repeat (first | (with_reducible first | exact HB.out | apply below_alloc | apply pw_below_drewN | apply below_drew1 | refine below_set ?_ GE220.out | refine below_set ?_ GE221.out) | exact HB.out))); (case side2 => exact HC0.out); rintro e w' ⟨rfl, ⟨nd, rfl⟩⟩; refine ⟨_, rfl, ?_⟩) | ((with_reducible refine gate_callee (f := 16) rfl ?_); refine goesL_ (some 34) rfl rfl Try.func16 (by kernel_rfl) rfl #[.slice A0 l0.length c0, .int .i64 4] rfl (by (try simp only [List.map_toArray, List.map_cons, List.map_nil]); first | done | rfl | (simp only [List.length_drop, List.length_take]; rfl)) ?_; (with_reducible refine (laws_at.calls _ _ l0 4 t225 _ ?side1 ?side2 A8.out).mono ?_); (case side1 => exact Kd.C_below HR0.out (by repeat (first | (with_reducible first | exact HB.out | apply below_alloc | apply pw_below_drewN | apply below_drew1 | refine below_set ?_ GE220.out | refine below_set ?_ GE221.out) | exact HB.out))); (case side2 => exact HC0.out); rintro e w' ⟨rfl, ⟨nd, rfl⟩⟩; refine ⟨_, rfl, ?_⟩) | ((with_reducible refine gate_dst (N := 6) rfl ?_); refine box_event ?hg (N := 6) ?hd (cs := #[.int .i64 0, .int .i64 0, .int .i64 0, .int .i64 0]) (t := 48) ?hr ?_; (case hd => rfl); (case hg => rfl); (case hr => first | (go_simp; done) | (go_simp; rfl)); intro gb226 hg w17 hbox hb; have n0_ := Aside0.mk (Kd.R_below (by (with_reducible repeat (first | apply Kd.R_alloc | apply Kd.R_drewN | apply Kd.R_drew)); exact (Kd.R_mono (Kd.R_mono (Kd.R_far (p := ⟨gb221, 2, none⟩) (Kd.R_far (p := ⟨gb221, 1, none⟩) (Kd.R_far (p := ⟨gb221, 0, none⟩) (Kd.R_far (p := ⟨gb220, 1, none⟩) (Kd.R_far (p := ⟨gb220, 0, none⟩) (Kd.R_types (Kd.R_types HO212.out BK220.out (by decide)) BK221.out (by decide)) (fun _ hk => hk.1.2) (.slice Ao12 t210.length co12)) (fun _ hk => hk.1.2) (.slice Ao15 t213.length co15)) (fun _ hk => hk.2) (.int .i64 t216)) (fun _ hk => hk.2) (.int .i64 t217)) (fun _ hk => hk.2) (.int .i64 t218)) (fun _ h_ => h_.1)) (fun _ h_ => h_.1))) hb); have n1_ := Aside0.mk (Kd.R_below (by (with_reducible repeat (first | apply Kd.R_alloc | apply Kd.R_drewN | apply Kd.R_drew)); exact (Kd.R_mono (Kd.R_mono (Kd.R_far (p := ⟨gb221, 2, none⟩) (Kd.R_far (p := ⟨gb221, 1, none⟩) (Kd.R_far (p := ⟨gb221, 0, none⟩) (Kd.R_far (p := ⟨gb220, 1, none⟩) (Kd.R_far (p := ⟨gb220, 0, none⟩) (Kd.R_types (Kd.R_types HO215.out BK220.out (by decide)) BK221.out (by decide)) (fun _ hk => hk.1.2) (.slice Ao12 t210.length co12)) (fun _ hk => hk.1.2) (.slice Ao15 t213.length co15)) (fun _ hk => hk.2) (.int .i64 t216)) (fun _ hk => hk.2) (.int .i64 t217)) (fun _ hk => hk.2) (.int .i64 t218)) (fun _ h_ => h_.1)) (fun _ h_ => h_.1))) hb); have n2_ := Aside0.mk (blk_below (g := gb220) (o := .cells #[.slice Ao12 t210.length co12, .slice Ao15 t213.length co15] 41 (0, 0)) (by (with_reducible repeat (first | refine blk_drewN ?_ _ | refine blk_drew ?_ | refine blk_alloc ?_ _)); refine blk_far ?_ NB220_221.out _; (with_reducible repeat (first | refine blk_drewN ?_ _ | refine blk_drew ?_ | refine blk_alloc ?_ _)); refine blk_far ?_ NB220_221.out _; (with_reducible repeat (first | refine blk_drewN ?_ _ | refine blk_drew ?_ | refine blk_alloc ?_ _)); refine blk_far ?_ NB220_221.out _; (with_reducible repeat (first | refine blk_drewN ?_ _ | refine blk_drew ?_ | refine blk_alloc ?_ _)); refine blk_put (cs := #[.slice Ao12 t210.length co12, .slice none 0 0]) ?_ 1 _ rfl; (with_reducible repeat (first | refine blk_drewN ?_ _ | refine blk_drew ?_ | refine blk_alloc ?_ _)); refine blk_put (cs := #[.slice none 0 0, .slice none 0 0]) ?_ 0 _ rfl; (with_reducible repeat (first | refine blk_drewN ?_ _ | refine blk_drew ?_ | refine blk_alloc ?_ _)); exact BK220.out) hb); have n3_ := Aside0.mk (blk_below (g := gb221) (o := .cells #[.int .i64 t216, .int .i64 t217, .int .i64 t218] 34 (0, 0)) (by (with_reducible repeat (first | refine blk_drewN ?_ _ | refine blk_drew ?_ | refine blk_alloc ?_ _)); refine blk_put (cs := #[.int .i64 t216, .int .i64 t217, .int .i64 0]) ?_ 2 _ rfl; (with_reducible repeat (first | refine blk_drewN ?_ _ | refine blk_drew ?_ | refine blk_alloc ?_ _)); refine blk_put (cs := #[.int .i64 t216, .int .i64 0, .int .i64 0]) ?_ 1 _ rfl; (with_reducible repeat (first | refine blk_drewN ?_ _ | refine blk_drew ?_ | refine blk_alloc ?_ _)); refine blk_put (cs := #[.int .i64 0, .int .i64 0, .int .i64 0]) ?_ 0 _ rfl; (with_reducible repeat (first | refine blk_drewN ?_ _ | refine blk_drew ?_ | refine blk_alloc ?_ _)); refine blk_far ?_ NB221_220.out _; (with_reducible repeat (first | refine blk_drewN ?_ _ | refine blk_drew ?_ | refine blk_alloc ?_ _)); refine blk_far ?_ NB221_220.out _; (with_reducible repeat (first | refine blk_drewN ?_ _ | refine blk_drew ?_ | refine blk_alloc ?_ _)); exact BK221.out) hb); have n4_ := Aside0.mk (below_step (by repeat (first | (with_reducible first | exact HB.out | apply below_alloc | apply pw_below_drewN | apply below_drew1 | refine below_set ?_ GE220.out | refine below_set ?_ GE221.out) | exact HB.out)) hb); have n5_ := Aside0.mk (hbox); have n6_ := Aside0.mk ((by rw [hg]; exact (below_size (by repeat (first | (with_reducible first | exact HB.out | apply below_alloc | apply pw_below_drewN | apply below_drew1 | refine below_set ?_ GE220.out | refine below_set ?_ GE221.out) | exact HB.out))) : w.heap.size ≤ gb226)); have n7_ := Aside0.mk ((by rw [hg]; exact (below_size (by repeat (first | (with_reducible first | exact HB.out | apply below_alloc | apply pw_below_drewN | apply below_drew1 | refine below_set ?_ GE220.out | refine below_set ?_ GE221.out) | exact HB.out))) : w.heap.size ≤ gb226)); have n8_ := Aside0.mk ((by rw [hg]; exact Nat.ne_of_lt (blk_lt (g := gb220) (o := .cells #[.slice Ao12 t210.length co12, .slice Ao15 t213.length co15] 41 (0, 0)) (by (with_reducible repeat (first | refine blk_drewN ?_ _ | refine blk_drew ?_ | refine blk_alloc ?_ _)); refine blk_far ?_ NB220_221.out _; (with_reducible repeat (first | refine blk_drewN ?_ _ | refine blk_drew ?_ | refine blk_alloc ?_ _)); refine blk_far ?_ NB220_221.out _; (with_reducible repeat (first | refine blk_drewN ?_ _ | refine blk_drew ?_ | refine blk_alloc ?_ _)); refine blk_far ?_ NB220_221.out _; (with_reducible repeat (first | refine blk_drewN ?_ _ | refine blk_drew ?_ | refine blk_alloc ?_ _)); refine blk_put (cs := #[.slice Ao12 t210.length co12, .slice none 0 0]) ?_ 1 _ rfl; (with_reducible repeat (first | refine blk_drewN ?_ _ | refine blk_drew ?_ | refine blk_alloc ?_ _)); refine blk_put (cs := #[.slice none 0 0, .slice none 0 0]) ?_ 0 _ rfl; (with_reducible repeat (first | refine blk_drewN ?_ _ | refine blk_drew ?_ | refine blk_alloc ?_ _)); exact BK220.out)) : gb220 ≠ gb226)); have n9_ := Aside0.mk ((by rw [hg]; exact Nat.ne_of_gt (blk_lt (g := gb220) (o := .cells #[.slice Ao12 t210.length co12, .slice Ao15 t213.length co15] 41 (0, 0)) (by (with_reducible repeat (first | refine blk_drewN ?_ _ | refine blk_drew ?_ | refine blk_alloc ?_ _)); refine blk_far ?_ NB220_221.out _; (with_reducible repeat (first | refine blk_drewN ?_ _ | refine blk_drew ?_ | refine blk_alloc ?_ _)); refine blk_far ?_ NB220_221.out _; (with_reducible repeat (first | refine blk_drewN ?_ _ | refine blk_drew ?_ | refine blk_alloc ?_ _)); refine blk_far ?_ NB220_221.out _; (with_reducible repeat (first | refine blk_drewN ?_ _ | refine blk_drew ?_ | refine blk_alloc ?_ _)); refine blk_put (cs := #[.slice Ao12 t210.length co12, .slice none 0 0]) ?_ 1 _ rfl; (with_reducible repeat (first | refine blk_drewN ?_ _ | refine blk_drew ?_ | refine blk_alloc ?_ _)); refine blk_put (cs := #[.slice none 0 0, .slice none 0 0]) ?_ 0 _ rfl; (with_reducible repeat (first | refine blk_drewN ?_ _ | refine blk_drew ?_ | refine blk_alloc ?_ _)); exact BK220.out)) : gb226 ≠ gb220)); have n10_ := Aside0.mk ((by rw [hg]; exact Nat.ne_of_lt (blk_lt (g := gb221) (o := .cells #[.int .i64 t216, .int .i64 t217, .int .i64 t218] 34 (0, 0)) (by (with_reducible repeat (first | refine blk_drewN ?_ _ | refine blk_drew ?_ | refine blk_alloc ?_ _)); refine blk_put (cs := #[.int .i64 t216, .int .i64 t217, .int .i64 0]) ?_ 2 _ rfl; (with_reducible repeat (first | refine blk_drewN ?_ _ | refine blk_drew ?_ | refine blk_alloc ?_ _)); refine blk_put (cs := #[.int .i64 t216, .int .i64 0, .int .i64 0]) ?_ 1 _ rfl; (with_reducible repeat (first | refine blk_drewN ?_ _ | refine blk_drew ?_ | refine blk_alloc ?_ _)); refine blk_put (cs := #[.int .i64 0, .int .i64 0, .int .i64 0]) ?_ 0 _ rfl; (with_reducible repeat (first | refine blk_drewN ?_ _ | refine blk_drew ?_ | refine blk_alloc ?_ _)); refine blk_far ?_ NB221_220.out _; (with_reducible repeat (first | refine blk_drewN ?_ _ | refine blk_drew ?_ | refine blk_alloc ?_ _)); refine blk_far ?_ NB221_220.out _; (with_reducible repeat (first | refine blk_drewN ?_ _ | refine blk_drew ?_ | refine blk_alloc ?_ _)); exact BK221.out)) : gb221 ≠ gb226)); have n11_ := Aside0.mk ((by rw [hg]; exact Nat.ne_of_gt (blk_lt (g := gb221) (o := .cells #[.int .i64 t216, .int .i64 t217, .int .i64 t218] 34 (0, 0)) (by (with_reducible repeat (first | refine blk_drewN ?_ _ | refine blk_drew ?_ | refine blk_alloc ?_ _)); refine blk_put (cs := #[.int .i64 t216, .int .i64 t217, .int .i64 0]) ?_ 2 _ rfl; (with_reducible repeat (first | refine blk_drewN ?_ _ | refine blk_drew ?_ | refine blk_alloc ?_ _)); refine blk_put (cs := #[.int .i64 t216, .int .i64 0, .int .i64 0]) ?_ 1 _ rfl; (with_reducible repeat (first | refine blk_drewN ?_ _ | refine blk_drew ?_ | refine blk_alloc ?_ _)); refine blk_put (cs := #[.int .i64 0, .int .i64 0, .int .i64 0]) ?_ 0 _ rfl; (with_reducible repeat (first | refine blk_drewN ?_ _ | refine blk_drew ?_ | refine blk_alloc ?_ _)); refine blk_far ?_ NB221_220.out _; (with_reducible repeat (first | refine blk_drewN ?_ _ | refine blk_drew ?_ | refine blk_alloc ?_ _)); refine blk_far ?_ NB221_220.out _; (with_reducible repeat (first | refine blk_drewN ?_ _ | refine blk_drew ?_ | refine blk_alloc ?_ _)); exact BK221.out)) : gb226 ≠ gb221)); clear HO212; clear HO215; clear BK220; clear BK221; clear HB; have HO212 := n0_; have HO215 := n1_; have BK220 := n2_; have BK221 := n3_; have HB := n4_; have BK226 := n5_; have GW226 := n6_; have GE226 := n7_; have NB220_226 := n8_; have NB226_220 := n9_; have NB221_226 := n10_; have NB226_221 := n11_; clear n0_ n1_ n2_ n3_ n4_ n5_ n6_ n7_ n8_ n9_ n10_ n11_; clear hb hbox hg; have hnb18 := NB226_220.out; have hnc18 := NB220_226.out; have hnb19 := NB226_221.out; have hnc19 := NB221_226.out; have hcz20_0 : w17.cell? ⟨gb226, 0, none⟩ = some (.int .i64 0) := (blk_cell BK226.out 0).trans rfl; have hcz20_1 : w17.cell? ⟨gb226, 1, none⟩ = some (.int .i64 0) := (blk_cell BK226.out 1).trans rfl; have hcz20_2 : w17.cell? ⟨gb226, 2, none⟩ = some (.int .i64 0) := (blk_cell BK226.out 2).trans rfl; have hcz20_3 : w17.cell? ⟨gb226, 3, none⟩ = some (.int .i64 0) := (blk_cell BK226.out 3).trans rfl; have hfz20_0 := blk_frozen BK226.out 0; have hfz20_1 := blk_frozen BK226.out 1; have hfz20_2 := blk_frozen BK226.out 2; have hfz20_3 := blk_frozen BK226.out 3))
    go_loopg [7] k (fun kq v7 w' => ∃ (x7_1 : Int) (x227000_1 : Int), v7 = .int .i64 x7_1 ∧ Aside0 (laws_FnSurface.l0 kq t219 x7_1 t210 t213 t216 t217 t218 x227000_1 (wrap64 ((wrap64 (t223 * 4)) - 500)) (wrap64 (t224 * 3)) (wrap64 ((wrap64 (t225 * 4)) - 400)) = some r) ∧ Aside0 (kq ≤ k) ∧ Aside0 (Kd.R (Kd.int .i64) 3 w' w.heap.size (fun k_ => some k_ ≠ ((.slice Ao15 t213.length co15) : Value).ownBlock) (.slice Ao12 t210.length co12) t210) ∧ Aside0 (Kd.R (Kd.int .i64) 3 w' w.heap.size (fun k_ => some k_ ≠ ((.slice Ao12 t210.length co12) : Value).ownBlock) (.slice Ao15 t213.length co15) t213) ∧ Aside0 (w'.heap[gb220]? = some (.cells #[(.slice Ao12 t210.length co12), (.slice Ao15 t213.length co15)] 41 (0, 0))) ∧ Aside0 (w'.heap[gb221]? = some (.cells #[.int .i64 t216, .int .i64 t217, .int .i64 t218] 34 (0, 0))) ∧ Aside0 (w'.heap[gb226]? = some (.cells #[.int .i64 x227000_1, .int .i64 (wrap64 ((wrap64 (t223 * 4)) - 500)), .int .i64 (wrap64 (t224 * 3)), .int .i64 (wrap64 ((wrap64 (t225 * 4)) - 400))] 48 (0, 0))) ∧ Aside0 (Below w.heap.size w w'))
    case atStart => exact ⟨(0), (wrap64 ((wrap64 (t222 * 4)) - 500)), (by first | rfl | (simp; done) | (simp [*]; done)), H', ⟨Nat.le_refl _⟩, ⟨by (with_reducible repeat (first | apply Kd.R_alloc | apply Kd.R_drewN | apply Kd.R_drew)); exact Kd.R_mono (Kd.R_far (p := ⟨gb226, 3, none⟩) (Kd.R_far (p := ⟨gb226, 2, none⟩) (Kd.R_far (p := ⟨gb226, 1, none⟩) (Kd.R_far (p := ⟨gb226, 0, none⟩) (Kd.R_types HO212.out BK226.out (by decide)) (fun _ hk => hk.2) (.int .i64 (wrap64 ((wrap64 (t222 * 4)) - 500)))) (fun _ hk => hk.2) (.int .i64 (wrap64 ((wrap64 (t223 * 4)) - 500)))) (fun _ hk => hk.2) (.int .i64 (wrap64 (t224 * 3)))) (fun _ hk => hk.2) (.int .i64 (wrap64 ((wrap64 (t225 * 4)) - 400)))) (fun _ hk => hk.1)⟩, ⟨by (with_reducible repeat (first | apply Kd.R_alloc | apply Kd.R_drewN | apply Kd.R_drew)); exact Kd.R_mono (Kd.R_far (p := ⟨gb226, 3, none⟩) (Kd.R_far (p := ⟨gb226, 2, none⟩) (Kd.R_far (p := ⟨gb226, 1, none⟩) (Kd.R_far (p := ⟨gb226, 0, none⟩) (Kd.R_types HO215.out BK226.out (by decide)) (fun _ hk => hk.2) (.int .i64 (wrap64 ((wrap64 (t222 * 4)) - 500)))) (fun _ hk => hk.2) (.int .i64 (wrap64 ((wrap64 (t223 * 4)) - 500)))) (fun _ hk => hk.2) (.int .i64 (wrap64 (t224 * 3)))) (fun _ hk => hk.2) (.int .i64 (wrap64 ((wrap64 (t225 * 4)) - 400)))) (fun _ hk => hk.1)⟩, ⟨by (with_reducible repeat (first | refine blk_drewN ?_ _ | refine blk_drew ?_ | refine blk_alloc ?_ _)); refine blk_far ?_ NB220_226.out _; (with_reducible repeat (first | refine blk_drewN ?_ _ | refine blk_drew ?_ | refine blk_alloc ?_ _)); refine blk_far ?_ NB220_226.out _; (with_reducible repeat (first | refine blk_drewN ?_ _ | refine blk_drew ?_ | refine blk_alloc ?_ _)); refine blk_far ?_ NB220_226.out _; (with_reducible repeat (first | refine blk_drewN ?_ _ | refine blk_drew ?_ | refine blk_alloc ?_ _)); refine blk_far ?_ NB220_226.out _; (with_reducible repeat (first | refine blk_drewN ?_ _ | refine blk_drew ?_ | refine blk_alloc ?_ _)); exact BK220.out⟩, ⟨by (with_reducible repeat (first | refine blk_drewN ?_ _ | refine blk_drew ?_ | refine blk_alloc ?_ _)); refine blk_far ?_ NB221_226.out _; (with_reducible repeat (first | refine blk_drewN ?_ _ | refine blk_drew ?_ | refine blk_alloc ?_ _)); refine blk_far ?_ NB221_226.out _; (with_reducible repeat (first | refine blk_drewN ?_ _ | refine blk_drew ?_ | refine blk_alloc ?_ _)); refine blk_far ?_ NB221_226.out _; (with_reducible repeat (first | refine blk_drewN ?_ _ | refine blk_drew ?_ | refine blk_alloc ?_ _)); refine blk_far ?_ NB221_226.out _; (with_reducible repeat (first | refine blk_drewN ?_ _ | refine blk_drew ?_ | refine blk_alloc ?_ _)); exact BK221.out⟩, ⟨by (with_reducible repeat (first | refine blk_drewN ?_ _ | refine blk_drew ?_ | refine blk_alloc ?_ _)); refine blk_put (cs := #[.int .i64 (wrap64 ((wrap64 (t222 * 4)) - 500)), .int .i64 (wrap64 ((wrap64 (t223 * 4)) - 500)), .int .i64 (wrap64 (t224 * 3)), .int .i64 0]) ?_ 3 _ rfl; (with_reducible repeat (first | refine blk_drewN ?_ _ | refine blk_drew ?_ | refine blk_alloc ?_ _)); refine blk_put (cs := #[.int .i64 (wrap64 ((wrap64 (t222 * 4)) - 500)), .int .i64 (wrap64 ((wrap64 (t223 * 4)) - 500)), .int .i64 0, .int .i64 0]) ?_ 2 _ rfl; (with_reducible repeat (first | refine blk_drewN ?_ _ | refine blk_drew ?_ | refine blk_alloc ?_ _)); refine blk_put (cs := #[.int .i64 (wrap64 ((wrap64 (t222 * 4)) - 500)), .int .i64 0, .int .i64 0, .int .i64 0]) ?_ 1 _ rfl; (with_reducible repeat (first | refine blk_drewN ?_ _ | refine blk_drew ?_ | refine blk_alloc ?_ _)); refine blk_put (cs := #[.int .i64 0, .int .i64 0, .int .i64 0, .int .i64 0]) ?_ 0 _ rfl; (with_reducible repeat (first | refine blk_drewN ?_ _ | refine blk_drew ?_ | refine blk_alloc ?_ _)); exact BK226.out⟩, ⟨by repeat (first | (with_reducible first | exact HB.out | apply below_alloc | apply pw_below_drewN | apply below_drew1 | refine below_set ?_ GE220.out | refine below_set ?_ GE221.out | refine below_set ?_ GE226.out) | exact HB.out)⟩⟩
    case round =>
      clear H'
      try clear c1
      try clear c2
      try clear p2
      try clear c3
      try clear p6
      try clear c7
      try clear c13
      try clear c15
      try clear c16
      try clear c18
      try clear c19
      try clear hcz14_0
      try clear hcz14_1
      try clear hcz16_0
      try clear hcz16_1
      try clear hcz16_2
      try clear hcz20_0
      try clear hcz20_1
      try clear hcz20_2
      try clear hcz20_3
      try clear hfz14_0
      try clear hfz14_1
      try clear hfz16_0
      try clear hfz16_1
      try clear hfz16_2
      try clear hfz20_0
      try clear hfz20_1
      try clear hfz20_2
      try clear hfz20_3
      obtain ⟨x7_1, x227000_1, rfl, HA, HK1, HO_221000, HO_221001, BK220, BK221, BK226, HB⟩ := hrel
      cases gk with
      | zero => exact absurd HA.out (by simp [laws_FnSurface.l0])
      | succ k1 =>
        have H := HA.out
        clear HA
        simp only [laws_FnSurface.l0] at H
        by_cases c21 : x7_1 ≤ 2
        · rw [if_pos c21] at H
          have c21b0 : decide (x7_1 ≤ 2) = true := decide_eq_true c21
          clear c21
          replace H := Option.bind_eq_some_iff.mp H
          obtain ⟨⟨t227, t228⟩, A220, H⟩ := H
          replace H : (if t228 = 1 then (laws_FnSurface.j1 k1 t219 x7_1 t227 t228 true t210 t213 t216 t217 t218 x227000_1 (wrap64 ((wrap64 (t223 * 4)) - 500)) (wrap64 (t224 * 3)) (wrap64 ((wrap64 (t225 * 4)) - 400))) else (if t227 < t216 then (laws_FnSurface.j1 k1 t219 x7_1 t227 t228 true t210 t213 t216 t217 t218 x227000_1 (wrap64 ((wrap64 (t223 * 4)) - 500)) (wrap64 (t224 * 3)) (wrap64 ((wrap64 (t225 * 4)) - 400))) else (if t227 > t217 then (laws_FnSurface.j1 k1 t219 x7_1 t227 t228 true t210 t213 t216 t217 t218 x227000_1 (wrap64 ((wrap64 (t223 * 4)) - 500)) (wrap64 (t224 * 3)) (wrap64 ((wrap64 (t225 * 4)) - 400))) else ((laws_size.f (wrap64 (t227 - t219))).bind fun t229 => (laws_FnSurface.j1 k1 t219 x7_1 t227 t228 (decide (t229 > t218)) t210 t213 t216 t217 t218 x227000_1 (wrap64 ((wrap64 (t223 * 4)) - 500)) (wrap64 (t224 * 3)) (wrap64 ((wrap64 (t225 * 4)) - 400))))))) = some r := H
          have A22 := Aside0.mk A220
          clear A220
          have HC23 := Aside0.mk H
          clear H
          have hnb24 := NB220_221.out
          have hnc24 := NB221_220.out
          have hnb25 := NB220_226.out
          have hnc25 := NB226_220.out
          have hcz26_0 : wr.cell? ⟨gb220, 0, none⟩ = some (.slice Ao12 t210.length co12) := (blk_cell BK220.out 0).trans rfl
          have hcz26_1 : wr.cell? ⟨gb220, 1, none⟩ = some (.slice Ao15 t213.length co15) := (blk_cell BK220.out 1).trans rfl
          have hfz26_0 := blk_frozen BK220.out 0
          have hfz26_1 := blk_frozen BK220.out 1
          have hnb27 := NB226_221.out
          have hnc27 := NB221_226.out
          have hcz28_0 : wr.cell? ⟨gb226, 0, none⟩ = some (.int .i64 x227000_1) := (blk_cell BK226.out 0).trans rfl
          have hcz28_1 : wr.cell? ⟨gb226, 1, none⟩ = some (.int .i64 (wrap64 ((wrap64 (t223 * 4)) - 500))) := (blk_cell BK226.out 1).trans rfl
          have hcz28_2 : wr.cell? ⟨gb226, 2, none⟩ = some (.int .i64 (wrap64 (t224 * 3))) := (blk_cell BK226.out 2).trans rfl
          have hcz28_3 : wr.cell? ⟨gb226, 3, none⟩ = some (.int .i64 (wrap64 ((wrap64 (t225 * 4)) - 400))) := (blk_cell BK226.out 3).trans rfl
          have hfz28_0 := blk_frozen BK226.out 0
          have hfz28_1 := blk_frozen BK226.out 1
          have hfz28_2 := blk_frozen BK226.out 2
          have hfz28_3 := blk_frozen BK226.out 3
          have hcz29_0 : wr.cell? ⟨gb221, 0, none⟩ = some (.int .i64 t216) := (blk_cell BK221.out 0).trans rfl
          have hcz29_1 : wr.cell? ⟨gb221, 1, none⟩ = some (.int .i64 t217) := (blk_cell BK221.out 1).trans rfl
          have hcz29_2 : wr.cell? ⟨gb221, 2, none⟩ = some (.int .i64 t218) := (blk_cell BK221.out 2).trans rfl
          have hfz29_0 := blk_frozen BK221.out 0
          have hfz29_1 := blk_frozen BK221.out 1
          have hfz29_2 := blk_frozen BK221.out 2
          go_upto_region 9 with (first | ((with_reducible refine gate_callee (f := 24) rfl ?_); refine goesL_ (some 48) rfl rfl Try.func24 (by kernel_rfl) rfl #[.int .i64 x7_1, .agg #[.slice Ao12 t210.length co12, .slice Ao15 t213.length co15], .agg #[.int .i64 x227000_1, .int .i64 (wrap64 ((wrap64 (t223 * 4)) - 500)), .int .i64 (wrap64 (t224 * 3)), .int .i64 (wrap64 ((wrap64 (t225 * 4)) - 400))], .agg #[.int .i64 t216, .int .i64 t217, .int .i64 t218], .int .i64 t219] rfl (by (try simp only [List.map_toArray, List.map_cons, List.map_nil]); first | done | rfl | (simp only [List.length_drop, List.length_take]; rfl)) ?_; (with_reducible refine (impl_Law.calls k1 x7_1 _ _ t210 _ _ t213 x227000_1 (wrap64 ((wrap64 (t223 * 4)) - 500)) (wrap64 (t224 * 3)) (wrap64 ((wrap64 (t225 * 4)) - 400)) t216 t217 t218 t219 t227 t228 _ ?side1 ?side2 ?side3 ?side4 A22.out).mono ?_); (case side1 => repeat (first | exact (Kd.R_reads' HO_221000.out).2.2 | (with_reducible refine Kd.C_alloc ?_ _) | (with_reducible refine Kd.C_drewN ?_ _) | (with_reducible refine Kd.C_drew ?_))); (case side2 => exact (Kd.R_reads' HO_221000.out).2.1); (case side3 => repeat (first | exact (Kd.R_reads' HO_221001.out).2.2 | (with_reducible refine Kd.C_alloc ?_ _) | (with_reducible refine Kd.C_drewN ?_ _) | (with_reducible refine Kd.C_drew ?_))); (case side4 => exact (Kd.R_reads' HO_221001.out).2.1); rintro e w30 ⟨rfl, hb⟩; refine ⟨_, rfl, ?_⟩; have n0_ := Aside0.mk (Kd.R_below (by (with_reducible repeat (first | apply Kd.R_alloc | apply Kd.R_drewN | apply Kd.R_drew)); exact HO_221000.out) hb); have n1_ := Aside0.mk (Kd.R_below (by (with_reducible repeat (first | apply Kd.R_alloc | apply Kd.R_drewN | apply Kd.R_drew)); exact HO_221001.out) hb); have n2_ := Aside0.mk (blk_below (g := gb220) (o := .cells #[.slice Ao12 t210.length co12, .slice Ao15 t213.length co15] 41 (0, 0)) (by (with_reducible repeat (first | refine blk_drewN ?_ _ | refine blk_drew ?_ | refine blk_alloc ?_ _)); exact BK220.out) hb); have n3_ := Aside0.mk (blk_below (g := gb221) (o := .cells #[.int .i64 t216, .int .i64 t217, .int .i64 t218] 34 (0, 0)) (by (with_reducible repeat (first | refine blk_drewN ?_ _ | refine blk_drew ?_ | refine blk_alloc ?_ _)); exact BK221.out) hb); have n4_ := Aside0.mk (blk_below (g := gb226) (o := .cells #[.int .i64 x227000_1, .int .i64 (wrap64 ((wrap64 (t223 * 4)) - 500)), .int .i64 (wrap64 (t224 * 3)), .int .i64 (wrap64 ((wrap64 (t225 * 4)) - 400))] 48 (0, 0)) (by (with_reducible repeat (first | refine blk_drewN ?_ _ | refine blk_drew ?_ | refine blk_alloc ?_ _)); exact BK226.out) hb); have n5_ := Aside0.mk (below_step (by repeat (first | (with_reducible first | exact HB.out | apply below_alloc | apply pw_below_drewN | apply below_drew1 | refine below_set ?_ GE220.out | refine below_set ?_ GE221.out | refine below_set ?_ GE226.out) | exact HB.out)) hb); clear HO_221000; clear HO_221001; clear BK220; clear BK221; clear BK226; clear HB; have HO_221000 := n0_; have HO_221001 := n1_; have BK220 := n2_; have BK221 := n3_; have BK226 := n4_; have HB := n5_; clear n0_ n1_ n2_ n3_ n4_ n5_; (try clear hb); (try clear hb2); (try clear hk); (try clear hi)))
          (try simp only [Act.put, List.setIfInBounds_toArray, List.set_cons_zero, List.set_cons_succ])
          go_cut [73, 39] (fun v73 v39 wc => ∃ (kq : Nat) (x73_22 : Bool), v73 = .bool x73_22 ∧ Aside0 (laws_FnSurface.j1 kq t219 x7_1 t227 t228 x73_22 t210 t213 t216 t217 t218 x227000_1 (wrap64 ((wrap64 (t223 * 4)) - 500)) (wrap64 (t224 * 3)) (wrap64 ((wrap64 (t225 * 4)) - 400)) = some r) ∧ Aside0 (kq ≤ k1) ∧ Aside0 (Kd.R (Kd.int .i64) 3 wc w.heap.size (fun k_ => some k_ ≠ ((.slice Ao15 t213.length co15) : Value).ownBlock) (.slice Ao12 t210.length co12) t210) ∧ Aside0 (Kd.R (Kd.int .i64) 3 wc w.heap.size (fun k_ => some k_ ≠ ((.slice Ao12 t210.length co12) : Value).ownBlock) (.slice Ao15 t213.length co15) t213) ∧ Aside0 (wc.heap[gb220]? = some (.cells #[(.slice Ao12 t210.length co12), (.slice Ao15 t213.length co15)] 41 (0, 0))) ∧ Aside0 (wc.heap[gb221]? = some (.cells #[.int .i64 t216, .int .i64 t217, .int .i64 t218] 34 (0, 0))) ∧ Aside0 (wc.heap[gb226]? = some (.cells #[.int .i64 x227000_1, .int .i64 (wrap64 ((wrap64 (t223 * 4)) - 500)), .int .i64 (wrap64 (t224 * 3)), .int .i64 (wrap64 ((wrap64 (t225 * 4)) - 400))] 48 (0, 0))) ∧ Aside0 (Below w.heap.size w wc))
          case first =>
            have H := HC23.out
            clear HC23
            by_cases c31 : t228 = 1
            · rw [if_pos c31] at H
              have c31b0 : (t228 == 1) = true := beq_iff_eq.mpr c31
              have c31b1 : (t228 != 1) = false := bne_eq_false_iff_eq.mpr c31
              clear c31
              (first | rw [c31b0] | (simp only [i64_w, i32_w]; rw [c31b0]) | skip)
              have H' := Aside0.mk H
              clear H
              try go_wp2
              have n0_ := Aside0.mk (Kd.R_drew HO_221000.out)
              have n1_ := Aside0.mk (Kd.R_drew HO_221001.out)
              have n2_ := Aside0.mk (blk_drew BK220.out)
              have n3_ := Aside0.mk (blk_drew BK221.out)
              have n4_ := Aside0.mk (blk_drew BK226.out)
              have n5_ := Aside0.mk (below_drew1 HB.out)
              clear HO_221000
              clear HO_221001
              clear BK220
              clear BK221
              clear BK226
              clear HB
              have HO_221000 := n0_
              have HO_221001 := n1_
              have BK220 := n2_
              have BK221 := n3_
              have BK226 := n4_
              have HB := n5_
              clear n0_ n1_ n2_ n3_ n4_ n5_
              refine start_ (n := 23) (S := fun w' => True) (ds := []) #[false, false, false, false, false, false, false, false, false, false, false, false, false, false, false, false, false, false, false, false, false, false, false] (by kernel_rfl) rfl rfl trivial (fun hHeld => ?_); refine with_tabW laws_FnSurface.tab9 laws_FnSurface.bits9 (fun HT_ HW_ => ?_)
              generalize w30.drew = w32 at HO_221000 HO_221001 BK220 BK221 BK226 HB hHeld ⊢
              refine pure_ (i := 0) (N := some 51) (v := ?_) (a' := ?_) #[true, false, false, false, false, false, false, false, false, false, false, false, false, false, false, false, false, false, false, false, false, false, false] rfl rfl (any_of HT_.out (by kernel_rfl)) (fun _ _ _ h => h) (Or.inl ⟨by rfl, ?_⟩) ?_ ?_
              rotate_left
              · intro w'
                go_simp
                with_reducible rfl
              rotate_left
              · simp only [Act.put, List.setIfInBounds_toArray, List.set_cons_zero, List.set_cons_succ, i64_w, i32_w]
                rfl
              refine pure_ (i := 1) (N := some 52) (v := ?_) (a' := ?_) #[true, true, false, false, false, false, false, false, false, false, false, false, false, false, false, false, false, false, false, false, false, false, false] rfl rfl (any_of HT_.out (by kernel_rfl)) (fun _ _ _ h => h) (Or.inl ⟨by rfl, ?_⟩) ?_ ?_
              rotate_left
              · intro w'
                go_simp
                with_reducible rfl
              rotate_left
              · simp only [Act.put, List.setIfInBounds_toArray, List.set_cons_zero, List.set_cons_succ, i64_w, i32_w]
                rfl
              refine pure_ (i := 2) (N := some 53) (v := ?_) (a' := ?_) #[true, true, true, false, false, false, false, false, false, false, false, false, false, false, false, false, false, false, false, false, false, false, false] rfl rfl (any_of HT_.out (by kernel_rfl)) (fun _ _ _ h => h) (Or.inl ⟨by rfl, ?_⟩) ?_ ?_
              rotate_left
              · intro w'
                go_simp
                with_reducible rfl
              rotate_left
              · simp only [Act.put, List.setIfInBounds_toArray, List.set_cons_zero, List.set_cons_succ, i64_w, i32_w]
                rfl
              refine pure_ (i := 3) (N := some 54) (v := undef) (a' := ?_) #[true, true, true, true, false, false, false, false, false, false, false, false, false, false, false, false, false, false, false, false, false, false, false] rfl rfl (any_of HT_.out (by kernel_rfl)) (fun _ _ _ h => h) (Or.inr ⟨by rfl, rfl⟩) ?_ ?_
              rotate_left
              · simp only [Act.put, List.setIfInBounds_toArray, List.set_cons_zero, List.set_cons_succ, i64_w, i32_w]
                rfl
              refine pure_ (i := 4) (N := some 55) (v := undef) (a' := ?_) #[true, true, true, true, true, false, false, false, false, false, false, false, false, false, false, false, false, false, false, false, false, false, false] rfl rfl (any_of HT_.out (by kernel_rfl)) (fun _ _ _ h => h) (Or.inr ⟨by rfl, rfl⟩) ?_ ?_
              rotate_left
              · simp only [Act.put, List.setIfInBounds_toArray, List.set_cons_zero, List.set_cons_succ, i64_w, i32_w]
                rfl
              refine pure_ (i := 5) (N := some 56) (v := undef) (a' := ?_) #[true, true, true, true, true, true, false, false, false, false, false, false, false, false, false, false, false, false, false, false, false, false, false] rfl rfl (any_of HT_.out (by kernel_rfl)) (fun _ _ _ h => h) (Or.inr ⟨by rfl, rfl⟩) ?_ ?_
              rotate_left
              · simp only [Act.put, List.setIfInBounds_toArray, List.set_cons_zero, List.set_cons_succ, i64_w, i32_w]
                rfl
              refine pure_ (i := 6) (N := some 57) (v := undef) (a' := ?_) #[true, true, true, true, true, true, true, false, false, false, false, false, false, false, false, false, false, false, false, false, false, false, false] rfl rfl (any_of HT_.out (by kernel_rfl)) (fun _ _ _ h => h) (Or.inr ⟨by rfl, rfl⟩) ?_ ?_
              rotate_left
              · simp only [Act.put, List.setIfInBounds_toArray, List.set_cons_zero, List.set_cons_succ, i64_w, i32_w]
                rfl
              refine pure_ (i := 7) (N := some 58) (v := ?_) (a' := ?_) #[true, true, true, true, true, true, true, true, false, false, false, false, false, false, false, false, false, false, false, false, false, false, false] rfl rfl (any_of HT_.out (by kernel_rfl)) (fun _ _ _ h => h) (Or.inl ⟨by rfl, ?_⟩) ?_ ?_
              rotate_left
              · intro w'
                go_simp
                with_reducible rfl
              rotate_left
              · simp only [Act.put, List.setIfInBounds_toArray, List.set_cons_zero, List.set_cons_succ, i64_w, i32_w]
                rfl
              refine pure_ (i := 8) (N := some 59) (v := ?_) (a' := ?_) #[true, true, true, true, true, true, true, true, true, false, false, false, false, false, false, false, false, false, false, false, false, false, false] rfl rfl (any_of HT_.out (by kernel_rfl)) (fun _ _ _ h => h) (Or.inl ⟨by rfl, ?_⟩) ?_ ?_
              rotate_left
              · intro w'
                go_simp
                with_reducible rfl
              rotate_left
              · simp only [Act.put, List.setIfInBounds_toArray, List.set_cons_zero, List.set_cons_succ, i64_w, i32_w]
                rfl
              refine pure_ (i := 9) (N := some 60) (v := undef) (a' := ?_) #[true, true, true, true, true, true, true, true, true, true, false, false, false, false, false, false, false, false, false, false, false, false, false] rfl rfl (any_of HT_.out (by kernel_rfl)) (fun _ _ _ h => h) (Or.inr ⟨by rfl, rfl⟩) ?_ ?_
              rotate_left
              · simp only [Act.put, List.setIfInBounds_toArray, List.set_cons_zero, List.set_cons_succ, i64_w, i32_w]
                rfl
              refine pure_ (i := 10) (N := some 61) (v := undef) (a' := ?_) #[true, true, true, true, true, true, true, true, true, true, true, false, false, false, false, false, false, false, false, false, false, false, false] rfl rfl (any_of HT_.out (by kernel_rfl)) (fun _ _ _ h => h) (Or.inr ⟨by rfl, rfl⟩) ?_ ?_
              rotate_left
              · simp only [Act.put, List.setIfInBounds_toArray, List.set_cons_zero, List.set_cons_succ, i64_w, i32_w]
                rfl
              refine pure_ (i := 11) (N := some 62) (v := undef) (a' := ?_) #[true, true, true, true, true, true, true, true, true, true, true, true, false, false, false, false, false, false, false, false, false, false, false] rfl rfl (any_of HT_.out (by kernel_rfl)) (fun _ _ _ h => h) (Or.inr ⟨by rfl, rfl⟩) ?_ ?_
              rotate_left
              · simp only [Act.put, List.setIfInBounds_toArray, List.set_cons_zero, List.set_cons_succ, i64_w, i32_w]
                rfl
              refine pure_ (i := 12) (N := some 63) (v := undef) (a' := ?_) #[true, true, true, true, true, true, true, true, true, true, true, true, true, false, false, false, false, false, false, false, false, false, false] rfl rfl (any_of HT_.out (by kernel_rfl)) (fun _ _ _ h => h) (Or.inr ⟨by rfl, rfl⟩) ?_ ?_
              rotate_left
              · simp only [Act.put, List.setIfInBounds_toArray, List.set_cons_zero, List.set_cons_succ, i64_w, i32_w]
                rfl
              refine pure_ (i := 13) (N := some 64) (v := ?_) (a' := ?_) #[true, true, true, true, true, true, true, true, true, true, true, true, true, true, false, false, false, false, false, false, false, false, false] rfl rfl (any_of HT_.out (by kernel_rfl)) (fun _ _ _ h => h) (Or.inl ⟨by rfl, ?_⟩) ?_ ?_
              rotate_left
              · intro w'
                go_simp
                with_reducible rfl
              rotate_left
              · simp only [Act.put, List.setIfInBounds_toArray, List.set_cons_zero, List.set_cons_succ, i64_w, i32_w]
                rfl
              refine pure_ (i := 14) (N := some 65) (v := ?_) (a' := ?_) #[true, true, true, true, true, true, true, true, true, true, true, true, true, true, true, false, false, false, false, false, false, false, false] rfl rfl (any_of HT_.out (by kernel_rfl)) (fun _ _ _ h => h) (Or.inl ⟨by rfl, ?_⟩) ?_ ?_
              rotate_left
              · intro w'
                go_simp
                with_reducible rfl
              rotate_left
              · simp only [Act.put, List.setIfInBounds_toArray, List.set_cons_zero, List.set_cons_succ, i64_w, i32_w]
                rfl
              refine pure_ (i := 15) (N := some 66) (v := undef) (a' := ?_) #[true, true, true, true, true, true, true, true, true, true, true, true, true, true, true, true, false, false, false, false, false, false, false] rfl rfl (any_of HT_.out (by kernel_rfl)) (fun _ _ _ h => h) (Or.inr ⟨by rfl, rfl⟩) ?_ ?_
              rotate_left
              · simp only [Act.put, List.setIfInBounds_toArray, List.set_cons_zero, List.set_cons_succ, i64_w, i32_w]
                rfl
              refine pure_ (i := 16) (N := some 67) (v := undef) (a' := ?_) #[true, true, true, true, true, true, true, true, true, true, true, true, true, true, true, true, true, false, false, false, false, false, false] rfl rfl (any_of HT_.out (by kernel_rfl)) (fun _ _ _ h => h) (Or.inr ⟨by rfl, rfl⟩) ?_ ?_
              rotate_left
              · simp only [Act.put, List.setIfInBounds_toArray, List.set_cons_zero, List.set_cons_succ, i64_w, i32_w]
                rfl
              refine pure_ (i := 17) (N := some 68) (v := undef) (a' := ?_) #[true, true, true, true, true, true, true, true, true, true, true, true, true, true, true, true, true, true, false, false, false, false, false] rfl rfl (any_of HT_.out (by kernel_rfl)) (fun _ _ _ h => h) (Or.inr ⟨by rfl, rfl⟩) ?_ ?_
              rotate_left
              · simp only [Act.put, List.setIfInBounds_toArray, List.set_cons_zero, List.set_cons_succ, i64_w, i32_w]
                rfl
              refine pure_ (i := 18) (N := some 69) (v := undef) (a' := ?_) #[true, true, true, true, true, true, true, true, true, true, true, true, true, true, true, true, true, true, true, false, false, false, false] rfl rfl (any_of HT_.out (by kernel_rfl)) (fun _ _ _ h => h) (Or.inr ⟨by rfl, rfl⟩) ?_ ?_
              rotate_left
              · simp only [Act.put, List.setIfInBounds_toArray, List.set_cons_zero, List.set_cons_succ, i64_w, i32_w]
                rfl
              refine pure_ (i := 19) (N := some 70) (v := undef) (a' := ?_) #[true, true, true, true, true, true, true, true, true, true, true, true, true, true, true, true, true, true, true, true, false, false, false] rfl rfl (any_of HT_.out (by kernel_rfl)) (fun _ _ _ h => h) (Or.inr ⟨by rfl, rfl⟩) ?_ ?_
              rotate_left
              · simp only [Act.put, List.setIfInBounds_toArray, List.set_cons_zero, List.set_cons_succ, i64_w, i32_w]
                rfl
              refine pure_ (i := 20) (N := some 71) (v := undef) (a' := ?_) #[true, true, true, true, true, true, true, true, true, true, true, true, true, true, true, true, true, true, true, true, true, false, false] rfl rfl (any_of HT_.out (by kernel_rfl)) (fun _ _ _ h => h) (Or.inr ⟨by rfl, rfl⟩) ?_ ?_
              rotate_left
              · simp only [Act.put, List.setIfInBounds_toArray, List.set_cons_zero, List.set_cons_succ, i64_w, i32_w]
                rfl
              refine pure_ (i := 21) (N := some 72) (v := undef) (a' := ?_) #[true, true, true, true, true, true, true, true, true, true, true, true, true, true, true, true, true, true, true, true, true, true, false] rfl rfl (any_of HT_.out (by kernel_rfl)) (fun _ _ _ h => h) (Or.inr ⟨by rfl, rfl⟩) ?_ ?_
              rotate_left
              · simp only [Act.put, List.setIfInBounds_toArray, List.set_cons_zero, List.set_cons_succ, i64_w, i32_w]
                rfl
              refine pure_ (i := 22) (N := some 73) (v := ?_) (a' := ?_) #[true, true, true, true, true, true, true, true, true, true, true, true, true, true, true, true, true, true, true, true, true, true, true] rfl rfl (any_of HT_.out (by kernel_rfl)) (fun _ _ _ h => h) (Or.inl ⟨by rfl, ?_⟩) ?_ ?_
              rotate_left
              · intro w'
                go_simp
                with_reducible rfl
              rotate_left
              · simp only [Act.put, List.setIfInBounds_toArray, List.set_cons_zero, List.set_cons_succ, i64_w, i32_w]
                rfl
              refine done_ (done_of HT_.out (by kernel_rfl)) ?_
              try go_wp2
              go_meet
              case rel => exact ⟨_, (true), (by first | rfl | (simp; done) | (simp [*]; done)), H', ⟨by have := HK1.out; first | omega | exact Nat.le_refl _⟩, ⟨by (with_reducible repeat (first | apply Kd.R_alloc | apply Kd.R_drewN | apply Kd.R_drew)); exact HO_221000.out⟩, ⟨by (with_reducible repeat (first | apply Kd.R_alloc | apply Kd.R_drewN | apply Kd.R_drew)); exact HO_221001.out⟩, ⟨by (with_reducible repeat (first | refine blk_drewN ?_ _ | refine blk_drew ?_ | refine blk_alloc ?_ _)); exact BK220.out⟩, ⟨by (with_reducible repeat (first | refine blk_drewN ?_ _ | refine blk_drew ?_ | refine blk_alloc ?_ _)); exact BK221.out⟩, ⟨by (with_reducible repeat (first | refine blk_drewN ?_ _ | refine blk_drew ?_ | refine blk_alloc ?_ _)); exact BK226.out⟩, ⟨by repeat (first | (with_reducible first | exact HB.out | apply below_alloc | apply pw_below_drewN | apply below_drew1 | refine below_set ?_ GE220.out | refine below_set ?_ GE221.out | refine below_set ?_ GE226.out) | exact HB.out)⟩⟩
            · rw [if_neg c31] at H
              have c31b0 : (t228 == 1) = false := beq_eq_false_iff_ne.mpr c31
              have c31b1 : (t228 != 1) = true := bne_iff_ne.mpr c31
              (first | rw [c31b0] | (simp only [i64_w, i32_w]; rw [c31b0]) | skip)
              by_cases c33 : t227 < t216
              · rw [if_pos c33] at H
                have c33b0 : decide (t227 < t216) = true := decide_eq_true c33
                clear c33
                have H' := Aside0.mk H
                clear H
                try go_wp2
                have n0_ := Aside0.mk (Kd.R_drew HO_221000.out)
                have n1_ := Aside0.mk (Kd.R_drew HO_221001.out)
                have n2_ := Aside0.mk (blk_drew BK220.out)
                have n3_ := Aside0.mk (blk_drew BK221.out)
                have n4_ := Aside0.mk (blk_drew BK226.out)
                have n5_ := Aside0.mk (below_drew1 HB.out)
                clear HO_221000
                clear HO_221001
                clear BK220
                clear BK221
                clear BK226
                clear HB
                have HO_221000 := n0_
                have HO_221001 := n1_
                have BK220 := n2_
                have BK221 := n3_
                have BK226 := n4_
                have HB := n5_
                clear n0_ n1_ n2_ n3_ n4_ n5_
                refine start_ (n := 23) (S := fun w' => w'.cell? ⟨gb221, 0, none⟩ = some (.int .i64 t216) ∧ w'.cell? ⟨gb221, 1, none⟩ = some (.int .i64 t217) ∧ w'.cell? ⟨gb221, 2, none⟩ = some (.int .i64 t218)) (ds := []) #[false, false, false, false, false, false, false, false, false, false, false, false, false, false, false, false, false, false, false, false, false, false, false] (by kernel_rfl) rfl rfl ⟨(blk_cell BK221.out 0).trans rfl, (blk_cell BK221.out 1).trans rfl, (blk_cell BK221.out 2).trans rfl⟩ (fun hHeld => ?_); refine with_tabW laws_FnSurface.tab9 laws_FnSurface.bits9 (fun HT_ HW_ => ?_)
                generalize w30.drew = w34 at HO_221000 HO_221001 BK220 BK221 BK226 HB hHeld ⊢
                refine pure_ (i := 0) (N := some 51) (v := ?_) (a' := ?_) #[true, false, false, false, false, false, false, false, false, false, false, false, false, false, false, false, false, false, false, false, false, false, false] rfl rfl (any_of HT_.out (by kernel_rfl)) (fun _ _ _ h => h) (Or.inl ⟨by rfl, ?_⟩) ?_ ?_
                rotate_left
                · intro w'
                  go_simp
                  with_reducible rfl
                rotate_left
                · simp only [Act.put, List.setIfInBounds_toArray, List.set_cons_zero, List.set_cons_succ, i64_w, i32_w]
                  rfl
                refine pure_ (i := 1) (N := some 52) (v := ?_) (a' := ?_) #[true, true, false, false, false, false, false, false, false, false, false, false, false, false, false, false, false, false, false, false, false, false, false] rfl rfl (any_of HT_.out (by kernel_rfl)) (fun _ _ _ h => h) (Or.inl ⟨by rfl, ?_⟩) ?_ ?_
                rotate_left
                · intro w'
                  go_simp
                  with_reducible rfl
                rotate_left
                · simp only [Act.put, List.setIfInBounds_toArray, List.set_cons_zero, List.set_cons_succ, i64_w, i32_w]
                  rfl
                refine pure_ (i := 2) (N := some 53) (v := ?_) (a' := ?_) #[true, true, true, false, false, false, false, false, false, false, false, false, false, false, false, false, false, false, false, false, false, false, false] rfl rfl (any_of HT_.out (by kernel_rfl)) (fun _ _ _ h => h) (Or.inl ⟨by rfl, ?_⟩) ?_ ?_
                rotate_left
                · intro w'
                  go_simp
                  with_reducible rfl
                rotate_left
                · simp only [Act.put, List.setIfInBounds_toArray, List.set_cons_zero, List.set_cons_succ, i64_w, i32_w]
                  rfl
                refine pure_ (i := 3) (N := some 54) (v := ?_) (a' := ?_) #[true, true, true, true, false, false, false, false, false, false, false, false, false, false, false, false, false, false, false, false, false, false, false] rfl rfl (any_of HT_.out (by kernel_rfl)) (fun _ _ _ h => h) (Or.inl ⟨by rfl, ?_⟩) ?_ ?_
                rotate_left
                · intro w'
                  go_simp
                  with_reducible rfl
                rotate_left
                · simp only [Act.put, List.setIfInBounds_toArray, List.set_cons_zero, List.set_cons_succ, i64_w, i32_w]
                  rfl
                refine pure_ (i := 4) (N := some 55) (v := ?_) (a' := ?_) #[true, true, true, true, true, false, false, false, false, false, false, false, false, false, false, false, false, false, false, false, false, false, false] rfl rfl (any_of HT_.out (by kernel_rfl)) (fun _ _ _ h => h) (Or.inl ⟨by rfl, ?_⟩) ?_ ?_
                rotate_left
                · intro w'
                  go_simp
                  with_reducible rfl
                rotate_left
                · simp only [Act.put, List.setIfInBounds_toArray, List.set_cons_zero, List.set_cons_succ, i64_w, i32_w]
                  rfl
                refine take_ (i := 5) (N := some 56) (v := ?_) (a' := ?_) #[true, true, true, true, true, true, false, false, false, false, false, false, false, false, false, false, false, false, false, false, false, false, false] rfl rfl (take_ofW HT_.out HW_.out (by kernel_rfl)) (fun _ _ _ h => h) (Or.inl ⟨by rfl, ?_⟩) hHeld ?_ ?_
                rotate_left
                · rintro w' ⟨s0, s1, s2⟩
                  go_simp
                  with_reducible rfl
                rotate_left
                · simp only [Act.put, List.setIfInBounds_toArray, List.set_cons_zero, List.set_cons_succ, i64_w, i32_w]
                  rfl
                refine pure_ (i := 6) (N := some 57) (v := ?_) (a' := ?_) #[true, true, true, true, true, true, true, false, false, false, false, false, false, false, false, false, false, false, false, false, false, false, false] rfl rfl (any_of HT_.out (by kernel_rfl)) (fun _ _ _ h => h) (Or.inl ⟨by rfl, ?_⟩) ?_ ?_
                rotate_left
                · intro w'
                  go_simp
                  with_reducible rfl
                rotate_left
                · simp only [Act.put, List.setIfInBounds_toArray, List.set_cons_zero, List.set_cons_succ, i64_w, i32_w]
                  rfl
                refine pure_ (i := 7) (N := some 58) (v := ?_) (a' := ?_) #[true, true, true, true, true, true, true, true, false, false, false, false, false, false, false, false, false, false, false, false, false, false, false] rfl rfl (any_of HT_.out (by kernel_rfl)) (fun _ _ _ h => h) (Or.inl ⟨by rfl, ?_⟩) ?_ ?_
                rotate_left
                · intro w'
                  go_simp
                  with_reducible rfl
                rotate_left
                · simp only [Act.put, List.setIfInBounds_toArray, List.set_cons_zero, List.set_cons_succ, i64_w, i32_w]
                  rfl
                refine pure_ (i := 8) (N := some 59) (v := ?_) (a' := ?_) #[true, true, true, true, true, true, true, true, true, false, false, false, false, false, false, false, false, false, false, false, false, false, false] rfl rfl (any_of HT_.out (by kernel_rfl)) (fun _ _ _ h => h) (Or.inl ⟨by rfl, ?_⟩) ?_ ?_
                rotate_left
                · intro w'
                  go_simp
                  with_reducible rfl
                rotate_left
                · simp only [Act.put, List.setIfInBounds_toArray, List.set_cons_zero, List.set_cons_succ, i64_w, i32_w]
                  rfl
                refine pure_ (i := 9) (N := some 60) (v := undef) (a' := ?_) #[true, true, true, true, true, true, true, true, true, true, false, false, false, false, false, false, false, false, false, false, false, false, false] rfl rfl (any_of HT_.out (by kernel_rfl)) (fun _ _ _ h => h) (Or.inr ⟨by rfl, rfl⟩) ?_ ?_
                rotate_left
                · simp only [Act.put, List.setIfInBounds_toArray, List.set_cons_zero, List.set_cons_succ, i64_w, i32_w]
                  rfl
                refine pure_ (i := 10) (N := some 61) (v := undef) (a' := ?_) #[true, true, true, true, true, true, true, true, true, true, true, false, false, false, false, false, false, false, false, false, false, false, false] rfl rfl (any_of HT_.out (by kernel_rfl)) (fun _ _ _ h => h) (Or.inr ⟨by rfl, rfl⟩) ?_ ?_
                rotate_left
                · simp only [Act.put, List.setIfInBounds_toArray, List.set_cons_zero, List.set_cons_succ, i64_w, i32_w]
                  rfl
                refine pure_ (i := 11) (N := some 62) (v := undef) (a' := ?_) #[true, true, true, true, true, true, true, true, true, true, true, true, false, false, false, false, false, false, false, false, false, false, false] rfl rfl (any_of HT_.out (by kernel_rfl)) (fun _ _ _ h => h) (Or.inr ⟨by rfl, rfl⟩) ?_ ?_
                rotate_left
                · simp only [Act.put, List.setIfInBounds_toArray, List.set_cons_zero, List.set_cons_succ, i64_w, i32_w]
                  rfl
                refine pure_ (i := 12) (N := some 63) (v := undef) (a' := ?_) #[true, true, true, true, true, true, true, true, true, true, true, true, true, false, false, false, false, false, false, false, false, false, false] rfl rfl (any_of HT_.out (by kernel_rfl)) (fun _ _ _ h => h) (Or.inr ⟨by rfl, rfl⟩) ?_ ?_
                rotate_left
                · simp only [Act.put, List.setIfInBounds_toArray, List.set_cons_zero, List.set_cons_succ, i64_w, i32_w]
                  rfl
                refine pure_ (i := 13) (N := some 64) (v := ?_) (a' := ?_) #[true, true, true, true, true, true, true, true, true, true, true, true, true, true, false, false, false, false, false, false, false, false, false] rfl rfl (any_of HT_.out (by kernel_rfl)) (fun _ _ _ h => h) (Or.inl ⟨by rfl, ?_⟩) ?_ ?_
                rotate_left
                · intro w'
                  go_simp
                  with_reducible rfl
                rotate_left
                · simp only [Act.put, List.setIfInBounds_toArray, List.set_cons_zero, List.set_cons_succ, i64_w, i32_w]
                  rfl
                refine pure_ (i := 14) (N := some 65) (v := ?_) (a' := ?_) #[true, true, true, true, true, true, true, true, true, true, true, true, true, true, true, false, false, false, false, false, false, false, false] rfl rfl (any_of HT_.out (by kernel_rfl)) (fun _ _ _ h => h) (Or.inl ⟨by rfl, ?_⟩) ?_ ?_
                rotate_left
                · intro w'
                  go_simp
                  with_reducible rfl
                rotate_left
                · simp only [Act.put, List.setIfInBounds_toArray, List.set_cons_zero, List.set_cons_succ, i64_w, i32_w]
                  rfl
                refine pure_ (i := 15) (N := some 66) (v := undef) (a' := ?_) #[true, true, true, true, true, true, true, true, true, true, true, true, true, true, true, true, false, false, false, false, false, false, false] rfl rfl (any_of HT_.out (by kernel_rfl)) (fun _ _ _ h => h) (Or.inr ⟨by rfl, rfl⟩) ?_ ?_
                rotate_left
                · simp only [Act.put, List.setIfInBounds_toArray, List.set_cons_zero, List.set_cons_succ, i64_w, i32_w]
                  rfl
                refine pure_ (i := 16) (N := some 67) (v := undef) (a' := ?_) #[true, true, true, true, true, true, true, true, true, true, true, true, true, true, true, true, true, false, false, false, false, false, false] rfl rfl (any_of HT_.out (by kernel_rfl)) (fun _ _ _ h => h) (Or.inr ⟨by rfl, rfl⟩) ?_ ?_
                rotate_left
                · simp only [Act.put, List.setIfInBounds_toArray, List.set_cons_zero, List.set_cons_succ, i64_w, i32_w]
                  rfl
                refine pure_ (i := 17) (N := some 68) (v := undef) (a' := ?_) #[true, true, true, true, true, true, true, true, true, true, true, true, true, true, true, true, true, true, false, false, false, false, false] rfl rfl (any_of HT_.out (by kernel_rfl)) (fun _ _ _ h => h) (Or.inr ⟨by rfl, rfl⟩) ?_ ?_
                rotate_left
                · simp only [Act.put, List.setIfInBounds_toArray, List.set_cons_zero, List.set_cons_succ, i64_w, i32_w]
                  rfl
                refine pure_ (i := 18) (N := some 69) (v := undef) (a' := ?_) #[true, true, true, true, true, true, true, true, true, true, true, true, true, true, true, true, true, true, true, false, false, false, false] rfl rfl (any_of HT_.out (by kernel_rfl)) (fun _ _ _ h => h) (Or.inr ⟨by rfl, rfl⟩) ?_ ?_
                rotate_left
                · simp only [Act.put, List.setIfInBounds_toArray, List.set_cons_zero, List.set_cons_succ, i64_w, i32_w]
                  rfl
                refine pure_ (i := 19) (N := some 70) (v := undef) (a' := ?_) #[true, true, true, true, true, true, true, true, true, true, true, true, true, true, true, true, true, true, true, true, false, false, false] rfl rfl (any_of HT_.out (by kernel_rfl)) (fun _ _ _ h => h) (Or.inr ⟨by rfl, rfl⟩) ?_ ?_
                rotate_left
                · simp only [Act.put, List.setIfInBounds_toArray, List.set_cons_zero, List.set_cons_succ, i64_w, i32_w]
                  rfl
                refine pure_ (i := 20) (N := some 71) (v := undef) (a' := ?_) #[true, true, true, true, true, true, true, true, true, true, true, true, true, true, true, true, true, true, true, true, true, false, false] rfl rfl (any_of HT_.out (by kernel_rfl)) (fun _ _ _ h => h) (Or.inr ⟨by rfl, rfl⟩) ?_ ?_
                rotate_left
                · simp only [Act.put, List.setIfInBounds_toArray, List.set_cons_zero, List.set_cons_succ, i64_w, i32_w]
                  rfl
                refine pure_ (i := 21) (N := some 72) (v := undef) (a' := ?_) #[true, true, true, true, true, true, true, true, true, true, true, true, true, true, true, true, true, true, true, true, true, true, false] rfl rfl (any_of HT_.out (by kernel_rfl)) (fun _ _ _ h => h) (Or.inr ⟨by rfl, rfl⟩) ?_ ?_
                rotate_left
                · simp only [Act.put, List.setIfInBounds_toArray, List.set_cons_zero, List.set_cons_succ, i64_w, i32_w]
                  rfl
                refine pure_ (i := 22) (N := some 73) (v := ?_) (a' := ?_) #[true, true, true, true, true, true, true, true, true, true, true, true, true, true, true, true, true, true, true, true, true, true, true] rfl rfl (any_of HT_.out (by kernel_rfl)) (fun _ _ _ h => h) (Or.inl ⟨by rfl, ?_⟩) ?_ ?_
                rotate_left
                · intro w'
                  go_simp
                  with_reducible rfl
                rotate_left
                · simp only [Act.put, List.setIfInBounds_toArray, List.set_cons_zero, List.set_cons_succ, i64_w, i32_w]
                  rfl
                refine done_ (done_of HT_.out (by kernel_rfl)) ?_
                try go_wp2
                go_meet
                case rel => exact ⟨_, (true), (by first | rfl | (simp; done) | (simp [*]; done)), H', ⟨by have := HK1.out; first | omega | exact Nat.le_refl _⟩, ⟨by (with_reducible repeat (first | apply Kd.R_alloc | apply Kd.R_drewN | apply Kd.R_drew)); exact HO_221000.out⟩, ⟨by (with_reducible repeat (first | apply Kd.R_alloc | apply Kd.R_drewN | apply Kd.R_drew)); exact HO_221001.out⟩, ⟨by (with_reducible repeat (first | refine blk_drewN ?_ _ | refine blk_drew ?_ | refine blk_alloc ?_ _)); exact BK220.out⟩, ⟨by (with_reducible repeat (first | refine blk_drewN ?_ _ | refine blk_drew ?_ | refine blk_alloc ?_ _)); exact BK221.out⟩, ⟨by (with_reducible repeat (first | refine blk_drewN ?_ _ | refine blk_drew ?_ | refine blk_alloc ?_ _)); exact BK226.out⟩, ⟨by repeat (first | (with_reducible first | exact HB.out | apply below_alloc | apply pw_below_drewN | apply below_drew1 | refine below_set ?_ GE220.out | refine below_set ?_ GE221.out | refine below_set ?_ GE226.out) | exact HB.out)⟩⟩
              · rw [if_neg c33] at H
                have c33b0 : decide (t227 < t216) = false := decide_eq_false c33
                clear c33
                by_cases c35 : t227 > t217
                · rw [if_pos c35] at H
                  have c35b0 : decide (t217 < t227) = true := decide_eq_true c35
                  clear c35
                  have H' := Aside0.mk H
                  clear H
                  try go_wp2
                  have n0_ := Aside0.mk (Kd.R_drew HO_221000.out)
                  have n1_ := Aside0.mk (Kd.R_drew HO_221001.out)
                  have n2_ := Aside0.mk (blk_drew BK220.out)
                  have n3_ := Aside0.mk (blk_drew BK221.out)
                  have n4_ := Aside0.mk (blk_drew BK226.out)
                  have n5_ := Aside0.mk (below_drew1 HB.out)
                  clear HO_221000
                  clear HO_221001
                  clear BK220
                  clear BK221
                  clear BK226
                  clear HB
                  have HO_221000 := n0_
                  have HO_221001 := n1_
                  have BK220 := n2_
                  have BK221 := n3_
                  have BK226 := n4_
                  have HB := n5_
                  clear n0_ n1_ n2_ n3_ n4_ n5_
                  refine start_ (n := 23) (S := fun w' => w'.cell? ⟨gb221, 0, none⟩ = some (.int .i64 t216) ∧ w'.cell? ⟨gb221, 1, none⟩ = some (.int .i64 t217) ∧ w'.cell? ⟨gb221, 2, none⟩ = some (.int .i64 t218)) (ds := []) #[false, false, false, false, false, false, false, false, false, false, false, false, false, false, false, false, false, false, false, false, false, false, false] (by kernel_rfl) rfl rfl ⟨(blk_cell BK221.out 0).trans rfl, (blk_cell BK221.out 1).trans rfl, (blk_cell BK221.out 2).trans rfl⟩ (fun hHeld => ?_); refine with_tabW laws_FnSurface.tab9 laws_FnSurface.bits9 (fun HT_ HW_ => ?_)
                  generalize w30.drew = w36 at HO_221000 HO_221001 BK220 BK221 BK226 HB hHeld ⊢
                  refine pure_ (i := 0) (N := some 51) (v := ?_) (a' := ?_) #[true, false, false, false, false, false, false, false, false, false, false, false, false, false, false, false, false, false, false, false, false, false, false] rfl rfl (any_of HT_.out (by kernel_rfl)) (fun _ _ _ h => h) (Or.inl ⟨by rfl, ?_⟩) ?_ ?_
                  rotate_left
                  · intro w'
                    go_simp
                    with_reducible rfl
                  rotate_left
                  · simp only [Act.put, List.setIfInBounds_toArray, List.set_cons_zero, List.set_cons_succ, i64_w, i32_w]
                    rfl
                  refine pure_ (i := 1) (N := some 52) (v := ?_) (a' := ?_) #[true, true, false, false, false, false, false, false, false, false, false, false, false, false, false, false, false, false, false, false, false, false, false] rfl rfl (any_of HT_.out (by kernel_rfl)) (fun _ _ _ h => h) (Or.inl ⟨by rfl, ?_⟩) ?_ ?_
                  rotate_left
                  · intro w'
                    go_simp
                    with_reducible rfl
                  rotate_left
                  · simp only [Act.put, List.setIfInBounds_toArray, List.set_cons_zero, List.set_cons_succ, i64_w, i32_w]
                    rfl
                  refine pure_ (i := 2) (N := some 53) (v := ?_) (a' := ?_) #[true, true, true, false, false, false, false, false, false, false, false, false, false, false, false, false, false, false, false, false, false, false, false] rfl rfl (any_of HT_.out (by kernel_rfl)) (fun _ _ _ h => h) (Or.inl ⟨by rfl, ?_⟩) ?_ ?_
                  rotate_left
                  · intro w'
                    go_simp
                    with_reducible rfl
                  rotate_left
                  · simp only [Act.put, List.setIfInBounds_toArray, List.set_cons_zero, List.set_cons_succ, i64_w, i32_w]
                    rfl
                  refine pure_ (i := 3) (N := some 54) (v := ?_) (a' := ?_) #[true, true, true, true, false, false, false, false, false, false, false, false, false, false, false, false, false, false, false, false, false, false, false] rfl rfl (any_of HT_.out (by kernel_rfl)) (fun _ _ _ h => h) (Or.inl ⟨by rfl, ?_⟩) ?_ ?_
                  rotate_left
                  · intro w'
                    go_simp
                    with_reducible rfl
                  rotate_left
                  · simp only [Act.put, List.setIfInBounds_toArray, List.set_cons_zero, List.set_cons_succ, i64_w, i32_w]
                    rfl
                  refine pure_ (i := 4) (N := some 55) (v := ?_) (a' := ?_) #[true, true, true, true, true, false, false, false, false, false, false, false, false, false, false, false, false, false, false, false, false, false, false] rfl rfl (any_of HT_.out (by kernel_rfl)) (fun _ _ _ h => h) (Or.inl ⟨by rfl, ?_⟩) ?_ ?_
                  rotate_left
                  · intro w'
                    go_simp
                    with_reducible rfl
                  rotate_left
                  · simp only [Act.put, List.setIfInBounds_toArray, List.set_cons_zero, List.set_cons_succ, i64_w, i32_w]
                    rfl
                  refine take_ (i := 5) (N := some 56) (v := ?_) (a' := ?_) #[true, true, true, true, true, true, false, false, false, false, false, false, false, false, false, false, false, false, false, false, false, false, false] rfl rfl (take_ofW HT_.out HW_.out (by kernel_rfl)) (fun _ _ _ h => h) (Or.inl ⟨by rfl, ?_⟩) hHeld ?_ ?_
                  rotate_left
                  · rintro w' ⟨s0, s1, s2⟩
                    go_simp
                    with_reducible rfl
                  rotate_left
                  · simp only [Act.put, List.setIfInBounds_toArray, List.set_cons_zero, List.set_cons_succ, i64_w, i32_w]
                    rfl
                  refine pure_ (i := 6) (N := some 57) (v := ?_) (a' := ?_) #[true, true, true, true, true, true, true, false, false, false, false, false, false, false, false, false, false, false, false, false, false, false, false] rfl rfl (any_of HT_.out (by kernel_rfl)) (fun _ _ _ h => h) (Or.inl ⟨by rfl, ?_⟩) ?_ ?_
                  rotate_left
                  · intro w'
                    go_simp
                    with_reducible rfl
                  rotate_left
                  · simp only [Act.put, List.setIfInBounds_toArray, List.set_cons_zero, List.set_cons_succ, i64_w, i32_w]
                    rfl
                  refine pure_ (i := 7) (N := some 58) (v := ?_) (a' := ?_) #[true, true, true, true, true, true, true, true, false, false, false, false, false, false, false, false, false, false, false, false, false, false, false] rfl rfl (any_of HT_.out (by kernel_rfl)) (fun _ _ _ h => h) (Or.inl ⟨by rfl, ?_⟩) ?_ ?_
                  rotate_left
                  · intro w'
                    go_simp
                    with_reducible rfl
                  rotate_left
                  · simp only [Act.put, List.setIfInBounds_toArray, List.set_cons_zero, List.set_cons_succ, i64_w, i32_w]
                    rfl
                  refine pure_ (i := 8) (N := some 59) (v := ?_) (a' := ?_) #[true, true, true, true, true, true, true, true, true, false, false, false, false, false, false, false, false, false, false, false, false, false, false] rfl rfl (any_of HT_.out (by kernel_rfl)) (fun _ _ _ h => h) (Or.inl ⟨by rfl, ?_⟩) ?_ ?_
                  rotate_left
                  · intro w'
                    go_simp
                    with_reducible rfl
                  rotate_left
                  · simp only [Act.put, List.setIfInBounds_toArray, List.set_cons_zero, List.set_cons_succ, i64_w, i32_w]
                    rfl
                  refine pure_ (i := 9) (N := some 60) (v := ?_) (a' := ?_) #[true, true, true, true, true, true, true, true, true, true, false, false, false, false, false, false, false, false, false, false, false, false, false] rfl rfl (any_of HT_.out (by kernel_rfl)) (fun _ _ _ h => h) (Or.inl ⟨by rfl, ?_⟩) ?_ ?_
                  rotate_left
                  · intro w'
                    go_simp
                    with_reducible rfl
                  rotate_left
                  · simp only [Act.put, List.setIfInBounds_toArray, List.set_cons_zero, List.set_cons_succ, i64_w, i32_w]
                    rfl
                  refine pure_ (i := 10) (N := some 61) (v := ?_) (a' := ?_) #[true, true, true, true, true, true, true, true, true, true, true, false, false, false, false, false, false, false, false, false, false, false, false] rfl rfl (any_of HT_.out (by kernel_rfl)) (fun _ _ _ h => h) (Or.inl ⟨by rfl, ?_⟩) ?_ ?_
                  rotate_left
                  · intro w'
                    go_simp
                    with_reducible rfl
                  rotate_left
                  · simp only [Act.put, List.setIfInBounds_toArray, List.set_cons_zero, List.set_cons_succ, i64_w, i32_w]
                    rfl
                  refine take_ (i := 11) (N := some 62) (v := ?_) (a' := ?_) #[true, true, true, true, true, true, true, true, true, true, true, true, false, false, false, false, false, false, false, false, false, false, false] rfl rfl (take_ofW HT_.out HW_.out (by kernel_rfl)) (fun _ _ _ h => h) (Or.inl ⟨by rfl, ?_⟩) hHeld ?_ ?_
                  rotate_left
                  · rintro w' ⟨s0, s1, s2⟩
                    go_simp
                    with_reducible rfl
                  rotate_left
                  · simp only [Act.put, List.setIfInBounds_toArray, List.set_cons_zero, List.set_cons_succ, i64_w, i32_w]
                    rfl
                  refine pure_ (i := 12) (N := some 63) (v := ?_) (a' := ?_) #[true, true, true, true, true, true, true, true, true, true, true, true, true, false, false, false, false, false, false, false, false, false, false] rfl rfl (any_of HT_.out (by kernel_rfl)) (fun _ _ _ h => h) (Or.inl ⟨by rfl, ?_⟩) ?_ ?_
                  rotate_left
                  · intro w'
                    go_simp
                    with_reducible rfl
                  rotate_left
                  · simp only [Act.put, List.setIfInBounds_toArray, List.set_cons_zero, List.set_cons_succ, i64_w, i32_w]
                    rfl
                  refine pure_ (i := 13) (N := some 64) (v := ?_) (a' := ?_) #[true, true, true, true, true, true, true, true, true, true, true, true, true, true, false, false, false, false, false, false, false, false, false] rfl rfl (any_of HT_.out (by kernel_rfl)) (fun _ _ _ h => h) (Or.inl ⟨by rfl, ?_⟩) ?_ ?_
                  rotate_left
                  · intro w'
                    go_simp
                    with_reducible rfl
                  rotate_left
                  · simp only [Act.put, List.setIfInBounds_toArray, List.set_cons_zero, List.set_cons_succ, i64_w, i32_w]
                    rfl
                  refine pure_ (i := 14) (N := some 65) (v := ?_) (a' := ?_) #[true, true, true, true, true, true, true, true, true, true, true, true, true, true, true, false, false, false, false, false, false, false, false] rfl rfl (any_of HT_.out (by kernel_rfl)) (fun _ _ _ h => h) (Or.inl ⟨by rfl, ?_⟩) ?_ ?_
                  rotate_left
                  · intro w'
                    go_simp
                    with_reducible rfl
                  rotate_left
                  · simp only [Act.put, List.setIfInBounds_toArray, List.set_cons_zero, List.set_cons_succ, i64_w, i32_w]
                    rfl
                  refine pure_ (i := 15) (N := some 66) (v := undef) (a' := ?_) #[true, true, true, true, true, true, true, true, true, true, true, true, true, true, true, true, false, false, false, false, false, false, false] rfl rfl (any_of HT_.out (by kernel_rfl)) (fun _ _ _ h => h) (Or.inr ⟨by rfl, rfl⟩) ?_ ?_
                  rotate_left
                  · simp only [Act.put, List.setIfInBounds_toArray, List.set_cons_zero, List.set_cons_succ, i64_w, i32_w]
                    rfl
                  refine pure_ (i := 16) (N := some 67) (v := undef) (a' := ?_) #[true, true, true, true, true, true, true, true, true, true, true, true, true, true, true, true, true, false, false, false, false, false, false] rfl rfl (any_of HT_.out (by kernel_rfl)) (fun _ _ _ h => h) (Or.inr ⟨by rfl, rfl⟩) ?_ ?_
                  rotate_left
                  · simp only [Act.put, List.setIfInBounds_toArray, List.set_cons_zero, List.set_cons_succ, i64_w, i32_w]
                    rfl
                  refine pure_ (i := 17) (N := some 68) (v := undef) (a' := ?_) #[true, true, true, true, true, true, true, true, true, true, true, true, true, true, true, true, true, true, false, false, false, false, false] rfl rfl (any_of HT_.out (by kernel_rfl)) (fun _ _ _ h => h) (Or.inr ⟨by rfl, rfl⟩) ?_ ?_
                  rotate_left
                  · simp only [Act.put, List.setIfInBounds_toArray, List.set_cons_zero, List.set_cons_succ, i64_w, i32_w]
                    rfl
                  refine pure_ (i := 18) (N := some 69) (v := undef) (a' := ?_) #[true, true, true, true, true, true, true, true, true, true, true, true, true, true, true, true, true, true, true, false, false, false, false] rfl rfl (any_of HT_.out (by kernel_rfl)) (fun _ _ _ h => h) (Or.inr ⟨by rfl, rfl⟩) ?_ ?_
                  rotate_left
                  · simp only [Act.put, List.setIfInBounds_toArray, List.set_cons_zero, List.set_cons_succ, i64_w, i32_w]
                    rfl
                  refine pure_ (i := 19) (N := some 70) (v := undef) (a' := ?_) #[true, true, true, true, true, true, true, true, true, true, true, true, true, true, true, true, true, true, true, true, false, false, false] rfl rfl (any_of HT_.out (by kernel_rfl)) (fun _ _ _ h => h) (Or.inr ⟨by rfl, rfl⟩) ?_ ?_
                  rotate_left
                  · simp only [Act.put, List.setIfInBounds_toArray, List.set_cons_zero, List.set_cons_succ, i64_w, i32_w]
                    rfl
                  refine pure_ (i := 20) (N := some 71) (v := undef) (a' := ?_) #[true, true, true, true, true, true, true, true, true, true, true, true, true, true, true, true, true, true, true, true, true, false, false] rfl rfl (any_of HT_.out (by kernel_rfl)) (fun _ _ _ h => h) (Or.inr ⟨by rfl, rfl⟩) ?_ ?_
                  rotate_left
                  · simp only [Act.put, List.setIfInBounds_toArray, List.set_cons_zero, List.set_cons_succ, i64_w, i32_w]
                    rfl
                  refine pure_ (i := 21) (N := some 72) (v := undef) (a' := ?_) #[true, true, true, true, true, true, true, true, true, true, true, true, true, true, true, true, true, true, true, true, true, true, false] rfl rfl (any_of HT_.out (by kernel_rfl)) (fun _ _ _ h => h) (Or.inr ⟨by rfl, rfl⟩) ?_ ?_
                  rotate_left
                  · simp only [Act.put, List.setIfInBounds_toArray, List.set_cons_zero, List.set_cons_succ, i64_w, i32_w]
                    rfl
                  refine pure_ (i := 22) (N := some 73) (v := ?_) (a' := ?_) #[true, true, true, true, true, true, true, true, true, true, true, true, true, true, true, true, true, true, true, true, true, true, true] rfl rfl (any_of HT_.out (by kernel_rfl)) (fun _ _ _ h => h) (Or.inl ⟨by rfl, ?_⟩) ?_ ?_
                  rotate_left
                  · intro w'
                    go_simp
                    with_reducible rfl
                  rotate_left
                  · simp only [Act.put, List.setIfInBounds_toArray, List.set_cons_zero, List.set_cons_succ, i64_w, i32_w]
                    rfl
                  refine done_ (done_of HT_.out (by kernel_rfl)) ?_
                  try go_wp2
                  go_meet
                  case rel => exact ⟨_, (true), (by first | rfl | (simp; done) | (simp [*]; done)), H', ⟨by have := HK1.out; first | omega | exact Nat.le_refl _⟩, ⟨by (with_reducible repeat (first | apply Kd.R_alloc | apply Kd.R_drewN | apply Kd.R_drew)); exact HO_221000.out⟩, ⟨by (with_reducible repeat (first | apply Kd.R_alloc | apply Kd.R_drewN | apply Kd.R_drew)); exact HO_221001.out⟩, ⟨by (with_reducible repeat (first | refine blk_drewN ?_ _ | refine blk_drew ?_ | refine blk_alloc ?_ _)); exact BK220.out⟩, ⟨by (with_reducible repeat (first | refine blk_drewN ?_ _ | refine blk_drew ?_ | refine blk_alloc ?_ _)); exact BK221.out⟩, ⟨by (with_reducible repeat (first | refine blk_drewN ?_ _ | refine blk_drew ?_ | refine blk_alloc ?_ _)); exact BK226.out⟩, ⟨by repeat (first | (with_reducible first | exact HB.out | apply below_alloc | apply pw_below_drewN | apply below_drew1 | refine below_set ?_ GE220.out | refine below_set ?_ GE221.out | refine below_set ?_ GE226.out) | exact HB.out)⟩⟩
                · rw [if_neg c35] at H
                  have c35b0 : decide (t217 < t227) = false := decide_eq_false c35
                  clear c35
                  replace H := Option.bind_eq_some_iff.mp H
                  obtain ⟨t229, A370, H⟩ := H
                  replace H : (laws_FnSurface.j1 k1 t219 x7_1 t227 t228 (decide (t229 > t218)) t210 t213 t216 t217 t218 x227000_1 (wrap64 ((wrap64 (t223 * 4)) - 500)) (wrap64 (t224 * 3)) (wrap64 ((wrap64 (t225 * 4)) - 400))) = some r := H
                  have A37 := Aside0.mk A370
                  clear A370
                  have H' := Aside0.mk H
                  clear H
                  try go_wp2
                  have n0_ := Aside0.mk (Kd.R_drew HO_221000.out)
                  have n1_ := Aside0.mk (Kd.R_drew HO_221001.out)
                  have n2_ := Aside0.mk (blk_drew BK220.out)
                  have n3_ := Aside0.mk (blk_drew BK221.out)
                  have n4_ := Aside0.mk (blk_drew BK226.out)
                  have n5_ := Aside0.mk (below_drew1 HB.out)
                  clear HO_221000
                  clear HO_221001
                  clear BK220
                  clear BK221
                  clear BK226
                  clear HB
                  have HO_221000 := n0_
                  have HO_221001 := n1_
                  have BK220 := n2_
                  have BK221 := n3_
                  have BK226 := n4_
                  have HB := n5_
                  clear n0_ n1_ n2_ n3_ n4_ n5_
                  refine start_ (n := 23) (S := fun w' => w'.cell? ⟨gb221, 0, none⟩ = some (.int .i64 t216) ∧ w'.cell? ⟨gb221, 1, none⟩ = some (.int .i64 t217) ∧ w'.cell? ⟨gb221, 2, none⟩ = some (.int .i64 t218)) (ds := []) #[false, false, false, false, false, false, false, false, false, false, false, false, false, false, false, false, false, false, false, false, false, false, false] (by kernel_rfl) rfl rfl ⟨(blk_cell BK221.out 0).trans rfl, (blk_cell BK221.out 1).trans rfl, (blk_cell BK221.out 2).trans rfl⟩ (fun hHeld => ?_); refine with_tabW laws_FnSurface.tab9 laws_FnSurface.bits9 (fun HT_ HW_ => ?_)
                  generalize w30.drew = w38 at HO_221000 HO_221001 BK220 BK221 BK226 HB hHeld ⊢
                  refine pure_ (i := 0) (N := some 51) (v := ?_) (a' := ?_) #[true, false, false, false, false, false, false, false, false, false, false, false, false, false, false, false, false, false, false, false, false, false, false] rfl rfl (any_of HT_.out (by kernel_rfl)) (fun _ _ _ h => h) (Or.inl ⟨by rfl, ?_⟩) ?_ ?_
                  rotate_left
                  · intro w'
                    go_simp
                    with_reducible rfl
                  rotate_left
                  · simp only [Act.put, List.setIfInBounds_toArray, List.set_cons_zero, List.set_cons_succ, i64_w, i32_w]
                    rfl
                  refine pure_ (i := 1) (N := some 52) (v := ?_) (a' := ?_) #[true, true, false, false, false, false, false, false, false, false, false, false, false, false, false, false, false, false, false, false, false, false, false] rfl rfl (any_of HT_.out (by kernel_rfl)) (fun _ _ _ h => h) (Or.inl ⟨by rfl, ?_⟩) ?_ ?_
                  rotate_left
                  · intro w'
                    go_simp
                    with_reducible rfl
                  rotate_left
                  · simp only [Act.put, List.setIfInBounds_toArray, List.set_cons_zero, List.set_cons_succ, i64_w, i32_w]
                    rfl
                  refine pure_ (i := 2) (N := some 53) (v := ?_) (a' := ?_) #[true, true, true, false, false, false, false, false, false, false, false, false, false, false, false, false, false, false, false, false, false, false, false] rfl rfl (any_of HT_.out (by kernel_rfl)) (fun _ _ _ h => h) (Or.inl ⟨by rfl, ?_⟩) ?_ ?_
                  rotate_left
                  · intro w'
                    go_simp
                    with_reducible rfl
                  rotate_left
                  · simp only [Act.put, List.setIfInBounds_toArray, List.set_cons_zero, List.set_cons_succ, i64_w, i32_w]
                    rfl
                  refine pure_ (i := 3) (N := some 54) (v := ?_) (a' := ?_) #[true, true, true, true, false, false, false, false, false, false, false, false, false, false, false, false, false, false, false, false, false, false, false] rfl rfl (any_of HT_.out (by kernel_rfl)) (fun _ _ _ h => h) (Or.inl ⟨by rfl, ?_⟩) ?_ ?_
                  rotate_left
                  · intro w'
                    go_simp
                    with_reducible rfl
                  rotate_left
                  · simp only [Act.put, List.setIfInBounds_toArray, List.set_cons_zero, List.set_cons_succ, i64_w, i32_w]
                    rfl
                  refine pure_ (i := 4) (N := some 55) (v := ?_) (a' := ?_) #[true, true, true, true, true, false, false, false, false, false, false, false, false, false, false, false, false, false, false, false, false, false, false] rfl rfl (any_of HT_.out (by kernel_rfl)) (fun _ _ _ h => h) (Or.inl ⟨by rfl, ?_⟩) ?_ ?_
                  rotate_left
                  · intro w'
                    go_simp
                    with_reducible rfl
                  rotate_left
                  · simp only [Act.put, List.setIfInBounds_toArray, List.set_cons_zero, List.set_cons_succ, i64_w, i32_w]
                    rfl
                  refine take_ (i := 5) (N := some 56) (v := ?_) (a' := ?_) #[true, true, true, true, true, true, false, false, false, false, false, false, false, false, false, false, false, false, false, false, false, false, false] rfl rfl (take_ofW HT_.out HW_.out (by kernel_rfl)) (fun _ _ _ h => h) (Or.inl ⟨by rfl, ?_⟩) hHeld ?_ ?_
                  rotate_left
                  · rintro w' ⟨s0, s1, s2⟩
                    go_simp
                    with_reducible rfl
                  rotate_left
                  · simp only [Act.put, List.setIfInBounds_toArray, List.set_cons_zero, List.set_cons_succ, i64_w, i32_w]
                    rfl
                  refine pure_ (i := 6) (N := some 57) (v := ?_) (a' := ?_) #[true, true, true, true, true, true, true, false, false, false, false, false, false, false, false, false, false, false, false, false, false, false, false] rfl rfl (any_of HT_.out (by kernel_rfl)) (fun _ _ _ h => h) (Or.inl ⟨by rfl, ?_⟩) ?_ ?_
                  rotate_left
                  · intro w'
                    go_simp
                    with_reducible rfl
                  rotate_left
                  · simp only [Act.put, List.setIfInBounds_toArray, List.set_cons_zero, List.set_cons_succ, i64_w, i32_w]
                    rfl
                  refine pure_ (i := 7) (N := some 58) (v := ?_) (a' := ?_) #[true, true, true, true, true, true, true, true, false, false, false, false, false, false, false, false, false, false, false, false, false, false, false] rfl rfl (any_of HT_.out (by kernel_rfl)) (fun _ _ _ h => h) (Or.inl ⟨by rfl, ?_⟩) ?_ ?_
                  rotate_left
                  · intro w'
                    go_simp
                    with_reducible rfl
                  rotate_left
                  · simp only [Act.put, List.setIfInBounds_toArray, List.set_cons_zero, List.set_cons_succ, i64_w, i32_w]
                    rfl
                  refine pure_ (i := 8) (N := some 59) (v := ?_) (a' := ?_) #[true, true, true, true, true, true, true, true, true, false, false, false, false, false, false, false, false, false, false, false, false, false, false] rfl rfl (any_of HT_.out (by kernel_rfl)) (fun _ _ _ h => h) (Or.inl ⟨by rfl, ?_⟩) ?_ ?_
                  rotate_left
                  · intro w'
                    go_simp
                    with_reducible rfl
                  rotate_left
                  · simp only [Act.put, List.setIfInBounds_toArray, List.set_cons_zero, List.set_cons_succ, i64_w, i32_w]
                    rfl
                  refine pure_ (i := 9) (N := some 60) (v := ?_) (a' := ?_) #[true, true, true, true, true, true, true, true, true, true, false, false, false, false, false, false, false, false, false, false, false, false, false] rfl rfl (any_of HT_.out (by kernel_rfl)) (fun _ _ _ h => h) (Or.inl ⟨by rfl, ?_⟩) ?_ ?_
                  rotate_left
                  · intro w'
                    go_simp
                    with_reducible rfl
                  rotate_left
                  · simp only [Act.put, List.setIfInBounds_toArray, List.set_cons_zero, List.set_cons_succ, i64_w, i32_w]
                    rfl
                  refine pure_ (i := 10) (N := some 61) (v := ?_) (a' := ?_) #[true, true, true, true, true, true, true, true, true, true, true, false, false, false, false, false, false, false, false, false, false, false, false] rfl rfl (any_of HT_.out (by kernel_rfl)) (fun _ _ _ h => h) (Or.inl ⟨by rfl, ?_⟩) ?_ ?_
                  rotate_left
                  · intro w'
                    go_simp
                    with_reducible rfl
                  rotate_left
                  · simp only [Act.put, List.setIfInBounds_toArray, List.set_cons_zero, List.set_cons_succ, i64_w, i32_w]
                    rfl
                  refine take_ (i := 11) (N := some 62) (v := ?_) (a' := ?_) #[true, true, true, true, true, true, true, true, true, true, true, true, false, false, false, false, false, false, false, false, false, false, false] rfl rfl (take_ofW HT_.out HW_.out (by kernel_rfl)) (fun _ _ _ h => h) (Or.inl ⟨by rfl, ?_⟩) hHeld ?_ ?_
                  rotate_left
                  · rintro w' ⟨s0, s1, s2⟩
                    go_simp
                    with_reducible rfl
                  rotate_left
                  · simp only [Act.put, List.setIfInBounds_toArray, List.set_cons_zero, List.set_cons_succ, i64_w, i32_w]
                    rfl
                  refine pure_ (i := 12) (N := some 63) (v := ?_) (a' := ?_) #[true, true, true, true, true, true, true, true, true, true, true, true, true, false, false, false, false, false, false, false, false, false, false] rfl rfl (any_of HT_.out (by kernel_rfl)) (fun _ _ _ h => h) (Or.inl ⟨by rfl, ?_⟩) ?_ ?_
                  rotate_left
                  · intro w'
                    go_simp
                    with_reducible rfl
                  rotate_left
                  · simp only [Act.put, List.setIfInBounds_toArray, List.set_cons_zero, List.set_cons_succ, i64_w, i32_w]
                    rfl
                  refine pure_ (i := 13) (N := some 64) (v := ?_) (a' := ?_) #[true, true, true, true, true, true, true, true, true, true, true, true, true, true, false, false, false, false, false, false, false, false, false] rfl rfl (any_of HT_.out (by kernel_rfl)) (fun _ _ _ h => h) (Or.inl ⟨by rfl, ?_⟩) ?_ ?_
                  rotate_left
                  · intro w'
                    go_simp
                    with_reducible rfl
                  rotate_left
                  · simp only [Act.put, List.setIfInBounds_toArray, List.set_cons_zero, List.set_cons_succ, i64_w, i32_w]
                    rfl
                  refine pure_ (i := 14) (N := some 65) (v := ?_) (a' := ?_) #[true, true, true, true, true, true, true, true, true, true, true, true, true, true, true, false, false, false, false, false, false, false, false] rfl rfl (any_of HT_.out (by kernel_rfl)) (fun _ _ _ h => h) (Or.inl ⟨by rfl, ?_⟩) ?_ ?_
                  rotate_left
                  · intro w'
                    go_simp
                    with_reducible rfl
                  rotate_left
                  · simp only [Act.put, List.setIfInBounds_toArray, List.set_cons_zero, List.set_cons_succ, i64_w, i32_w]
                    rfl
                  refine pure_ (i := 15) (N := some 66) (v := ?_) (a' := ?_) #[true, true, true, true, true, true, true, true, true, true, true, true, true, true, true, true, false, false, false, false, false, false, false] rfl rfl (any_of HT_.out (by kernel_rfl)) (fun _ _ _ h => h) (Or.inl ⟨by rfl, ?_⟩) ?_ ?_
                  rotate_left
                  · intro w'
                    go_simp
                    with_reducible rfl
                  rotate_left
                  · simp only [Act.put, List.setIfInBounds_toArray, List.set_cons_zero, List.set_cons_succ, i64_w, i32_w]
                    rfl
                  refine pure_ (i := 16) (N := some 67) (v := ?_) (a' := ?_) #[true, true, true, true, true, true, true, true, true, true, true, true, true, true, true, true, true, false, false, false, false, false, false] rfl rfl (any_of HT_.out (by kernel_rfl)) (fun _ _ _ h => h) (Or.inl ⟨by rfl, ?_⟩) ?_ ?_
                  rotate_left
                  · intro w'
                    go_simp
                    with_reducible rfl
                  rotate_left
                  · simp only [Act.put, List.setIfInBounds_toArray, List.set_cons_zero, List.set_cons_succ, i64_w, i32_w]
                    rfl
                  refine pure_ (i := 17) (N := some 68) (v := ?_) (a' := ?_) #[true, true, true, true, true, true, true, true, true, true, true, true, true, true, true, true, true, true, false, false, false, false, false] rfl rfl (any_of HT_.out (by kernel_rfl)) (fun _ _ _ h => h) (Or.inl ⟨by rfl, ?_⟩) ?_ ?_
                  rotate_left
                  · intro w'
                    go_simp
                    with_reducible rfl
                  rotate_left
                  · simp only [Act.put, List.setIfInBounds_toArray, List.set_cons_zero, List.set_cons_succ, i64_w, i32_w]
                    rfl
                  refine pure_ (i := 19) (N := some 70) (v := ?_) (a' := ?_) #[true, true, true, true, true, true, true, true, true, true, true, true, true, true, true, true, true, true, false, true, false, false, false] rfl rfl (any_of HT_.out (by kernel_rfl)) (fun _ _ _ h => h) (Or.inl ⟨by rfl, ?_⟩) ?_ ?_
                  rotate_left
                  · intro w'
                    go_simp
                    with_reducible rfl
                  rotate_left
                  · simp only [Act.put, List.setIfInBounds_toArray, List.set_cons_zero, List.set_cons_succ, i64_w, i32_w]
                    rfl
                  refine take_ (i := 20) (N := some 71) (v := ?_) (a' := ?_) #[true, true, true, true, true, true, true, true, true, true, true, true, true, true, true, true, true, true, false, true, true, false, false] rfl rfl (take_ofW HT_.out HW_.out (by kernel_rfl)) (fun _ _ _ h => h) (Or.inl ⟨by rfl, ?_⟩) hHeld ?_ ?_
                  rotate_left
                  · rintro w' ⟨s0, s1, s2⟩
                    go_simp
                    with_reducible rfl
                  rotate_left
                  · simp only [Act.put, List.setIfInBounds_toArray, List.set_cons_zero, List.set_cons_succ, i64_w, i32_w]
                    rfl
                  refine one_ (i := 18) (N := some 69) #[true, true, true, true, true, true, true, true, true, true, true, true, true, true, true, true, true, true, true, true, true, false, false] rfl rfl (one_of HT_.out (by kernel_rfl)) (by decide) (fun K hK => ?_)
                  refine goes_ Try.func25 (by kernel_rfl) rfl #[.int .i64 (wrap64 (t227 - t219))] (by rfl) rfl rfl (by (try simp only [List.map_toArray, List.map_cons, List.map_nil]); first | done | rfl | (simp only [List.length_drop, List.length_take]; rfl)) ?_
                  with_reducible refine (laws_size.calls (wrap64 (t227 - t219)) t229 _ A37.out).mono ?_
                  rintro e w' ⟨rfl, ⟨nd, rfl⟩⟩
                  refine ⟨_, rfl, ?_⟩
                  refine hK.out _ _ ⟨(blk_cell BK221.out 0).trans rfl, (blk_cell BK221.out 1).trans rfl, (blk_cell BK221.out 2).trans rfl⟩ (fun hHeld => ?_)
                  clear hK K
                  refine norm_ (a' := ?_) ?_ ?_
                  rotate_left
                  · show Act.put _ (some 69) _ = _
                    simp only [Act.put, List.setIfInBounds_toArray, List.set_cons_zero, List.set_cons_succ, i64_w, i32_w]
                    rfl
                  refine pure_ (i := 21) (N := some 72) (v := ?_) (a' := ?_) #[true, true, true, true, true, true, true, true, true, true, true, true, true, true, true, true, true, true, true, true, true, true, false] rfl rfl (any_of HT_.out (by kernel_rfl)) (fun _ _ _ h => h) (Or.inl ⟨by rfl, ?_⟩) ?_ ?_
                  rotate_left
                  · intro w'
                    go_simp
                    with_reducible rfl
                  rotate_left
                  · simp only [Act.put, List.setIfInBounds_toArray, List.set_cons_zero, List.set_cons_succ, i64_w, i32_w]
                    rfl
                  refine pure_ (i := 22) (N := some 73) (v := ?_) (a' := ?_) #[true, true, true, true, true, true, true, true, true, true, true, true, true, true, true, true, true, true, true, true, true, true, true] rfl rfl (any_of HT_.out (by kernel_rfl)) (fun _ _ _ h => h) (Or.inl ⟨by rfl, ?_⟩) ?_ ?_
                  rotate_left
                  · intro w'
                    go_simp
                    with_reducible rfl
                  rotate_left
                  · simp only [Act.put, List.setIfInBounds_toArray, List.set_cons_zero, List.set_cons_succ, i64_w, i32_w]
                    rfl
                  refine done_ (done_of HT_.out (by kernel_rfl)) ?_
                  try go_wp2
                  go_meet
                  case rel => exact ⟨_, (decide (t229 > t218)), (by first | rfl | (simp; done) | (simp [*]; done)), H', ⟨by have := HK1.out; first | omega | exact Nat.le_refl _⟩, ⟨by (with_reducible repeat (first | apply Kd.R_alloc | apply Kd.R_drewN | apply Kd.R_drew)); exact HO_221000.out⟩, ⟨by (with_reducible repeat (first | apply Kd.R_alloc | apply Kd.R_drewN | apply Kd.R_drew)); exact HO_221001.out⟩, ⟨by (with_reducible repeat (first | refine blk_drewN ?_ _ | refine blk_drew ?_ | refine blk_alloc ?_ _)); exact BK220.out⟩, ⟨by (with_reducible repeat (first | refine blk_drewN ?_ _ | refine blk_drew ?_ | refine blk_alloc ?_ _)); exact BK221.out⟩, ⟨by (with_reducible repeat (first | refine blk_drewN ?_ _ | refine blk_drew ?_ | refine blk_alloc ?_ _)); exact BK226.out⟩, ⟨by repeat (first | (with_reducible first | exact HB.out | apply below_alloc | apply pw_below_drewN | apply below_drew1 | refine below_set ?_ GE220.out | refine below_set ?_ GE221.out | refine below_set ?_ GE226.out) | exact HB.out)⟩⟩
          case rest =>
            clear HC23
            try clear c2
            try clear p2
            try clear c3
            try clear p6
            try clear c25
            try clear c31
            try clear c31b0
            try clear c31b1
            try clear c33
            try clear c33b0
            try clear c35
            try clear c35b0
            obtain ⟨kq, x73_22, rfl, HA, HJ22, HO_221000, HO_221001, BK220, BK221, BK226, HB⟩ := hcut
            cases kq with
            | zero => exact absurd HA.out (by simp [laws_FnSurface.j1])
            | succ kj22 =>
              have H := HA.out
              clear HA
              simp only [laws_FnSurface.j1] at H
              by_cases c39 : x73_22 = true
              · subst c39
                have H1 : (some false) = some r := by rw [if_pos rfl] at H; exact H
                clear H
                have H := H1
                clear H1
                obtain rfl := Option.some.inj H
                go_wp2
                go_ret
                exact ⟨by first | rfl | (simp [errW_none, errW_some] <;> rfl) | (simp [*, errW_none, errW_some] <;> rfl), by repeat (first | (with_reducible first | exact HB.out | apply below_alloc | apply pw_below_drewN | apply below_drew1 | refine below_set ?_ GE220.out | refine below_set ?_ GE221.out | refine below_set ?_ GE226.out) | exact HB.out)⟩
              · replace c39 := Bool.eq_false_iff.mpr c39
                subst c39
                have H1 : (if x7_1 = 0 then (if (wrap64 ((wrap64 (t225 * 4)) - 400)) > 250 then (if t227 > t219 then (laws_FnSurface.j2 kj22 t219 x7_1 t227 t228 true t210 t213 t216 t217 t218 x227000_1 (wrap64 ((wrap64 (t223 * 4)) - 500)) (wrap64 (t224 * 3)) (wrap64 ((wrap64 (t225 * 4)) - 400))) else (if (wrap64 ((wrap64 (t225 * 4)) - 400)) < (-100) then (laws_FnSurface.j2 kj22 t219 x7_1 t227 t228 (decide (t227 < t219)) t210 t213 t216 t217 t218 x227000_1 (wrap64 ((wrap64 (t223 * 4)) - 500)) (wrap64 (t224 * 3)) (wrap64 ((wrap64 (t225 * 4)) - 400))) else (laws_FnSurface.j2 kj22 t219 x7_1 t227 t228 false t210 t213 t216 t217 t218 x227000_1 (wrap64 ((wrap64 (t223 * 4)) - 500)) (wrap64 (t224 * 3)) (wrap64 ((wrap64 (t225 * 4)) - 400))))) else (if (wrap64 ((wrap64 (t225 * 4)) - 400)) < (-100) then (laws_FnSurface.j2 kj22 t219 x7_1 t227 t228 (decide (t227 < t219)) t210 t213 t216 t217 t218 x227000_1 (wrap64 ((wrap64 (t223 * 4)) - 500)) (wrap64 (t224 * 3)) (wrap64 ((wrap64 (t225 * 4)) - 400))) else (laws_FnSurface.j2 kj22 t219 x7_1 t227 t228 false t210 t213 t216 t217 t218 x227000_1 (wrap64 ((wrap64 (t223 * 4)) - 500)) (wrap64 (t224 * 3)) (wrap64 ((wrap64 (t225 * 4)) - 400))))) else (laws_FnSurface.j2 kj22 t219 x7_1 t227 t228 false t210 t213 t216 t217 t218 x227000_1 (wrap64 ((wrap64 (t223 * 4)) - 500)) (wrap64 (t224 * 3)) (wrap64 ((wrap64 (t225 * 4)) - 400)))) = some r := by rw [if_neg (show ¬ (false = true) by decide)] at H; exact H
                clear H
                have H := H1
                clear H1
                have HC40 := Aside0.mk H
                clear H
                go_upto_region 11 with (fail)
                go_cut [95] (fun v95 wc => ∃ (kq : Nat) (x95_39 : Bool), v95 = .bool x95_39 ∧ Aside0 (laws_FnSurface.j2 kq t219 x7_1 t227 t228 x95_39 t210 t213 t216 t217 t218 x227000_1 (wrap64 ((wrap64 (t223 * 4)) - 500)) (wrap64 (t224 * 3)) (wrap64 ((wrap64 (t225 * 4)) - 400)) = some r) ∧ Aside0 (kq ≤ kj22) ∧ Aside0 (Kd.R (Kd.int .i64) 3 wc w.heap.size (fun k_ => some k_ ≠ ((.slice Ao15 t213.length co15) : Value).ownBlock) (.slice Ao12 t210.length co12) t210) ∧ Aside0 (Kd.R (Kd.int .i64) 3 wc w.heap.size (fun k_ => some k_ ≠ ((.slice Ao12 t210.length co12) : Value).ownBlock) (.slice Ao15 t213.length co15) t213) ∧ Aside0 (wc.heap[gb220]? = some (.cells #[(.slice Ao12 t210.length co12), (.slice Ao15 t213.length co15)] 41 (0, 0))) ∧ Aside0 (wc.heap[gb221]? = some (.cells #[.int .i64 t216, .int .i64 t217, .int .i64 t218] 34 (0, 0))) ∧ Aside0 (wc.heap[gb226]? = some (.cells #[.int .i64 x227000_1, .int .i64 (wrap64 ((wrap64 (t223 * 4)) - 500)), .int .i64 (wrap64 (t224 * 3)), .int .i64 (wrap64 ((wrap64 (t225 * 4)) - 400))] 48 (0, 0))) ∧ Aside0 (Below w.heap.size w wc))
                case first =>
                  have H := HC40.out
                  clear HC40
                  by_cases c41 : x7_1 = 0
                  · rw [if_pos c41] at H
                    have c41b0 : (x7_1 == 0) = true := beq_iff_eq.mpr c41
                    have c41b1 : (x7_1 != 0) = false := bne_eq_false_iff_eq.mpr c41
                    clear c41
                    (first | rw [c41b0] | (simp only [i64_w, i32_w]; rw [c41b0]) | skip)
                    by_cases c42 : (wrap64 ((wrap64 (t225 * 4)) - 400)) > 250
                    · rw [if_pos c42] at H
                      have c42b0 : decide (250 < (wrap64 ((wrap64 (t225 * 4)) - 400))) = true := decide_eq_true c42
                      clear c42
                      by_cases c43 : t227 > t219
                      · rw [if_pos c43] at H
                        have c43b0 : decide (t219 < t227) = true := decide_eq_true c43
                        clear c43
                        have H' := Aside0.mk H
                        clear H
                        have hnb44 := NB226_220.out
                        have hnc44 := NB220_226.out
                        have hnb45 := NB226_221.out
                        have hnc45 := NB221_226.out
                        have hcz46_0 : wc.cell? ⟨gb226, 0, none⟩ = some (.int .i64 x227000_1) := (blk_cell BK226.out 0).trans rfl
                        have hcz46_1 : wc.cell? ⟨gb226, 1, none⟩ = some (.int .i64 (wrap64 ((wrap64 (t223 * 4)) - 500))) := (blk_cell BK226.out 1).trans rfl
                        have hcz46_2 : wc.cell? ⟨gb226, 2, none⟩ = some (.int .i64 (wrap64 (t224 * 3))) := (blk_cell BK226.out 2).trans rfl
                        have hcz46_3 : wc.cell? ⟨gb226, 3, none⟩ = some (.int .i64 (wrap64 ((wrap64 (t225 * 4)) - 400))) := (blk_cell BK226.out 3).trans rfl
                        have hfz46_0 := blk_frozen BK226.out 0
                        have hfz46_1 := blk_frozen BK226.out 1
                        have hfz46_2 := blk_frozen BK226.out 2
                        have hfz46_3 := blk_frozen BK226.out 3
                        go_wp2
                        go_meet
                        case rel => exact ⟨_, (true), (by first | rfl | (simp; done) | (simp [*]; done)), H', ⟨by have := HK1.out; have := HJ22.out; first | omega | exact Nat.le_refl _⟩, ⟨by (with_reducible repeat (first | apply Kd.R_alloc | apply Kd.R_drewN | apply Kd.R_drew)); exact HO_221000.out⟩, ⟨by (with_reducible repeat (first | apply Kd.R_alloc | apply Kd.R_drewN | apply Kd.R_drew)); exact HO_221001.out⟩, ⟨by (with_reducible repeat (first | refine blk_drewN ?_ _ | refine blk_drew ?_ | refine blk_alloc ?_ _)); exact BK220.out⟩, ⟨by (with_reducible repeat (first | refine blk_drewN ?_ _ | refine blk_drew ?_ | refine blk_alloc ?_ _)); exact BK221.out⟩, ⟨by (with_reducible repeat (first | refine blk_drewN ?_ _ | refine blk_drew ?_ | refine blk_alloc ?_ _)); exact BK226.out⟩, ⟨by repeat (first | (with_reducible first | exact HB.out | apply below_alloc | apply pw_below_drewN | apply below_drew1 | refine below_set ?_ GE220.out | refine below_set ?_ GE221.out | refine below_set ?_ GE226.out) | exact HB.out)⟩⟩
                      · rw [if_neg c43] at H
                        have c43b0 : decide (t219 < t227) = false := decide_eq_false c43
                        clear c43
                        by_cases c47 : (wrap64 ((wrap64 (t225 * 4)) - 400)) < (-100)
                        · rw [if_pos c47] at H
                          have c47b0 : decide ((wrap64 ((wrap64 (t225 * 4)) - 400)) < (-100)) = true := decide_eq_true c47
                          clear c47
                          have H' := Aside0.mk H
                          clear H
                          have hnb48 := NB226_220.out
                          have hnc48 := NB220_226.out
                          have hnb49 := NB226_221.out
                          have hnc49 := NB221_226.out
                          have hcz50_0 : wc.cell? ⟨gb226, 0, none⟩ = some (.int .i64 x227000_1) := (blk_cell BK226.out 0).trans rfl
                          have hcz50_1 : wc.cell? ⟨gb226, 1, none⟩ = some (.int .i64 (wrap64 ((wrap64 (t223 * 4)) - 500))) := (blk_cell BK226.out 1).trans rfl
                          have hcz50_2 : wc.cell? ⟨gb226, 2, none⟩ = some (.int .i64 (wrap64 (t224 * 3))) := (blk_cell BK226.out 2).trans rfl
                          have hcz50_3 : wc.cell? ⟨gb226, 3, none⟩ = some (.int .i64 (wrap64 ((wrap64 (t225 * 4)) - 400))) := (blk_cell BK226.out 3).trans rfl
                          have hfz50_0 := blk_frozen BK226.out 0
                          have hfz50_1 := blk_frozen BK226.out 1
                          have hfz50_2 := blk_frozen BK226.out 2
                          have hfz50_3 := blk_frozen BK226.out 3
                          go_wp2
                          go_meet
                          case rel => exact ⟨_, (decide (t227 < t219)), (by first | rfl | (simp; done) | (simp [*]; done)), H', ⟨by have := HK1.out; have := HJ22.out; first | omega | exact Nat.le_refl _⟩, ⟨by (with_reducible repeat (first | apply Kd.R_alloc | apply Kd.R_drewN | apply Kd.R_drew)); exact HO_221000.out⟩, ⟨by (with_reducible repeat (first | apply Kd.R_alloc | apply Kd.R_drewN | apply Kd.R_drew)); exact HO_221001.out⟩, ⟨by (with_reducible repeat (first | refine blk_drewN ?_ _ | refine blk_drew ?_ | refine blk_alloc ?_ _)); exact BK220.out⟩, ⟨by (with_reducible repeat (first | refine blk_drewN ?_ _ | refine blk_drew ?_ | refine blk_alloc ?_ _)); exact BK221.out⟩, ⟨by (with_reducible repeat (first | refine blk_drewN ?_ _ | refine blk_drew ?_ | refine blk_alloc ?_ _)); exact BK226.out⟩, ⟨by repeat (first | (with_reducible first | exact HB.out | apply below_alloc | apply pw_below_drewN | apply below_drew1 | refine below_set ?_ GE220.out | refine below_set ?_ GE221.out | refine below_set ?_ GE226.out) | exact HB.out)⟩⟩
                        · rw [if_neg c47] at H
                          have c47b0 : decide ((wrap64 ((wrap64 (t225 * 4)) - 400)) < (-100)) = false := decide_eq_false c47
                          clear c47
                          have H' := Aside0.mk H
                          clear H
                          have hnb51 := NB226_220.out
                          have hnc51 := NB220_226.out
                          have hnb52 := NB226_221.out
                          have hnc52 := NB221_226.out
                          have hcz53_0 : wc.cell? ⟨gb226, 0, none⟩ = some (.int .i64 x227000_1) := (blk_cell BK226.out 0).trans rfl
                          have hcz53_1 : wc.cell? ⟨gb226, 1, none⟩ = some (.int .i64 (wrap64 ((wrap64 (t223 * 4)) - 500))) := (blk_cell BK226.out 1).trans rfl
                          have hcz53_2 : wc.cell? ⟨gb226, 2, none⟩ = some (.int .i64 (wrap64 (t224 * 3))) := (blk_cell BK226.out 2).trans rfl
                          have hcz53_3 : wc.cell? ⟨gb226, 3, none⟩ = some (.int .i64 (wrap64 ((wrap64 (t225 * 4)) - 400))) := (blk_cell BK226.out 3).trans rfl
                          have hfz53_0 := blk_frozen BK226.out 0
                          have hfz53_1 := blk_frozen BK226.out 1
                          have hfz53_2 := blk_frozen BK226.out 2
                          have hfz53_3 := blk_frozen BK226.out 3
                          go_wp2
                          go_meet
                          case rel => exact ⟨_, (false), (by first | rfl | (simp; done) | (simp [*]; done)), H', ⟨by have := HK1.out; have := HJ22.out; first | omega | exact Nat.le_refl _⟩, ⟨by (with_reducible repeat (first | apply Kd.R_alloc | apply Kd.R_drewN | apply Kd.R_drew)); exact HO_221000.out⟩, ⟨by (with_reducible repeat (first | apply Kd.R_alloc | apply Kd.R_drewN | apply Kd.R_drew)); exact HO_221001.out⟩, ⟨by (with_reducible repeat (first | refine blk_drewN ?_ _ | refine blk_drew ?_ | refine blk_alloc ?_ _)); exact BK220.out⟩, ⟨by (with_reducible repeat (first | refine blk_drewN ?_ _ | refine blk_drew ?_ | refine blk_alloc ?_ _)); exact BK221.out⟩, ⟨by (with_reducible repeat (first | refine blk_drewN ?_ _ | refine blk_drew ?_ | refine blk_alloc ?_ _)); exact BK226.out⟩, ⟨by repeat (first | (with_reducible first | exact HB.out | apply below_alloc | apply pw_below_drewN | apply below_drew1 | refine below_set ?_ GE220.out | refine below_set ?_ GE221.out | refine below_set ?_ GE226.out) | exact HB.out)⟩⟩
                    · rw [if_neg c42] at H
                      have c42b0 : decide (250 < (wrap64 ((wrap64 (t225 * 4)) - 400))) = false := decide_eq_false c42
                      clear c42
                      by_cases c54 : (wrap64 ((wrap64 (t225 * 4)) - 400)) < (-100)
                      · rw [if_pos c54] at H
                        have c54b0 : decide ((wrap64 ((wrap64 (t225 * 4)) - 400)) < (-100)) = true := decide_eq_true c54
                        clear c54
                        have H' := Aside0.mk H
                        clear H
                        have hnb55 := NB226_220.out
                        have hnc55 := NB220_226.out
                        have hnb56 := NB226_221.out
                        have hnc56 := NB221_226.out
                        have hcz57_0 : wc.cell? ⟨gb226, 0, none⟩ = some (.int .i64 x227000_1) := (blk_cell BK226.out 0).trans rfl
                        have hcz57_1 : wc.cell? ⟨gb226, 1, none⟩ = some (.int .i64 (wrap64 ((wrap64 (t223 * 4)) - 500))) := (blk_cell BK226.out 1).trans rfl
                        have hcz57_2 : wc.cell? ⟨gb226, 2, none⟩ = some (.int .i64 (wrap64 (t224 * 3))) := (blk_cell BK226.out 2).trans rfl
                        have hcz57_3 : wc.cell? ⟨gb226, 3, none⟩ = some (.int .i64 (wrap64 ((wrap64 (t225 * 4)) - 400))) := (blk_cell BK226.out 3).trans rfl
                        have hfz57_0 := blk_frozen BK226.out 0
                        have hfz57_1 := blk_frozen BK226.out 1
                        have hfz57_2 := blk_frozen BK226.out 2
                        have hfz57_3 := blk_frozen BK226.out 3
                        go_wp2
                        go_meet
                        case rel => exact ⟨_, (decide (t227 < t219)), (by first | rfl | (simp; done) | (simp [*]; done)), H', ⟨by have := HK1.out; have := HJ22.out; first | omega | exact Nat.le_refl _⟩, ⟨by (with_reducible repeat (first | apply Kd.R_alloc | apply Kd.R_drewN | apply Kd.R_drew)); exact HO_221000.out⟩, ⟨by (with_reducible repeat (first | apply Kd.R_alloc | apply Kd.R_drewN | apply Kd.R_drew)); exact HO_221001.out⟩, ⟨by (with_reducible repeat (first | refine blk_drewN ?_ _ | refine blk_drew ?_ | refine blk_alloc ?_ _)); exact BK220.out⟩, ⟨by (with_reducible repeat (first | refine blk_drewN ?_ _ | refine blk_drew ?_ | refine blk_alloc ?_ _)); exact BK221.out⟩, ⟨by (with_reducible repeat (first | refine blk_drewN ?_ _ | refine blk_drew ?_ | refine blk_alloc ?_ _)); exact BK226.out⟩, ⟨by repeat (first | (with_reducible first | exact HB.out | apply below_alloc | apply pw_below_drewN | apply below_drew1 | refine below_set ?_ GE220.out | refine below_set ?_ GE221.out | refine below_set ?_ GE226.out) | exact HB.out)⟩⟩
                      · rw [if_neg c54] at H
                        have c54b0 : decide ((wrap64 ((wrap64 (t225 * 4)) - 400)) < (-100)) = false := decide_eq_false c54
                        clear c54
                        have H' := Aside0.mk H
                        clear H
                        have hnb58 := NB226_220.out
                        have hnc58 := NB220_226.out
                        have hnb59 := NB226_221.out
                        have hnc59 := NB221_226.out
                        have hcz60_0 : wc.cell? ⟨gb226, 0, none⟩ = some (.int .i64 x227000_1) := (blk_cell BK226.out 0).trans rfl
                        have hcz60_1 : wc.cell? ⟨gb226, 1, none⟩ = some (.int .i64 (wrap64 ((wrap64 (t223 * 4)) - 500))) := (blk_cell BK226.out 1).trans rfl
                        have hcz60_2 : wc.cell? ⟨gb226, 2, none⟩ = some (.int .i64 (wrap64 (t224 * 3))) := (blk_cell BK226.out 2).trans rfl
                        have hcz60_3 : wc.cell? ⟨gb226, 3, none⟩ = some (.int .i64 (wrap64 ((wrap64 (t225 * 4)) - 400))) := (blk_cell BK226.out 3).trans rfl
                        have hfz60_0 := blk_frozen BK226.out 0
                        have hfz60_1 := blk_frozen BK226.out 1
                        have hfz60_2 := blk_frozen BK226.out 2
                        have hfz60_3 := blk_frozen BK226.out 3
                        go_wp2
                        go_meet
                        case rel => exact ⟨_, (false), (by first | rfl | (simp; done) | (simp [*]; done)), H', ⟨by have := HK1.out; have := HJ22.out; first | omega | exact Nat.le_refl _⟩, ⟨by (with_reducible repeat (first | apply Kd.R_alloc | apply Kd.R_drewN | apply Kd.R_drew)); exact HO_221000.out⟩, ⟨by (with_reducible repeat (first | apply Kd.R_alloc | apply Kd.R_drewN | apply Kd.R_drew)); exact HO_221001.out⟩, ⟨by (with_reducible repeat (first | refine blk_drewN ?_ _ | refine blk_drew ?_ | refine blk_alloc ?_ _)); exact BK220.out⟩, ⟨by (with_reducible repeat (first | refine blk_drewN ?_ _ | refine blk_drew ?_ | refine blk_alloc ?_ _)); exact BK221.out⟩, ⟨by (with_reducible repeat (first | refine blk_drewN ?_ _ | refine blk_drew ?_ | refine blk_alloc ?_ _)); exact BK226.out⟩, ⟨by repeat (first | (with_reducible first | exact HB.out | apply below_alloc | apply pw_below_drewN | apply below_drew1 | refine below_set ?_ GE220.out | refine below_set ?_ GE221.out | refine below_set ?_ GE226.out) | exact HB.out)⟩⟩
                  · rw [if_neg c41] at H
                    have c41b0 : (x7_1 == 0) = false := beq_eq_false_iff_ne.mpr c41
                    have c41b1 : (x7_1 != 0) = true := bne_iff_ne.mpr c41
                    (first | rw [c41b0] | (simp only [i64_w, i32_w]; rw [c41b0]) | skip)
                    have H' := Aside0.mk H
                    clear H
                    go_wp2
                    go_meet
                    case rel => exact ⟨_, (false), (by first | rfl | (simp; done) | (simp [*]; done)), H', ⟨by have := HK1.out; have := HJ22.out; first | omega | exact Nat.le_refl _⟩, ⟨by (with_reducible repeat (first | apply Kd.R_alloc | apply Kd.R_drewN | apply Kd.R_drew)); exact HO_221000.out⟩, ⟨by (with_reducible repeat (first | apply Kd.R_alloc | apply Kd.R_drewN | apply Kd.R_drew)); exact HO_221001.out⟩, ⟨by (with_reducible repeat (first | refine blk_drewN ?_ _ | refine blk_drew ?_ | refine blk_alloc ?_ _)); exact BK220.out⟩, ⟨by (with_reducible repeat (first | refine blk_drewN ?_ _ | refine blk_drew ?_ | refine blk_alloc ?_ _)); exact BK221.out⟩, ⟨by (with_reducible repeat (first | refine blk_drewN ?_ _ | refine blk_drew ?_ | refine blk_alloc ?_ _)); exact BK226.out⟩, ⟨by repeat (first | (with_reducible first | exact HB.out | apply below_alloc | apply pw_below_drewN | apply below_drew1 | refine below_set ?_ GE220.out | refine below_set ?_ GE221.out | refine below_set ?_ GE226.out) | exact HB.out)⟩⟩
                case rest =>
                  clear HC40
                  try clear c2
                  try clear p2
                  try clear c3
                  try clear c4
                  try clear c5
                  try clear p6
                  try clear c25
                  try clear c31
                  try clear c31b0
                  try clear c31b1
                  try clear c33
                  try clear c33b0
                  try clear c35
                  try clear c35b0
                  try clear c39
                  try clear c41
                  try clear c41b0
                  try clear c41b1
                  try clear c42
                  try clear c42b0
                  try clear c43
                  try clear c43b0
                  try clear c44
                  try clear c45
                  try clear c47
                  try clear c47b0
                  try clear c48
                  try clear c49
                  try clear c51
                  try clear c52
                  try clear c54
                  try clear c54b0
                  try clear c55
                  try clear c56
                  try clear c58
                  try clear c59
                  try clear hcz46_0
                  try clear hcz46_1
                  try clear hcz46_2
                  try clear hcz46_3
                  try clear hcz50_0
                  try clear hcz50_1
                  try clear hcz50_2
                  try clear hcz50_3
                  try clear hcz53_0
                  try clear hcz53_1
                  try clear hcz53_2
                  try clear hcz53_3
                  try clear hcz57_0
                  try clear hcz57_1
                  try clear hcz57_2
                  try clear hcz57_3
                  try clear hcz60_0
                  try clear hcz60_1
                  try clear hcz60_2
                  try clear hcz60_3
                  try clear hfz46_0
                  try clear hfz46_1
                  try clear hfz46_2
                  try clear hfz46_3
                  try clear hfz50_0
                  try clear hfz50_1
                  try clear hfz50_2
                  try clear hfz50_3
                  try clear hfz53_0
                  try clear hfz53_1
                  try clear hfz53_2
                  try clear hfz53_3
                  try clear hfz57_0
                  try clear hfz57_1
                  try clear hfz57_2
                  try clear hfz57_3
                  try clear hfz60_0
                  try clear hfz60_1
                  try clear hfz60_2
                  try clear hfz60_3
                  try clear p2
                  try clear p6
                  obtain ⟨kq, x95_39, rfl, HA, HJ39, HO_221000, HO_221001, BK220, BK221, BK226, HB⟩ := hcut
                  cases kq with
                  | zero => exact absurd HA.out (by simp [laws_FnSurface.j2])
                  | succ kj39 =>
                    have H := HA.out
                    clear HA
                    simp only [laws_FnSurface.j2] at H
                    by_cases c61 : x95_39 = true
                    · subst c61
                      have H1 : (some false) = some r := by rw [if_pos rfl] at H; exact H
                      clear H
                      have H := H1
                      clear H1
                      obtain rfl := Option.some.inj H
                      go_wp2
                      go_ret
                      exact ⟨by first | rfl | (simp [errW_none, errW_some] <;> rfl) | (simp [*, errW_none, errW_some] <;> rfl), by repeat (first | (with_reducible first | exact HB.out | apply below_alloc | apply pw_below_drewN | apply below_drew1 | refine below_set ?_ GE220.out | refine below_set ?_ GE221.out | refine below_set ?_ GE226.out) | exact HB.out)⟩
                    · replace c61 := Bool.eq_false_iff.mpr c61
                      subst c61
                      have H1 : (if x7_1 = 2 then ((impl_Law.f kj39 x7_1 t210 t213 (wrap64 (x227000_1 + 1)) (wrap64 ((wrap64 (t223 * 4)) - 500)) (wrap64 (t224 * 3)) (wrap64 ((wrap64 (t225 * 4)) - 400)) t216 t217 t218 t219).bind fun bt230 => (if bt230.1 < t227 then (some false) else (if t228 = 0 then (if t227 = (wrap64 (10 * (wrap64 ((wrap64 (x227000_1 + 1)) - 1)))) then (laws_FnSurface.l0 kj39 t219 (wrap64 (x7_1 + 1)) t210 t213 t216 t217 t218 (wrap64 (x227000_1 + 1)) (wrap64 ((wrap64 (t223 * 4)) - 500)) (wrap64 (t224 * 3)) (wrap64 ((wrap64 (t225 * 4)) - 400))) else (some false)) else (laws_FnSurface.l0 kj39 t219 (wrap64 (x7_1 + 1)) t210 t213 t216 t217 t218 (wrap64 (x227000_1 + 1)) (wrap64 ((wrap64 (t223 * 4)) - 500)) (wrap64 (t224 * 3)) (wrap64 ((wrap64 (t225 * 4)) - 400)))))) else (laws_FnSurface.l0 kj39 t219 (wrap64 (x7_1 + 1)) t210 t213 t216 t217 t218 x227000_1 (wrap64 ((wrap64 (t223 * 4)) - 500)) (wrap64 (t224 * 3)) (wrap64 ((wrap64 (t225 * 4)) - 400)))) = some r := by rw [if_neg (show ¬ (false = true) by decide)] at H; exact H
                      clear H
                      have H := H1
                      clear H1
                      by_cases c62 : x7_1 = 2
                      · rw [if_pos c62] at H
                        have c62b0 : (x7_1 == 2) = true := beq_iff_eq.mpr c62
                        have c62b1 : (x7_1 != 2) = false := bne_eq_false_iff_eq.mpr c62
                        clear c62
                        replace H := Option.bind_eq_some_iff.mp H
                        obtain ⟨⟨t230, t231⟩, A630, H⟩ := H
                        replace H : (if t230 < t227 then (some false) else (if t228 = 0 then (if t227 = (wrap64 (10 * (wrap64 ((wrap64 (x227000_1 + 1)) - 1)))) then (laws_FnSurface.l0 kj39 t219 (wrap64 (x7_1 + 1)) t210 t213 t216 t217 t218 (wrap64 (x227000_1 + 1)) (wrap64 ((wrap64 (t223 * 4)) - 500)) (wrap64 (t224 * 3)) (wrap64 ((wrap64 (t225 * 4)) - 400))) else (some false)) else (laws_FnSurface.l0 kj39 t219 (wrap64 (x7_1 + 1)) t210 t213 t216 t217 t218 (wrap64 (x227000_1 + 1)) (wrap64 ((wrap64 (t223 * 4)) - 500)) (wrap64 (t224 * 3)) (wrap64 ((wrap64 (t225 * 4)) - 400))))) = some r := H
                        have A63 := Aside0.mk A630
                        clear A630
                        by_cases c64 : t230 < t227
                        · rw [if_pos c64] at H
                          have c64b0 : decide (t230 < t227) = true := decide_eq_true c64
                          clear c64
                          obtain rfl := Option.some.inj H
                          have hnb65 := NB226_220.out
                          have hnc65 := NB220_226.out
                          have hnb66 := NB226_221.out
                          have hnc66 := NB221_226.out
                          have hcz67_0 : wc.cell? ⟨gb226, 0, none⟩ = some (.int .i64 x227000_1) := (blk_cell BK226.out 0).trans rfl
                          have hcz67_1 : wc.cell? ⟨gb226, 1, none⟩ = some (.int .i64 (wrap64 ((wrap64 (t223 * 4)) - 500))) := (blk_cell BK226.out 1).trans rfl
                          have hcz67_2 : wc.cell? ⟨gb226, 2, none⟩ = some (.int .i64 (wrap64 (t224 * 3))) := (blk_cell BK226.out 2).trans rfl
                          have hcz67_3 : wc.cell? ⟨gb226, 3, none⟩ = some (.int .i64 (wrap64 ((wrap64 (t225 * 4)) - 400))) := (blk_cell BK226.out 3).trans rfl
                          have hfz67_0 := blk_frozen BK226.out 0
                          have hfz67_1 := blk_frozen BK226.out 1
                          have hfz67_2 := blk_frozen BK226.out 2
                          have hfz67_3 := blk_frozen BK226.out 3
                          have hnb68 := NB220_221.out
                          have hnc68 := NB221_220.out
                          have hcz69_0 : wc.cell? ⟨gb220, 0, none⟩ = some (.slice Ao12 t210.length co12) := (blk_cell BK220.out 0).trans rfl
                          have hcz69_1 : wc.cell? ⟨gb220, 1, none⟩ = some (.slice Ao15 t213.length co15) := (blk_cell BK220.out 1).trans rfl
                          have hfz69_0 := blk_frozen BK220.out 0
                          have hfz69_1 := blk_frozen BK220.out 1
                          have hcz70_0 : wc.cell? ⟨gb221, 0, none⟩ = some (.int .i64 t216) := (blk_cell BK221.out 0).trans rfl
                          have hcz70_1 : wc.cell? ⟨gb221, 1, none⟩ = some (.int .i64 t217) := (blk_cell BK221.out 1).trans rfl
                          have hcz70_2 : wc.cell? ⟨gb221, 2, none⟩ = some (.int .i64 t218) := (blk_cell BK221.out 2).trans rfl
                          have hfz70_0 := blk_frozen BK221.out 0
                          have hfz70_1 := blk_frozen BK221.out 1
                          have hfz70_2 := blk_frozen BK221.out 2
                          go_wp2_with (first | ((with_reducible refine gate_callee (f := 24) rfl ?_); refine goesL_ (some 108) rfl rfl Try.func24 (by kernel_rfl) rfl #[.int .i64 x7_1, .agg #[.slice Ao12 t210.length co12, .slice Ao15 t213.length co15], .agg #[.int .i64 (wrap64 (x227000_1 + 1)), .int .i64 (wrap64 ((wrap64 (t223 * 4)) - 500)), .int .i64 (wrap64 (t224 * 3)), .int .i64 (wrap64 ((wrap64 (t225 * 4)) - 400))], .agg #[.int .i64 t216, .int .i64 t217, .int .i64 t218], .int .i64 t219] rfl (by (try simp only [List.map_toArray, List.map_cons, List.map_nil]); first | done | rfl | (simp only [List.length_drop, List.length_take]; rfl)) ?_; (with_reducible refine (impl_Law.calls kj39 x7_1 _ _ t210 _ _ t213 (wrap64 (x227000_1 + 1)) (wrap64 ((wrap64 (t223 * 4)) - 500)) (wrap64 (t224 * 3)) (wrap64 ((wrap64 (t225 * 4)) - 400)) t216 t217 t218 t219 t230 t231 _ ?side1 ?side2 ?side3 ?side4 A63.out).mono ?_); (case side1 => refine (Kd.R_reads' (e := 3) (base := w.heap.size) (ok := fun k_ => some k_ ≠ (.slice Ao15 t213.length co15 : Value).ownBlock) (n := t210.length) (c := co12) ?_).2.2; exact (by (with_reducible repeat (first | apply Kd.R_alloc | apply Kd.R_drewN | apply Kd.R_drew)); exact (Kd.R_mono (Kd.R_far (p := ⟨gb226, 0, none⟩) (Kd.R_types HO_221000.out BK226.out (by decide)) (fun _ hk => hk.2) (.int .i64 (wrap64 (x227000_1 + 1)))) (fun _ h_ => h_.1)))); (case side2 => exact (Kd.R_reads' HO_221000.out).2.1); (case side3 => refine (Kd.R_reads' (e := 3) (base := w.heap.size) (ok := fun k_ => some k_ ≠ (.slice Ao12 t210.length co12 : Value).ownBlock) (n := t213.length) (c := co15) ?_).2.2; exact (by (with_reducible repeat (first | apply Kd.R_alloc | apply Kd.R_drewN | apply Kd.R_drew)); exact (Kd.R_mono (Kd.R_far (p := ⟨gb226, 0, none⟩) (Kd.R_types HO_221001.out BK226.out (by decide)) (fun _ hk => hk.2) (.int .i64 (wrap64 (x227000_1 + 1)))) (fun _ h_ => h_.1)))); (case side4 => exact (Kd.R_reads' HO_221001.out).2.1); rintro e w71 ⟨rfl, hb⟩; refine ⟨_, rfl, ?_⟩; have n0_ := Aside0.mk (Kd.R_below (by (with_reducible repeat (first | apply Kd.R_alloc | apply Kd.R_drewN | apply Kd.R_drew)); exact (Kd.R_mono (Kd.R_far (p := ⟨gb226, 0, none⟩) (Kd.R_types HO_221000.out BK226.out (by decide)) (fun _ hk => hk.2) (.int .i64 (wrap64 (x227000_1 + 1)))) (fun _ h_ => h_.1))) hb); have n1_ := Aside0.mk (Kd.R_below (by (with_reducible repeat (first | apply Kd.R_alloc | apply Kd.R_drewN | apply Kd.R_drew)); exact (Kd.R_mono (Kd.R_far (p := ⟨gb226, 0, none⟩) (Kd.R_types HO_221001.out BK226.out (by decide)) (fun _ hk => hk.2) (.int .i64 (wrap64 (x227000_1 + 1)))) (fun _ h_ => h_.1))) hb); have n2_ := Aside0.mk (blk_below (g := gb220) (o := .cells #[.slice Ao12 t210.length co12, .slice Ao15 t213.length co15] 41 (0, 0)) (by (with_reducible repeat (first | refine blk_drewN ?_ _ | refine blk_drew ?_ | refine blk_alloc ?_ _)); refine blk_far ?_ NB220_226.out _; (with_reducible repeat (first | refine blk_drewN ?_ _ | refine blk_drew ?_ | refine blk_alloc ?_ _)); exact BK220.out) hb); have n3_ := Aside0.mk (blk_below (g := gb221) (o := .cells #[.int .i64 t216, .int .i64 t217, .int .i64 t218] 34 (0, 0)) (by (with_reducible repeat (first | refine blk_drewN ?_ _ | refine blk_drew ?_ | refine blk_alloc ?_ _)); refine blk_far ?_ NB221_226.out _; (with_reducible repeat (first | refine blk_drewN ?_ _ | refine blk_drew ?_ | refine blk_alloc ?_ _)); exact BK221.out) hb); have n4_ := Aside0.mk (blk_below (g := gb226) (o := .cells #[.int .i64 (wrap64 (x227000_1 + 1)), .int .i64 (wrap64 ((wrap64 (t223 * 4)) - 500)), .int .i64 (wrap64 (t224 * 3)), .int .i64 (wrap64 ((wrap64 (t225 * 4)) - 400))] 48 (0, 0)) (by (with_reducible repeat (first | refine blk_drewN ?_ _ | refine blk_drew ?_ | refine blk_alloc ?_ _)); refine blk_put (cs := #[.int .i64 x227000_1, .int .i64 (wrap64 ((wrap64 (t223 * 4)) - 500)), .int .i64 (wrap64 (t224 * 3)), .int .i64 (wrap64 ((wrap64 (t225 * 4)) - 400))]) ?_ 0 _ rfl; (with_reducible repeat (first | refine blk_drewN ?_ _ | refine blk_drew ?_ | refine blk_alloc ?_ _)); exact BK226.out) hb); have n5_ := Aside0.mk (below_step (by repeat (first | (with_reducible first | exact HB.out | apply below_alloc | apply pw_below_drewN | apply below_drew1 | refine below_set ?_ GE220.out | refine below_set ?_ GE221.out | refine below_set ?_ GE226.out) | exact HB.out)) hb); clear HO_221000; clear HO_221001; clear BK220; clear BK221; clear BK226; clear HB; have HO_221000 := n0_; have HO_221001 := n1_; have BK220 := n2_; have BK221 := n3_; have BK226 := n4_; have HB := n5_; clear n0_ n1_ n2_ n3_ n4_ n5_; (try clear hb); (try clear hb2); (try clear hk); (try clear hi)))
                          go_ret
                          exact ⟨by first | rfl | (simp [errW_none, errW_some] <;> rfl) | (simp [*, errW_none, errW_some] <;> rfl), by repeat (first | (with_reducible first | exact HB.out | apply below_alloc | apply pw_below_drewN | apply below_drew1 | refine below_set ?_ GE220.out | refine below_set ?_ GE221.out | refine below_set ?_ GE226.out) | exact HB.out)⟩
                        · rw [if_neg c64] at H
                          have c64b0 : decide (t230 < t227) = false := decide_eq_false c64
                          clear c64
                          by_cases c72 : t228 = 0
                          · rw [if_pos c72] at H
                            have c72b0 : (t228 == 0) = true := beq_iff_eq.mpr c72
                            have c72b1 : (t228 != 0) = false := bne_eq_false_iff_eq.mpr c72
                            clear c72
                            by_cases c73 : t227 = (wrap64 (10 * (wrap64 ((wrap64 (x227000_1 + 1)) - 1))))
                            · rw [if_pos c73] at H
                              have c73b0 : (t227 == (wrap64 (10 * (wrap64 ((wrap64 (x227000_1 + 1)) - 1))))) = true := beq_iff_eq.mpr c73
                              have c73b1 : (t227 != (wrap64 (10 * (wrap64 ((wrap64 (x227000_1 + 1)) - 1))))) = false := bne_eq_false_iff_eq.mpr c73
                              clear c73
                              have H' := Aside0.mk H
                              clear H
                              have hnb74 := NB226_220.out
                              have hnc74 := NB220_226.out
                              have hnb75 := NB226_221.out
                              have hnc75 := NB221_226.out
                              have hcz76_0 : wc.cell? ⟨gb226, 0, none⟩ = some (.int .i64 x227000_1) := (blk_cell BK226.out 0).trans rfl
                              have hcz76_1 : wc.cell? ⟨gb226, 1, none⟩ = some (.int .i64 (wrap64 ((wrap64 (t223 * 4)) - 500))) := (blk_cell BK226.out 1).trans rfl
                              have hcz76_2 : wc.cell? ⟨gb226, 2, none⟩ = some (.int .i64 (wrap64 (t224 * 3))) := (blk_cell BK226.out 2).trans rfl
                              have hcz76_3 : wc.cell? ⟨gb226, 3, none⟩ = some (.int .i64 (wrap64 ((wrap64 (t225 * 4)) - 400))) := (blk_cell BK226.out 3).trans rfl
                              have hfz76_0 := blk_frozen BK226.out 0
                              have hfz76_1 := blk_frozen BK226.out 1
                              have hfz76_2 := blk_frozen BK226.out 2
                              have hfz76_3 := blk_frozen BK226.out 3
                              have hnb77 := NB220_221.out
                              have hnc77 := NB221_220.out
                              have hcz78_0 : wc.cell? ⟨gb220, 0, none⟩ = some (.slice Ao12 t210.length co12) := (blk_cell BK220.out 0).trans rfl
                              have hcz78_1 : wc.cell? ⟨gb220, 1, none⟩ = some (.slice Ao15 t213.length co15) := (blk_cell BK220.out 1).trans rfl
                              have hfz78_0 := blk_frozen BK220.out 0
                              have hfz78_1 := blk_frozen BK220.out 1
                              have hcz79_0 : wc.cell? ⟨gb221, 0, none⟩ = some (.int .i64 t216) := (blk_cell BK221.out 0).trans rfl
                              have hcz79_1 : wc.cell? ⟨gb221, 1, none⟩ = some (.int .i64 t217) := (blk_cell BK221.out 1).trans rfl
                              have hcz79_2 : wc.cell? ⟨gb221, 2, none⟩ = some (.int .i64 t218) := (blk_cell BK221.out 2).trans rfl
                              have hfz79_0 := blk_frozen BK221.out 0
                              have hfz79_1 := blk_frozen BK221.out 1
                              have hfz79_2 := blk_frozen BK221.out 2
                              go_wp2_with (first | ((with_reducible refine gate_callee (f := 24) rfl ?_); refine goesL_ (some 108) rfl rfl Try.func24 (by kernel_rfl) rfl #[.int .i64 x7_1, .agg #[.slice Ao12 t210.length co12, .slice Ao15 t213.length co15], .agg #[.int .i64 (wrap64 (x227000_1 + 1)), .int .i64 (wrap64 ((wrap64 (t223 * 4)) - 500)), .int .i64 (wrap64 (t224 * 3)), .int .i64 (wrap64 ((wrap64 (t225 * 4)) - 400))], .agg #[.int .i64 t216, .int .i64 t217, .int .i64 t218], .int .i64 t219] rfl (by (try simp only [List.map_toArray, List.map_cons, List.map_nil]); first | done | rfl | (simp only [List.length_drop, List.length_take]; rfl)) ?_; (with_reducible refine (impl_Law.calls kj39 x7_1 _ _ t210 _ _ t213 (wrap64 (x227000_1 + 1)) (wrap64 ((wrap64 (t223 * 4)) - 500)) (wrap64 (t224 * 3)) (wrap64 ((wrap64 (t225 * 4)) - 400)) t216 t217 t218 t219 t230 t231 _ ?side1 ?side2 ?side3 ?side4 A63.out).mono ?_); (case side1 => refine (Kd.R_reads' (e := 3) (base := w.heap.size) (ok := fun k_ => some k_ ≠ (.slice Ao15 t213.length co15 : Value).ownBlock) (n := t210.length) (c := co12) ?_).2.2; exact (by (with_reducible repeat (first | apply Kd.R_alloc | apply Kd.R_drewN | apply Kd.R_drew)); exact (Kd.R_mono (Kd.R_far (p := ⟨gb226, 0, none⟩) (Kd.R_types HO_221000.out BK226.out (by decide)) (fun _ hk => hk.2) (.int .i64 (wrap64 (x227000_1 + 1)))) (fun _ h_ => h_.1)))); (case side2 => exact (Kd.R_reads' HO_221000.out).2.1); (case side3 => refine (Kd.R_reads' (e := 3) (base := w.heap.size) (ok := fun k_ => some k_ ≠ (.slice Ao12 t210.length co12 : Value).ownBlock) (n := t213.length) (c := co15) ?_).2.2; exact (by (with_reducible repeat (first | apply Kd.R_alloc | apply Kd.R_drewN | apply Kd.R_drew)); exact (Kd.R_mono (Kd.R_far (p := ⟨gb226, 0, none⟩) (Kd.R_types HO_221001.out BK226.out (by decide)) (fun _ hk => hk.2) (.int .i64 (wrap64 (x227000_1 + 1)))) (fun _ h_ => h_.1)))); (case side4 => exact (Kd.R_reads' HO_221001.out).2.1); rintro e w80 ⟨rfl, hb⟩; refine ⟨_, rfl, ?_⟩; have n0_ := Aside0.mk (Kd.R_below (by (with_reducible repeat (first | apply Kd.R_alloc | apply Kd.R_drewN | apply Kd.R_drew)); exact (Kd.R_mono (Kd.R_far (p := ⟨gb226, 0, none⟩) (Kd.R_types HO_221000.out BK226.out (by decide)) (fun _ hk => hk.2) (.int .i64 (wrap64 (x227000_1 + 1)))) (fun _ h_ => h_.1))) hb); have n1_ := Aside0.mk (Kd.R_below (by (with_reducible repeat (first | apply Kd.R_alloc | apply Kd.R_drewN | apply Kd.R_drew)); exact (Kd.R_mono (Kd.R_far (p := ⟨gb226, 0, none⟩) (Kd.R_types HO_221001.out BK226.out (by decide)) (fun _ hk => hk.2) (.int .i64 (wrap64 (x227000_1 + 1)))) (fun _ h_ => h_.1))) hb); have n2_ := Aside0.mk (blk_below (g := gb220) (o := .cells #[.slice Ao12 t210.length co12, .slice Ao15 t213.length co15] 41 (0, 0)) (by (with_reducible repeat (first | refine blk_drewN ?_ _ | refine blk_drew ?_ | refine blk_alloc ?_ _)); refine blk_far ?_ NB220_226.out _; (with_reducible repeat (first | refine blk_drewN ?_ _ | refine blk_drew ?_ | refine blk_alloc ?_ _)); exact BK220.out) hb); have n3_ := Aside0.mk (blk_below (g := gb221) (o := .cells #[.int .i64 t216, .int .i64 t217, .int .i64 t218] 34 (0, 0)) (by (with_reducible repeat (first | refine blk_drewN ?_ _ | refine blk_drew ?_ | refine blk_alloc ?_ _)); refine blk_far ?_ NB221_226.out _; (with_reducible repeat (first | refine blk_drewN ?_ _ | refine blk_drew ?_ | refine blk_alloc ?_ _)); exact BK221.out) hb); have n4_ := Aside0.mk (blk_below (g := gb226) (o := .cells #[.int .i64 (wrap64 (x227000_1 + 1)), .int .i64 (wrap64 ((wrap64 (t223 * 4)) - 500)), .int .i64 (wrap64 (t224 * 3)), .int .i64 (wrap64 ((wrap64 (t225 * 4)) - 400))] 48 (0, 0)) (by (with_reducible repeat (first | refine blk_drewN ?_ _ | refine blk_drew ?_ | refine blk_alloc ?_ _)); refine blk_put (cs := #[.int .i64 x227000_1, .int .i64 (wrap64 ((wrap64 (t223 * 4)) - 500)), .int .i64 (wrap64 (t224 * 3)), .int .i64 (wrap64 ((wrap64 (t225 * 4)) - 400))]) ?_ 0 _ rfl; (with_reducible repeat (first | refine blk_drewN ?_ _ | refine blk_drew ?_ | refine blk_alloc ?_ _)); exact BK226.out) hb); have n5_ := Aside0.mk (below_step (by repeat (first | (with_reducible first | exact HB.out | apply below_alloc | apply pw_below_drewN | apply below_drew1 | refine below_set ?_ GE220.out | refine below_set ?_ GE221.out | refine below_set ?_ GE226.out) | exact HB.out)) hb); clear HO_221000; clear HO_221001; clear BK220; clear BK221; clear BK226; clear HB; have HO_221000 := n0_; have HO_221001 := n1_; have BK220 := n2_; have BK221 := n3_; have BK226 := n4_; have HB := n5_; clear n0_ n1_ n2_ n3_ n4_ n5_; (try clear hb); (try clear hb2); (try clear hk); (try clear hi); have hcz81_0 : w80.cell? ⟨gb226, 0, none⟩ = some (.int .i64 (wrap64 (x227000_1 + 1))) := (blk_cell BK226.out 0).trans rfl; have hcz81_1 : w80.cell? ⟨gb226, 1, none⟩ = some (.int .i64 (wrap64 ((wrap64 (t223 * 4)) - 500))) := (blk_cell BK226.out 1).trans rfl; have hcz81_2 : w80.cell? ⟨gb226, 2, none⟩ = some (.int .i64 (wrap64 (t224 * 3))) := (blk_cell BK226.out 2).trans rfl; have hcz81_3 : w80.cell? ⟨gb226, 3, none⟩ = some (.int .i64 (wrap64 ((wrap64 (t225 * 4)) - 400))) := (blk_cell BK226.out 3).trans rfl; have hfz81_0 := blk_frozen BK226.out 0; have hfz81_1 := blk_frozen BK226.out 1; have hfz81_2 := blk_frozen BK226.out 2; have hfz81_3 := blk_frozen BK226.out 3))
                              go_roundg kj39
                              case measure => have := HK1.out; have := HJ22.out; have := HJ39.out; omega
                              case rel => exact ⟨(wrap64 (x7_1 + 1)), (wrap64 (x227000_1 + 1)), (by first | rfl | (simp; done) | (simp [*]; done)), H', ⟨by have := HK1.out; have := HJ22.out; have := HJ39.out; omega⟩, ⟨by (with_reducible repeat (first | apply Kd.R_alloc | apply Kd.R_drewN | apply Kd.R_drew)); exact HO_221000.out⟩, ⟨by (with_reducible repeat (first | apply Kd.R_alloc | apply Kd.R_drewN | apply Kd.R_drew)); exact HO_221001.out⟩, ⟨by (with_reducible repeat (first | refine blk_drewN ?_ _ | refine blk_drew ?_ | refine blk_alloc ?_ _)); exact BK220.out⟩, ⟨by (with_reducible repeat (first | refine blk_drewN ?_ _ | refine blk_drew ?_ | refine blk_alloc ?_ _)); exact BK221.out⟩, ⟨by (with_reducible repeat (first | refine blk_drewN ?_ _ | refine blk_drew ?_ | refine blk_alloc ?_ _)); exact BK226.out⟩, ⟨by repeat (first | (with_reducible first | exact HB.out | apply below_alloc | apply pw_below_drewN | apply below_drew1 | refine below_set ?_ GE220.out | refine below_set ?_ GE221.out | refine below_set ?_ GE226.out) | exact HB.out)⟩⟩
                            · rw [if_neg c73] at H
                              have c73b0 : (t227 == (wrap64 (10 * (wrap64 ((wrap64 (x227000_1 + 1)) - 1))))) = false := beq_eq_false_iff_ne.mpr c73
                              have c73b1 : (t227 != (wrap64 (10 * (wrap64 ((wrap64 (x227000_1 + 1)) - 1))))) = true := bne_iff_ne.mpr c73
                              obtain rfl := Option.some.inj H
                              have hnb82 := NB226_220.out
                              have hnc82 := NB220_226.out
                              have hnb83 := NB226_221.out
                              have hnc83 := NB221_226.out
                              have hcz84_0 : wc.cell? ⟨gb226, 0, none⟩ = some (.int .i64 x227000_1) := (blk_cell BK226.out 0).trans rfl
                              have hcz84_1 : wc.cell? ⟨gb226, 1, none⟩ = some (.int .i64 (wrap64 ((wrap64 (t223 * 4)) - 500))) := (blk_cell BK226.out 1).trans rfl
                              have hcz84_2 : wc.cell? ⟨gb226, 2, none⟩ = some (.int .i64 (wrap64 (t224 * 3))) := (blk_cell BK226.out 2).trans rfl
                              have hcz84_3 : wc.cell? ⟨gb226, 3, none⟩ = some (.int .i64 (wrap64 ((wrap64 (t225 * 4)) - 400))) := (blk_cell BK226.out 3).trans rfl
                              have hfz84_0 := blk_frozen BK226.out 0
                              have hfz84_1 := blk_frozen BK226.out 1
                              have hfz84_2 := blk_frozen BK226.out 2
                              have hfz84_3 := blk_frozen BK226.out 3
                              have hnb85 := NB220_221.out
                              have hnc85 := NB221_220.out
                              have hcz86_0 : wc.cell? ⟨gb220, 0, none⟩ = some (.slice Ao12 t210.length co12) := (blk_cell BK220.out 0).trans rfl
                              have hcz86_1 : wc.cell? ⟨gb220, 1, none⟩ = some (.slice Ao15 t213.length co15) := (blk_cell BK220.out 1).trans rfl
                              have hfz86_0 := blk_frozen BK220.out 0
                              have hfz86_1 := blk_frozen BK220.out 1
                              have hcz87_0 : wc.cell? ⟨gb221, 0, none⟩ = some (.int .i64 t216) := (blk_cell BK221.out 0).trans rfl
                              have hcz87_1 : wc.cell? ⟨gb221, 1, none⟩ = some (.int .i64 t217) := (blk_cell BK221.out 1).trans rfl
                              have hcz87_2 : wc.cell? ⟨gb221, 2, none⟩ = some (.int .i64 t218) := (blk_cell BK221.out 2).trans rfl
                              have hfz87_0 := blk_frozen BK221.out 0
                              have hfz87_1 := blk_frozen BK221.out 1
                              have hfz87_2 := blk_frozen BK221.out 2
                              go_wp2_with (first | ((with_reducible refine gate_callee (f := 24) rfl ?_); refine goesL_ (some 108) rfl rfl Try.func24 (by kernel_rfl) rfl #[.int .i64 x7_1, .agg #[.slice Ao12 t210.length co12, .slice Ao15 t213.length co15], .agg #[.int .i64 (wrap64 (x227000_1 + 1)), .int .i64 (wrap64 ((wrap64 (t223 * 4)) - 500)), .int .i64 (wrap64 (t224 * 3)), .int .i64 (wrap64 ((wrap64 (t225 * 4)) - 400))], .agg #[.int .i64 t216, .int .i64 t217, .int .i64 t218], .int .i64 t219] rfl (by (try simp only [List.map_toArray, List.map_cons, List.map_nil]); first | done | rfl | (simp only [List.length_drop, List.length_take]; rfl)) ?_; (with_reducible refine (impl_Law.calls kj39 x7_1 _ _ t210 _ _ t213 (wrap64 (x227000_1 + 1)) (wrap64 ((wrap64 (t223 * 4)) - 500)) (wrap64 (t224 * 3)) (wrap64 ((wrap64 (t225 * 4)) - 400)) t216 t217 t218 t219 t230 t231 _ ?side1 ?side2 ?side3 ?side4 A63.out).mono ?_); (case side1 => refine (Kd.R_reads' (e := 3) (base := w.heap.size) (ok := fun k_ => some k_ ≠ (.slice Ao15 t213.length co15 : Value).ownBlock) (n := t210.length) (c := co12) ?_).2.2; exact (by (with_reducible repeat (first | apply Kd.R_alloc | apply Kd.R_drewN | apply Kd.R_drew)); exact (Kd.R_mono (Kd.R_far (p := ⟨gb226, 0, none⟩) (Kd.R_types HO_221000.out BK226.out (by decide)) (fun _ hk => hk.2) (.int .i64 (wrap64 (x227000_1 + 1)))) (fun _ h_ => h_.1)))); (case side2 => exact (Kd.R_reads' HO_221000.out).2.1); (case side3 => refine (Kd.R_reads' (e := 3) (base := w.heap.size) (ok := fun k_ => some k_ ≠ (.slice Ao12 t210.length co12 : Value).ownBlock) (n := t213.length) (c := co15) ?_).2.2; exact (by (with_reducible repeat (first | apply Kd.R_alloc | apply Kd.R_drewN | apply Kd.R_drew)); exact (Kd.R_mono (Kd.R_far (p := ⟨gb226, 0, none⟩) (Kd.R_types HO_221001.out BK226.out (by decide)) (fun _ hk => hk.2) (.int .i64 (wrap64 (x227000_1 + 1)))) (fun _ h_ => h_.1)))); (case side4 => exact (Kd.R_reads' HO_221001.out).2.1); rintro e w88 ⟨rfl, hb⟩; refine ⟨_, rfl, ?_⟩; have n0_ := Aside0.mk (Kd.R_below (by (with_reducible repeat (first | apply Kd.R_alloc | apply Kd.R_drewN | apply Kd.R_drew)); exact (Kd.R_mono (Kd.R_far (p := ⟨gb226, 0, none⟩) (Kd.R_types HO_221000.out BK226.out (by decide)) (fun _ hk => hk.2) (.int .i64 (wrap64 (x227000_1 + 1)))) (fun _ h_ => h_.1))) hb); have n1_ := Aside0.mk (Kd.R_below (by (with_reducible repeat (first | apply Kd.R_alloc | apply Kd.R_drewN | apply Kd.R_drew)); exact (Kd.R_mono (Kd.R_far (p := ⟨gb226, 0, none⟩) (Kd.R_types HO_221001.out BK226.out (by decide)) (fun _ hk => hk.2) (.int .i64 (wrap64 (x227000_1 + 1)))) (fun _ h_ => h_.1))) hb); have n2_ := Aside0.mk (blk_below (g := gb220) (o := .cells #[.slice Ao12 t210.length co12, .slice Ao15 t213.length co15] 41 (0, 0)) (by (with_reducible repeat (first | refine blk_drewN ?_ _ | refine blk_drew ?_ | refine blk_alloc ?_ _)); refine blk_far ?_ NB220_226.out _; (with_reducible repeat (first | refine blk_drewN ?_ _ | refine blk_drew ?_ | refine blk_alloc ?_ _)); exact BK220.out) hb); have n3_ := Aside0.mk (blk_below (g := gb221) (o := .cells #[.int .i64 t216, .int .i64 t217, .int .i64 t218] 34 (0, 0)) (by (with_reducible repeat (first | refine blk_drewN ?_ _ | refine blk_drew ?_ | refine blk_alloc ?_ _)); refine blk_far ?_ NB221_226.out _; (with_reducible repeat (first | refine blk_drewN ?_ _ | refine blk_drew ?_ | refine blk_alloc ?_ _)); exact BK221.out) hb); have n4_ := Aside0.mk (blk_below (g := gb226) (o := .cells #[.int .i64 (wrap64 (x227000_1 + 1)), .int .i64 (wrap64 ((wrap64 (t223 * 4)) - 500)), .int .i64 (wrap64 (t224 * 3)), .int .i64 (wrap64 ((wrap64 (t225 * 4)) - 400))] 48 (0, 0)) (by (with_reducible repeat (first | refine blk_drewN ?_ _ | refine blk_drew ?_ | refine blk_alloc ?_ _)); refine blk_put (cs := #[.int .i64 x227000_1, .int .i64 (wrap64 ((wrap64 (t223 * 4)) - 500)), .int .i64 (wrap64 (t224 * 3)), .int .i64 (wrap64 ((wrap64 (t225 * 4)) - 400))]) ?_ 0 _ rfl; (with_reducible repeat (first | refine blk_drewN ?_ _ | refine blk_drew ?_ | refine blk_alloc ?_ _)); exact BK226.out) hb); have n5_ := Aside0.mk (below_step (by repeat (first | (with_reducible first | exact HB.out | apply below_alloc | apply pw_below_drewN | apply below_drew1 | refine below_set ?_ GE220.out | refine below_set ?_ GE221.out | refine below_set ?_ GE226.out) | exact HB.out)) hb); clear HO_221000; clear HO_221001; clear BK220; clear BK221; clear BK226; clear HB; have HO_221000 := n0_; have HO_221001 := n1_; have BK220 := n2_; have BK221 := n3_; have BK226 := n4_; have HB := n5_; clear n0_ n1_ n2_ n3_ n4_ n5_; (try clear hb); (try clear hb2); (try clear hk); (try clear hi); have hcz89_0 : w88.cell? ⟨gb226, 0, none⟩ = some (.int .i64 (wrap64 (x227000_1 + 1))) := (blk_cell BK226.out 0).trans rfl; have hcz89_1 : w88.cell? ⟨gb226, 1, none⟩ = some (.int .i64 (wrap64 ((wrap64 (t223 * 4)) - 500))) := (blk_cell BK226.out 1).trans rfl; have hcz89_2 : w88.cell? ⟨gb226, 2, none⟩ = some (.int .i64 (wrap64 (t224 * 3))) := (blk_cell BK226.out 2).trans rfl; have hcz89_3 : w88.cell? ⟨gb226, 3, none⟩ = some (.int .i64 (wrap64 ((wrap64 (t225 * 4)) - 400))) := (blk_cell BK226.out 3).trans rfl; have hfz89_0 := blk_frozen BK226.out 0; have hfz89_1 := blk_frozen BK226.out 1; have hfz89_2 := blk_frozen BK226.out 2; have hfz89_3 := blk_frozen BK226.out 3))
                              go_ret
                              exact ⟨by first | rfl | (simp [errW_none, errW_some] <;> rfl) | (simp [*, errW_none, errW_some] <;> rfl), by repeat (first | (with_reducible first | exact HB.out | apply below_alloc | apply pw_below_drewN | apply below_drew1 | refine below_set ?_ GE220.out | refine below_set ?_ GE221.out | refine below_set ?_ GE226.out) | exact HB.out)⟩
                          · rw [if_neg c72] at H
                            have c72b0 : (t228 == 0) = false := beq_eq_false_iff_ne.mpr c72
                            have c72b1 : (t228 != 0) = true := bne_iff_ne.mpr c72
                            have H' := Aside0.mk H
                            clear H
                            have hnb90 := NB226_220.out
                            have hnc90 := NB220_226.out
                            have hnb91 := NB226_221.out
                            have hnc91 := NB221_226.out
                            have hcz92_0 : wc.cell? ⟨gb226, 0, none⟩ = some (.int .i64 x227000_1) := (blk_cell BK226.out 0).trans rfl
                            have hcz92_1 : wc.cell? ⟨gb226, 1, none⟩ = some (.int .i64 (wrap64 ((wrap64 (t223 * 4)) - 500))) := (blk_cell BK226.out 1).trans rfl
                            have hcz92_2 : wc.cell? ⟨gb226, 2, none⟩ = some (.int .i64 (wrap64 (t224 * 3))) := (blk_cell BK226.out 2).trans rfl
                            have hcz92_3 : wc.cell? ⟨gb226, 3, none⟩ = some (.int .i64 (wrap64 ((wrap64 (t225 * 4)) - 400))) := (blk_cell BK226.out 3).trans rfl
                            have hfz92_0 := blk_frozen BK226.out 0
                            have hfz92_1 := blk_frozen BK226.out 1
                            have hfz92_2 := blk_frozen BK226.out 2
                            have hfz92_3 := blk_frozen BK226.out 3
                            have hnb93 := NB220_221.out
                            have hnc93 := NB221_220.out
                            have hcz94_0 : wc.cell? ⟨gb220, 0, none⟩ = some (.slice Ao12 t210.length co12) := (blk_cell BK220.out 0).trans rfl
                            have hcz94_1 : wc.cell? ⟨gb220, 1, none⟩ = some (.slice Ao15 t213.length co15) := (blk_cell BK220.out 1).trans rfl
                            have hfz94_0 := blk_frozen BK220.out 0
                            have hfz94_1 := blk_frozen BK220.out 1
                            have hcz95_0 : wc.cell? ⟨gb221, 0, none⟩ = some (.int .i64 t216) := (blk_cell BK221.out 0).trans rfl
                            have hcz95_1 : wc.cell? ⟨gb221, 1, none⟩ = some (.int .i64 t217) := (blk_cell BK221.out 1).trans rfl
                            have hcz95_2 : wc.cell? ⟨gb221, 2, none⟩ = some (.int .i64 t218) := (blk_cell BK221.out 2).trans rfl
                            have hfz95_0 := blk_frozen BK221.out 0
                            have hfz95_1 := blk_frozen BK221.out 1
                            have hfz95_2 := blk_frozen BK221.out 2
                            go_wp2_with (first | ((with_reducible refine gate_callee (f := 24) rfl ?_); refine goesL_ (some 108) rfl rfl Try.func24 (by kernel_rfl) rfl #[.int .i64 x7_1, .agg #[.slice Ao12 t210.length co12, .slice Ao15 t213.length co15], .agg #[.int .i64 (wrap64 (x227000_1 + 1)), .int .i64 (wrap64 ((wrap64 (t223 * 4)) - 500)), .int .i64 (wrap64 (t224 * 3)), .int .i64 (wrap64 ((wrap64 (t225 * 4)) - 400))], .agg #[.int .i64 t216, .int .i64 t217, .int .i64 t218], .int .i64 t219] rfl (by (try simp only [List.map_toArray, List.map_cons, List.map_nil]); first | done | rfl | (simp only [List.length_drop, List.length_take]; rfl)) ?_; (with_reducible refine (impl_Law.calls kj39 x7_1 _ _ t210 _ _ t213 (wrap64 (x227000_1 + 1)) (wrap64 ((wrap64 (t223 * 4)) - 500)) (wrap64 (t224 * 3)) (wrap64 ((wrap64 (t225 * 4)) - 400)) t216 t217 t218 t219 t230 t231 _ ?side1 ?side2 ?side3 ?side4 A63.out).mono ?_); (case side1 => refine (Kd.R_reads' (e := 3) (base := w.heap.size) (ok := fun k_ => some k_ ≠ (.slice Ao15 t213.length co15 : Value).ownBlock) (n := t210.length) (c := co12) ?_).2.2; exact (by (with_reducible repeat (first | apply Kd.R_alloc | apply Kd.R_drewN | apply Kd.R_drew)); exact (Kd.R_mono (Kd.R_far (p := ⟨gb226, 0, none⟩) (Kd.R_types HO_221000.out BK226.out (by decide)) (fun _ hk => hk.2) (.int .i64 (wrap64 (x227000_1 + 1)))) (fun _ h_ => h_.1)))); (case side2 => exact (Kd.R_reads' HO_221000.out).2.1); (case side3 => refine (Kd.R_reads' (e := 3) (base := w.heap.size) (ok := fun k_ => some k_ ≠ (.slice Ao12 t210.length co12 : Value).ownBlock) (n := t213.length) (c := co15) ?_).2.2; exact (by (with_reducible repeat (first | apply Kd.R_alloc | apply Kd.R_drewN | apply Kd.R_drew)); exact (Kd.R_mono (Kd.R_far (p := ⟨gb226, 0, none⟩) (Kd.R_types HO_221001.out BK226.out (by decide)) (fun _ hk => hk.2) (.int .i64 (wrap64 (x227000_1 + 1)))) (fun _ h_ => h_.1)))); (case side4 => exact (Kd.R_reads' HO_221001.out).2.1); rintro e w96 ⟨rfl, hb⟩; refine ⟨_, rfl, ?_⟩; have n0_ := Aside0.mk (Kd.R_below (by (with_reducible repeat (first | apply Kd.R_alloc | apply Kd.R_drewN | apply Kd.R_drew)); exact (Kd.R_mono (Kd.R_far (p := ⟨gb226, 0, none⟩) (Kd.R_types HO_221000.out BK226.out (by decide)) (fun _ hk => hk.2) (.int .i64 (wrap64 (x227000_1 + 1)))) (fun _ h_ => h_.1))) hb); have n1_ := Aside0.mk (Kd.R_below (by (with_reducible repeat (first | apply Kd.R_alloc | apply Kd.R_drewN | apply Kd.R_drew)); exact (Kd.R_mono (Kd.R_far (p := ⟨gb226, 0, none⟩) (Kd.R_types HO_221001.out BK226.out (by decide)) (fun _ hk => hk.2) (.int .i64 (wrap64 (x227000_1 + 1)))) (fun _ h_ => h_.1))) hb); have n2_ := Aside0.mk (blk_below (g := gb220) (o := .cells #[.slice Ao12 t210.length co12, .slice Ao15 t213.length co15] 41 (0, 0)) (by (with_reducible repeat (first | refine blk_drewN ?_ _ | refine blk_drew ?_ | refine blk_alloc ?_ _)); refine blk_far ?_ NB220_226.out _; (with_reducible repeat (first | refine blk_drewN ?_ _ | refine blk_drew ?_ | refine blk_alloc ?_ _)); exact BK220.out) hb); have n3_ := Aside0.mk (blk_below (g := gb221) (o := .cells #[.int .i64 t216, .int .i64 t217, .int .i64 t218] 34 (0, 0)) (by (with_reducible repeat (first | refine blk_drewN ?_ _ | refine blk_drew ?_ | refine blk_alloc ?_ _)); refine blk_far ?_ NB221_226.out _; (with_reducible repeat (first | refine blk_drewN ?_ _ | refine blk_drew ?_ | refine blk_alloc ?_ _)); exact BK221.out) hb); have n4_ := Aside0.mk (blk_below (g := gb226) (o := .cells #[.int .i64 (wrap64 (x227000_1 + 1)), .int .i64 (wrap64 ((wrap64 (t223 * 4)) - 500)), .int .i64 (wrap64 (t224 * 3)), .int .i64 (wrap64 ((wrap64 (t225 * 4)) - 400))] 48 (0, 0)) (by (with_reducible repeat (first | refine blk_drewN ?_ _ | refine blk_drew ?_ | refine blk_alloc ?_ _)); refine blk_put (cs := #[.int .i64 x227000_1, .int .i64 (wrap64 ((wrap64 (t223 * 4)) - 500)), .int .i64 (wrap64 (t224 * 3)), .int .i64 (wrap64 ((wrap64 (t225 * 4)) - 400))]) ?_ 0 _ rfl; (with_reducible repeat (first | refine blk_drewN ?_ _ | refine blk_drew ?_ | refine blk_alloc ?_ _)); exact BK226.out) hb); have n5_ := Aside0.mk (below_step (by repeat (first | (with_reducible first | exact HB.out | apply below_alloc | apply pw_below_drewN | apply below_drew1 | refine below_set ?_ GE220.out | refine below_set ?_ GE221.out | refine below_set ?_ GE226.out) | exact HB.out)) hb); clear HO_221000; clear HO_221001; clear BK220; clear BK221; clear BK226; clear HB; have HO_221000 := n0_; have HO_221001 := n1_; have BK220 := n2_; have BK221 := n3_; have BK226 := n4_; have HB := n5_; clear n0_ n1_ n2_ n3_ n4_ n5_; (try clear hb); (try clear hb2); (try clear hk); (try clear hi)))
                            go_roundg kj39
                            case measure => have := HK1.out; have := HJ22.out; have := HJ39.out; omega
                            case rel => exact ⟨(wrap64 (x7_1 + 1)), (wrap64 (x227000_1 + 1)), (by first | rfl | (simp; done) | (simp [*]; done)), H', ⟨by have := HK1.out; have := HJ22.out; have := HJ39.out; omega⟩, ⟨by (with_reducible repeat (first | apply Kd.R_alloc | apply Kd.R_drewN | apply Kd.R_drew)); exact HO_221000.out⟩, ⟨by (with_reducible repeat (first | apply Kd.R_alloc | apply Kd.R_drewN | apply Kd.R_drew)); exact HO_221001.out⟩, ⟨by (with_reducible repeat (first | refine blk_drewN ?_ _ | refine blk_drew ?_ | refine blk_alloc ?_ _)); exact BK220.out⟩, ⟨by (with_reducible repeat (first | refine blk_drewN ?_ _ | refine blk_drew ?_ | refine blk_alloc ?_ _)); exact BK221.out⟩, ⟨by (with_reducible repeat (first | refine blk_drewN ?_ _ | refine blk_drew ?_ | refine blk_alloc ?_ _)); exact BK226.out⟩, ⟨by repeat (first | (with_reducible first | exact HB.out | apply below_alloc | apply pw_below_drewN | apply below_drew1 | refine below_set ?_ GE220.out | refine below_set ?_ GE221.out | refine below_set ?_ GE226.out) | exact HB.out)⟩⟩
                      · rw [if_neg c62] at H
                        have c62b0 : (x7_1 == 2) = false := beq_eq_false_iff_ne.mpr c62
                        have c62b1 : (x7_1 != 2) = true := bne_iff_ne.mpr c62
                        have H' := Aside0.mk H
                        clear H
                        go_wp2
                        go_roundg kj39
                        case measure => have := HK1.out; have := HJ22.out; have := HJ39.out; omega
                        case rel => exact ⟨(wrap64 (x7_1 + 1)), (x227000_1), (by first | rfl | (simp; done) | (simp [*]; done)), H', ⟨by have := HK1.out; have := HJ22.out; have := HJ39.out; omega⟩, ⟨by (with_reducible repeat (first | apply Kd.R_alloc | apply Kd.R_drewN | apply Kd.R_drew)); exact HO_221000.out⟩, ⟨by (with_reducible repeat (first | apply Kd.R_alloc | apply Kd.R_drewN | apply Kd.R_drew)); exact HO_221001.out⟩, ⟨by (with_reducible repeat (first | refine blk_drewN ?_ _ | refine blk_drew ?_ | refine blk_alloc ?_ _)); exact BK220.out⟩, ⟨by (with_reducible repeat (first | refine blk_drewN ?_ _ | refine blk_drew ?_ | refine blk_alloc ?_ _)); exact BK221.out⟩, ⟨by (with_reducible repeat (first | refine blk_drewN ?_ _ | refine blk_drew ?_ | refine blk_alloc ?_ _)); exact BK226.out⟩, ⟨by repeat (first | (with_reducible first | exact HB.out | apply below_alloc | apply pw_below_drewN | apply below_drew1 | refine below_set ?_ GE220.out | refine below_set ?_ GE221.out | refine below_set ?_ GE226.out) | exact HB.out)⟩⟩
        · rw [if_neg c21] at H
          have c21b0 : decide (x7_1 ≤ 2) = false := decide_eq_false c21
          clear c21
          by_cases c97 : 0 < (t210.length : Int)
          · rw [if_pos c97] at H
            have c97b0 : decide (0 < (t210.length : Int)) = true := decide_eq_true c97
            have c97b1 : decide (0 < t210.length) = true := decide_eq_true (by omega)
            clear c97
            replace H := Option.bind_eq_some_iff.mp H
            obtain ⟨t233, A980, H⟩ := H
            replace H : ((impl_ModeOf.f k1 1 true 0).bind fun t234 => ((impl_GainOk.f k1 t210 t213).bind fun t235 => (if t235 = true then (if 0 < (t213.length : Int) then (if t233 = (rd t213 0) then (if t234 = 2 then ((impl_ModeOf.f k1 2 true 0).bind fun t237 => (if t237 = 0 then ((impl_ModeOf.f k1 3 false 0).bind fun t238 => (some (t238 == 1))) else (some false))) else (some false)) else (some false)) else (none)) else (some false)))) = some r := H
            have A98 := Aside0.mk A980
            clear A980
            replace H := Option.bind_eq_some_iff.mp H
            obtain ⟨t234, A990, H⟩ := H
            replace H : ((impl_GainOk.f k1 t210 t213).bind fun t235 => (if t235 = true then (if 0 < (t213.length : Int) then (if t233 = (rd t213 0) then (if t234 = 2 then ((impl_ModeOf.f k1 2 true 0).bind fun t237 => (if t237 = 0 then ((impl_ModeOf.f k1 3 false 0).bind fun t238 => (some (t238 == 1))) else (some false))) else (some false)) else (some false)) else (none)) else (some false))) = some r := H
            have A99 := Aside0.mk A990
            clear A990
            replace H := Option.bind_eq_some_iff.mp H
            obtain ⟨t235, A1000, H⟩ := H
            replace H : (if t235 = true then (if 0 < (t213.length : Int) then (if t233 = (rd t213 0) then (if t234 = 2 then ((impl_ModeOf.f k1 2 true 0).bind fun t237 => (if t237 = 0 then ((impl_ModeOf.f k1 3 false 0).bind fun t238 => (some (t238 == 1))) else (some false))) else (some false)) else (some false)) else (none)) else (some false)) = some r := H
            have A100 := Aside0.mk A1000
            clear A1000
            by_cases c101 : t235 = true
            · subst c101
              have H1 : (if 0 < (t213.length : Int) then (if t233 = (rd t213 0) then (if t234 = 2 then ((impl_ModeOf.f k1 2 true 0).bind fun t237 => (if t237 = 0 then ((impl_ModeOf.f k1 3 false 0).bind fun t238 => (some (t238 == 1))) else (some false))) else (some false)) else (some false)) else (none)) = some r := by rw [if_pos rfl] at H; exact H
              clear H
              have H := H1
              clear H1
              by_cases c102 : 0 < (t213.length : Int)
              · rw [if_pos c102] at H
                have c102b0 : decide (0 < (t213.length : Int)) = true := decide_eq_true c102
                have c102b1 : decide (0 < t213.length) = true := decide_eq_true (by omega)
                clear c102
                by_cases c103 : t233 = (rd t213 0)
                · rw [if_pos c103] at H
                  have c103b0 : (t233 == (rd t213 0)) = true := beq_iff_eq.mpr c103
                  have c103b1 : (t233 != (rd t213 0)) = false := bne_eq_false_iff_eq.mpr c103
                  clear c103
                  by_cases c104 : t234 = 2
                  · rw [if_pos c104] at H
                    have c104b0 : (t234 == 2) = true := beq_iff_eq.mpr c104
                    have c104b1 : (t234 != 2) = false := bne_eq_false_iff_eq.mpr c104
                    clear c104
                    replace H := Option.bind_eq_some_iff.mp H
                    obtain ⟨t237, A1050, H⟩ := H
                    replace H : (if t237 = 0 then ((impl_ModeOf.f k1 3 false 0).bind fun t238 => (some (t238 == 1))) else (some false)) = some r := H
                    have A105 := Aside0.mk A1050
                    clear A1050
                    by_cases c106 : t237 = 0
                    · rw [if_pos c106] at H
                      have c106b0 : (t237 == 0) = true := beq_iff_eq.mpr c106
                      have c106b1 : (t237 != 0) = false := bne_eq_false_iff_eq.mpr c106
                      clear c106
                      replace H := Option.bind_eq_some_iff.mp H
                      obtain ⟨t238, A1070, H⟩ := H
                      replace H : (some (t238 == 1)) = some r := H
                      have A107 := Aside0.mk A1070
                      clear A1070
                      obtain rfl := Option.some.inj H
                      try go_wp2
                      have n0_ := Aside0.mk (Kd.R_drew HO_221000.out)
                      have n1_ := Aside0.mk (Kd.R_drew HO_221001.out)
                      have n2_ := Aside0.mk (blk_drew BK220.out)
                      have n3_ := Aside0.mk (blk_drew BK221.out)
                      have n4_ := Aside0.mk (blk_drew BK226.out)
                      have n5_ := Aside0.mk (below_drew1 HB.out)
                      clear HO_221000
                      clear HO_221001
                      clear BK220
                      clear BK221
                      clear BK226
                      clear HB
                      have HO_221000 := n0_
                      have HO_221001 := n1_
                      have BK220 := n2_
                      have BK221 := n3_
                      have BK226 := n4_
                      have HB := n5_
                      clear n0_ n1_ n2_ n3_ n4_ n5_
                      have p232 : 0 ≤ (0 : Int) := (by omega)
                      have q232 : 0 < (t210.length : Int) := of_decide_eq_true (by first | (with_reducible assumption) | assumption)
                      obtain ⟨ad232, e232, hx232_0⟩ := Kd.at_int (Kd.R_reads' HO_221000.out).2.2 0 p232 q232
                      cases e232
                      have qi232 : (0 < t210.length) = True := eq_true (by omega)
                      (try rw [show ((0 : Int)).toNat = 0 from rfl] at hx232_0)
                      (try rw [Addr.add_zero'] at hx232_0)
                      replace p232 := eq_true p232
                      replace q232 := eq_true q232
                      refine start_ (n := 7) (S := fun w' => w'.cell? ⟨gb220, 0, none⟩ = some (.slice (some ad232) t210.length co12) ∧ w'.cell? ⟨gb220, 1, none⟩ = some (.slice Ao15 t213.length co15) ∧ w'.cell? ad232 = some (.int .i64 (rd t210 0))) (ds := []) #[false, false, false, false, false, false, false] (by kernel_rfl) rfl rfl ⟨(blk_cell BK220.out 0).trans rfl, (blk_cell BK220.out 1).trans rfl, hx232_0⟩ (fun hHeld => ?_)
                      generalize wr.drew = w108 at HO_221000 HO_221001 BK220 BK221 BK226 HB hx232_0 hHeld ⊢
                      refine pure_ (i := 1) (N := some 127) (v := ?_) (a' := ?_) #[false, true, false, false, false, false, false] rfl rfl (by kernel_rfl) (fun _ _ _ h => h) (Or.inl ⟨by rfl, ?_⟩) ?_ ?_
                      rotate_left
                      · intro w'
                        go_simp
                        with_reducible rfl
                      rotate_left
                      · simp only [Act.put, List.setIfInBounds_toArray, List.set_cons_zero, List.set_cons_succ, i64_w, i32_w]
                        rfl
                      refine take_ (i := 0) (N := some 126) (v := ?_) (a' := ?_) #[true, true, false, false, false, false, false] rfl rfl (by kernel_rfl) (fun _ _ _ h => h) (Or.inl ⟨by rfl, ?_⟩) hHeld ?_ ?_
                      rotate_left
                      · rintro w' ⟨s0, s1, s2⟩
                        go_simp
                        with_reducible rfl
                      rotate_left
                      · simp only [Act.put, List.setIfInBounds_toArray, List.set_cons_zero, List.set_cons_succ, i64_w, i32_w]
                        rfl
                      refine take_ (i := 2) (N := some 128) (v := ?_) (a' := ?_) #[true, true, true, false, false, false, false] rfl rfl (by kernel_rfl) (fun _ _ _ h => h) (Or.inl ⟨by rfl, ?_⟩) hHeld ?_ ?_
                      rotate_left
                      · rintro w' ⟨s0, s1, s2⟩
                        go_simp
                        with_reducible rfl
                      rotate_left
                      · simp only [Act.put, List.setIfInBounds_toArray, List.set_cons_zero, List.set_cons_succ, i64_w, i32_w]
                        rfl
                      refine pure_ (i := 3) (N := some 129) (v := ?_) (a' := ?_) #[true, true, true, true, false, false, false] rfl rfl (by kernel_rfl) (fun _ _ _ h => h) (Or.inl ⟨by rfl, ?_⟩) ?_ ?_
                      rotate_left
                      · intro w'
                        go_simp
                        with_reducible rfl
                      rotate_left
                      · simp only [Act.put, List.setIfInBounds_toArray, List.set_cons_zero, List.set_cons_succ, i64_w, i32_w]
                        rfl
                      refine take_ (i := 4) (N := some 130) (v := ?_) (a' := ?_) #[true, true, true, true, true, false, false] rfl rfl (by kernel_rfl) (fun _ _ _ h => h) (Or.inl ⟨by rfl, ?_⟩) hHeld ?_ ?_
                      rotate_left
                      · rintro w' ⟨s0, s1, s2⟩
                        go_simp
                        with_reducible rfl
                      rotate_left
                      · simp only [Act.put, List.setIfInBounds_toArray, List.set_cons_zero, List.set_cons_succ, i64_w, i32_w]
                        rfl
                      refine one_ (i := 5) (N := some 131) #[true, true, true, true, true, true, false] rfl rfl (by kernel_rfl) (by decide) (fun K hK => ?_)
                      refine goes_ Try.func26 (by kernel_rfl) rfl #[.agg #[.slice (some ad232) t210.length co12, .slice Ao15 t213.length co15], .int .i64 (rd t210 0)] (by rfl) rfl rfl (by (try simp only [List.map_toArray, List.map_cons, List.map_nil]); first | done | rfl | (simp only [List.length_drop, List.length_take]; rfl)) ?_
                      with_reducible refine (impl_GainAt.calls k1 _ _ t210 _ _ t213 (rd t210 0) t233 _ ?side1 ?side2 ?side3 ?side4 A98.out).mono ?_
                      (case side1 => repeat (first | exact (Kd.R_reads' HO_221000.out).2.2 | (with_reducible refine Kd.C_alloc ?_ _) | (with_reducible refine Kd.C_drewN ?_ _) | (with_reducible refine Kd.C_drew ?_)))
                      (case side2 => exact (Kd.R_reads' HO_221000.out).2.1)
                      (case side3 => repeat (first | exact (Kd.R_reads' HO_221001.out).2.2 | (with_reducible refine Kd.C_alloc ?_ _) | (with_reducible refine Kd.C_drewN ?_ _) | (with_reducible refine Kd.C_drew ?_)))
                      (case side4 => exact (Kd.R_reads' HO_221001.out).2.1)
                      rintro e w109 ⟨rfl, hb⟩
                      have HS2_ := (hb.cell (World.block_lt_of_cell? _ _ (hHeld.2.2))).trans (hHeld.2.2)
                      refine ⟨_, rfl, ?_⟩
                      have n0_ := Aside0.mk (Kd.R_below (by (with_reducible repeat (first | apply Kd.R_alloc | apply Kd.R_drewN | apply Kd.R_drew)); exact HO_221000.out) hb)
                      have n1_ := Aside0.mk (Kd.R_below (by (with_reducible repeat (first | apply Kd.R_alloc | apply Kd.R_drewN | apply Kd.R_drew)); exact HO_221001.out) hb)
                      have n2_ := Aside0.mk (blk_below (g := gb220) (o := .cells #[.slice (some ad232) t210.length co12, .slice Ao15 t213.length co15] 41 (0, 0)) (by (with_reducible repeat (first | refine blk_drewN ?_ _ | refine blk_drew ?_ | refine blk_alloc ?_ _)); exact BK220.out) hb)
                      have n3_ := Aside0.mk (blk_below (g := gb221) (o := .cells #[.int .i64 t216, .int .i64 t217, .int .i64 t218] 34 (0, 0)) (by (with_reducible repeat (first | refine blk_drewN ?_ _ | refine blk_drew ?_ | refine blk_alloc ?_ _)); exact BK221.out) hb)
                      have n4_ := Aside0.mk (blk_below (g := gb226) (o := .cells #[.int .i64 x227000_1, .int .i64 (wrap64 ((wrap64 (t223 * 4)) - 500)), .int .i64 (wrap64 (t224 * 3)), .int .i64 (wrap64 ((wrap64 (t225 * 4)) - 400))] 48 (0, 0)) (by (with_reducible repeat (first | refine blk_drewN ?_ _ | refine blk_drew ?_ | refine blk_alloc ?_ _)); exact BK226.out) hb)
                      have n5_ := Aside0.mk (below_step (by repeat (first | (with_reducible first | exact HB.out | apply below_alloc | apply pw_below_drewN | apply below_drew1 | refine below_set ?_ GE220.out | refine below_set ?_ GE221.out | refine below_set ?_ GE226.out) | exact HB.out)) hb)
                      clear HO_221000
                      clear HO_221001
                      clear BK220
                      clear BK221
                      clear BK226
                      clear HB
                      have HO_221000 := n0_
                      have HO_221001 := n1_
                      have BK220 := n2_
                      have BK221 := n3_
                      have BK226 := n4_
                      have HB := n5_
                      clear n0_ n1_ n2_ n3_ n4_ n5_
                      (try clear hb)
                      (try clear hb2)
                      (try clear hk)
                      (try clear hi)
                      refine hK.out _ _ ⟨(blk_cell BK220.out 0).trans rfl, (blk_cell BK220.out 1).trans rfl, HS2_⟩ (fun hHeld => ?_)
                      clear hK K
                      refine norm_ (a' := ?_) ?_ ?_
                      rotate_left
                      · show Act.put _ (some 131) _ = _
                        simp only [Act.put, List.setIfInBounds_toArray, List.set_cons_zero, List.set_cons_succ, i64_w, i32_w]
                        rfl
                      refine pure_ (i := 6) (N := some 12) (v := ?_) (a' := ?_) #[true, true, true, true, true, true, true] rfl rfl (by kernel_rfl) (fun _ _ _ h => h) (Or.inl ⟨by rfl, ?_⟩) ?_ ?_
                      rotate_left
                      · intro w'
                        go_simp
                        with_reducible rfl
                      rotate_left
                      · simp only [Act.put, List.setIfInBounds_toArray, List.set_cons_zero, List.set_cons_succ, i64_w, i32_w]
                        rfl
                      refine done_ (by kernel_rfl) ?_
                      try go_wp2_with (first | ((with_reducible refine gate_callee (f := 12) rfl ?_); refine goesL_ (some 132) rfl rfl Try.func12 (by kernel_rfl) rfl #[.int .i64 1, .bool true, .int .i64 0] rfl (by (try simp only [List.map_toArray, List.map_cons, List.map_nil]); first | done | rfl | (simp only [List.length_drop, List.length_take]; rfl)) ?_; (with_reducible refine (impl_ModeOf.calls k1 1 true 0 t234 _ A99.out).mono ?_); rintro e w' ⟨rfl, ⟨nd, rfl⟩⟩; refine ⟨_, rfl, ?_⟩; have hnb110 := NB220_221.out; have hnc110 := NB221_220.out; have hnb111 := NB220_226.out; have hnc111 := NB226_220.out; have hcz112_0 : w109.cell? ⟨gb220, 0, none⟩ = some (.slice (some ad232) t210.length co12) := (blk_cell BK220.out 0).trans rfl; have hcz112_1 : w109.cell? ⟨gb220, 1, none⟩ = some (.slice Ao15 t213.length co15) := (blk_cell BK220.out 1).trans rfl; have hfz112_0 := blk_frozen BK220.out 0; have hfz112_1 := blk_frozen BK220.out 1) | ((with_reducible refine gate_callee (f := 21) rfl ?_); refine goesL_ (some 134) rfl rfl Try.func21 (by kernel_rfl) rfl #[.agg #[.slice (some ad232) t210.length co12, .slice Ao15 t213.length co15]] rfl (by (try simp only [List.map_toArray, List.map_cons, List.map_nil]); first | done | rfl | (simp only [List.length_drop, List.length_take]; rfl)) ?_; (with_reducible refine (impl_GainOk.calls k1 _ _ t210 _ _ t213 true _ ?side1 ?side2 ?side3 ?side4 A100.out).mono ?_); (case side1 => repeat (first | exact (Kd.R_reads' HO_221000.out).2.2 | (with_reducible refine Kd.C_alloc ?_ _) | (with_reducible refine Kd.C_drewN ?_ _) | (with_reducible refine Kd.C_drew ?_))); (case side2 => exact (Kd.R_reads' HO_221000.out).2.1); (case side3 => repeat (first | exact (Kd.R_reads' HO_221001.out).2.2 | (with_reducible refine Kd.C_alloc ?_ _) | (with_reducible refine Kd.C_drewN ?_ _) | (with_reducible refine Kd.C_drew ?_))); (case side4 => exact (Kd.R_reads' HO_221001.out).2.1); rintro e w113 ⟨rfl, hb⟩; refine ⟨_, rfl, ?_⟩; have n0_ := Aside0.mk (Kd.R_below (by (with_reducible repeat (first | apply Kd.R_alloc | apply Kd.R_drewN | apply Kd.R_drew)); exact HO_221000.out) hb); have n1_ := Aside0.mk (Kd.R_below (by (with_reducible repeat (first | apply Kd.R_alloc | apply Kd.R_drewN | apply Kd.R_drew)); exact HO_221001.out) hb); have n2_ := Aside0.mk (blk_below (g := gb220) (o := .cells #[.slice (some ad232) t210.length co12, .slice Ao15 t213.length co15] 41 (0, 0)) (by (with_reducible repeat (first | refine blk_drewN ?_ _ | refine blk_drew ?_ | refine blk_alloc ?_ _)); exact BK220.out) hb); have n3_ := Aside0.mk (blk_below (g := gb221) (o := .cells #[.int .i64 t216, .int .i64 t217, .int .i64 t218] 34 (0, 0)) (by (with_reducible repeat (first | refine blk_drewN ?_ _ | refine blk_drew ?_ | refine blk_alloc ?_ _)); exact BK221.out) hb); have n4_ := Aside0.mk (blk_below (g := gb226) (o := .cells #[.int .i64 x227000_1, .int .i64 (wrap64 ((wrap64 (t223 * 4)) - 500)), .int .i64 (wrap64 (t224 * 3)), .int .i64 (wrap64 ((wrap64 (t225 * 4)) - 400))] 48 (0, 0)) (by (with_reducible repeat (first | refine blk_drewN ?_ _ | refine blk_drew ?_ | refine blk_alloc ?_ _)); exact BK226.out) hb); have n5_ := Aside0.mk (below_step (by repeat (first | (with_reducible first | exact HB.out | apply below_alloc | apply pw_below_drewN | apply below_drew1 | refine below_set ?_ GE220.out | refine below_set ?_ GE221.out | refine below_set ?_ GE226.out) | exact HB.out)) hb); clear HO_221000; clear HO_221001; clear BK220; clear BK221; clear BK226; clear HB; have HO_221000 := n0_; have HO_221001 := n1_; have BK220 := n2_; have BK221 := n3_; have BK226 := n4_; have HB := n5_; clear n0_ n1_ n2_ n3_ n4_ n5_; (try clear hb); (try clear hb2); (try clear hk); (try clear hi); have hcz114_0 : w113.cell? ⟨gb220, 0, none⟩ = some (.slice (some ad232) t210.length co12) := (blk_cell BK220.out 0).trans rfl; have hcz114_1 : w113.cell? ⟨gb220, 1, none⟩ = some (.slice Ao15 t213.length co15) := (blk_cell BK220.out 1).trans rfl; have hfz114_0 := blk_frozen BK220.out 0; have hfz114_1 := blk_frozen BK220.out 1; have p236 : 0 ≤ (0 : Int) := (by omega); have q236 : 0 < (t213.length : Int) := of_decide_eq_true (by first | (with_reducible assumption) | assumption); obtain ⟨ad236, e236, hx236_0⟩ := Kd.at_int (Kd.R_reads' HO_221001.out).2.2 0 p236 q236; cases e236; have qi236 : (0 < t213.length) = True := eq_true (by omega); (try rw [show ((0 : Int)).toNat = 0 from rfl] at hx236_0); (try rw [Addr.add_zero'] at hx236_0); replace p236 := eq_true p236; replace q236 := eq_true q236) | (go_at_call 12; (with_reducible refine (impl_ModeOf.calls k1 2 true 0 t237 _ A105.out).mono ?_); rintro e w' ⟨rfl, ⟨nd, rfl⟩⟩) | (go_at_call 12; (with_reducible refine (impl_ModeOf.calls k1 3 false 0 t238 _ A107.out).mono ?_); rintro e w' ⟨rfl, ⟨nd, rfl⟩⟩))
                      go_ret
                      exact ⟨by first | rfl | (simp [errW_none, errW_some] <;> rfl) | (simp [*, errW_none, errW_some] <;> rfl), by repeat (first | (with_reducible first | exact HB.out | apply below_alloc | apply pw_below_drewN | apply below_drew1 | refine below_set ?_ GE220.out | refine below_set ?_ GE221.out | refine below_set ?_ GE226.out) | exact HB.out)⟩
                    · rw [if_neg c106] at H
                      have c106b0 : (t237 == 0) = false := beq_eq_false_iff_ne.mpr c106
                      have c106b1 : (t237 != 0) = true := bne_iff_ne.mpr c106
                      obtain rfl := Option.some.inj H
                      try go_wp2
                      have n0_ := Aside0.mk (Kd.R_drew HO_221000.out)
                      have n1_ := Aside0.mk (Kd.R_drew HO_221001.out)
                      have n2_ := Aside0.mk (blk_drew BK220.out)
                      have n3_ := Aside0.mk (blk_drew BK221.out)
                      have n4_ := Aside0.mk (blk_drew BK226.out)
                      have n5_ := Aside0.mk (below_drew1 HB.out)
                      clear HO_221000
                      clear HO_221001
                      clear BK220
                      clear BK221
                      clear BK226
                      clear HB
                      have HO_221000 := n0_
                      have HO_221001 := n1_
                      have BK220 := n2_
                      have BK221 := n3_
                      have BK226 := n4_
                      have HB := n5_
                      clear n0_ n1_ n2_ n3_ n4_ n5_
                      have p232 : 0 ≤ (0 : Int) := (by omega)
                      have q232 : 0 < (t210.length : Int) := of_decide_eq_true (by first | (with_reducible assumption) | assumption)
                      obtain ⟨ad232, e232, hx232_0⟩ := Kd.at_int (Kd.R_reads' HO_221000.out).2.2 0 p232 q232
                      cases e232
                      have qi232 : (0 < t210.length) = True := eq_true (by omega)
                      (try rw [show ((0 : Int)).toNat = 0 from rfl] at hx232_0)
                      (try rw [Addr.add_zero'] at hx232_0)
                      replace p232 := eq_true p232
                      replace q232 := eq_true q232
                      refine start_ (n := 7) (S := fun w' => w'.cell? ⟨gb220, 0, none⟩ = some (.slice (some ad232) t210.length co12) ∧ w'.cell? ⟨gb220, 1, none⟩ = some (.slice Ao15 t213.length co15) ∧ w'.cell? ad232 = some (.int .i64 (rd t210 0))) (ds := []) #[false, false, false, false, false, false, false] (by kernel_rfl) rfl rfl ⟨(blk_cell BK220.out 0).trans rfl, (blk_cell BK220.out 1).trans rfl, hx232_0⟩ (fun hHeld => ?_)
                      generalize wr.drew = w115 at HO_221000 HO_221001 BK220 BK221 BK226 HB hx232_0 hHeld ⊢
                      refine pure_ (i := 1) (N := some 127) (v := ?_) (a' := ?_) #[false, true, false, false, false, false, false] rfl rfl (by kernel_rfl) (fun _ _ _ h => h) (Or.inl ⟨by rfl, ?_⟩) ?_ ?_
                      rotate_left
                      · intro w'
                        go_simp
                        with_reducible rfl
                      rotate_left
                      · simp only [Act.put, List.setIfInBounds_toArray, List.set_cons_zero, List.set_cons_succ, i64_w, i32_w]
                        rfl
                      refine take_ (i := 0) (N := some 126) (v := ?_) (a' := ?_) #[true, true, false, false, false, false, false] rfl rfl (by kernel_rfl) (fun _ _ _ h => h) (Or.inl ⟨by rfl, ?_⟩) hHeld ?_ ?_
                      rotate_left
                      · rintro w' ⟨s0, s1, s2⟩
                        go_simp
                        with_reducible rfl
                      rotate_left
                      · simp only [Act.put, List.setIfInBounds_toArray, List.set_cons_zero, List.set_cons_succ, i64_w, i32_w]
                        rfl
                      refine take_ (i := 2) (N := some 128) (v := ?_) (a' := ?_) #[true, true, true, false, false, false, false] rfl rfl (by kernel_rfl) (fun _ _ _ h => h) (Or.inl ⟨by rfl, ?_⟩) hHeld ?_ ?_
                      rotate_left
                      · rintro w' ⟨s0, s1, s2⟩
                        go_simp
                        with_reducible rfl
                      rotate_left
                      · simp only [Act.put, List.setIfInBounds_toArray, List.set_cons_zero, List.set_cons_succ, i64_w, i32_w]
                        rfl
                      refine pure_ (i := 3) (N := some 129) (v := ?_) (a' := ?_) #[true, true, true, true, false, false, false] rfl rfl (by kernel_rfl) (fun _ _ _ h => h) (Or.inl ⟨by rfl, ?_⟩) ?_ ?_
                      rotate_left
                      · intro w'
                        go_simp
                        with_reducible rfl
                      rotate_left
                      · simp only [Act.put, List.setIfInBounds_toArray, List.set_cons_zero, List.set_cons_succ, i64_w, i32_w]
                        rfl
                      refine take_ (i := 4) (N := some 130) (v := ?_) (a' := ?_) #[true, true, true, true, true, false, false] rfl rfl (by kernel_rfl) (fun _ _ _ h => h) (Or.inl ⟨by rfl, ?_⟩) hHeld ?_ ?_
                      rotate_left
                      · rintro w' ⟨s0, s1, s2⟩
                        go_simp
                        with_reducible rfl
                      rotate_left
                      · simp only [Act.put, List.setIfInBounds_toArray, List.set_cons_zero, List.set_cons_succ, i64_w, i32_w]
                        rfl
                      refine one_ (i := 5) (N := some 131) #[true, true, true, true, true, true, false] rfl rfl (by kernel_rfl) (by decide) (fun K hK => ?_)
                      refine goes_ Try.func26 (by kernel_rfl) rfl #[.agg #[.slice (some ad232) t210.length co12, .slice Ao15 t213.length co15], .int .i64 (rd t210 0)] (by rfl) rfl rfl (by (try simp only [List.map_toArray, List.map_cons, List.map_nil]); first | done | rfl | (simp only [List.length_drop, List.length_take]; rfl)) ?_
                      with_reducible refine (impl_GainAt.calls k1 _ _ t210 _ _ t213 (rd t210 0) t233 _ ?side1 ?side2 ?side3 ?side4 A98.out).mono ?_
                      (case side1 => repeat (first | exact (Kd.R_reads' HO_221000.out).2.2 | (with_reducible refine Kd.C_alloc ?_ _) | (with_reducible refine Kd.C_drewN ?_ _) | (with_reducible refine Kd.C_drew ?_)))
                      (case side2 => exact (Kd.R_reads' HO_221000.out).2.1)
                      (case side3 => repeat (first | exact (Kd.R_reads' HO_221001.out).2.2 | (with_reducible refine Kd.C_alloc ?_ _) | (with_reducible refine Kd.C_drewN ?_ _) | (with_reducible refine Kd.C_drew ?_)))
                      (case side4 => exact (Kd.R_reads' HO_221001.out).2.1)
                      rintro e w116 ⟨rfl, hb⟩
                      have HS2_ := (hb.cell (World.block_lt_of_cell? _ _ (hHeld.2.2))).trans (hHeld.2.2)
                      refine ⟨_, rfl, ?_⟩
                      have n0_ := Aside0.mk (Kd.R_below (by (with_reducible repeat (first | apply Kd.R_alloc | apply Kd.R_drewN | apply Kd.R_drew)); exact HO_221000.out) hb)
                      have n1_ := Aside0.mk (Kd.R_below (by (with_reducible repeat (first | apply Kd.R_alloc | apply Kd.R_drewN | apply Kd.R_drew)); exact HO_221001.out) hb)
                      have n2_ := Aside0.mk (blk_below (g := gb220) (o := .cells #[.slice (some ad232) t210.length co12, .slice Ao15 t213.length co15] 41 (0, 0)) (by (with_reducible repeat (first | refine blk_drewN ?_ _ | refine blk_drew ?_ | refine blk_alloc ?_ _)); exact BK220.out) hb)
                      have n3_ := Aside0.mk (blk_below (g := gb221) (o := .cells #[.int .i64 t216, .int .i64 t217, .int .i64 t218] 34 (0, 0)) (by (with_reducible repeat (first | refine blk_drewN ?_ _ | refine blk_drew ?_ | refine blk_alloc ?_ _)); exact BK221.out) hb)
                      have n4_ := Aside0.mk (blk_below (g := gb226) (o := .cells #[.int .i64 x227000_1, .int .i64 (wrap64 ((wrap64 (t223 * 4)) - 500)), .int .i64 (wrap64 (t224 * 3)), .int .i64 (wrap64 ((wrap64 (t225 * 4)) - 400))] 48 (0, 0)) (by (with_reducible repeat (first | refine blk_drewN ?_ _ | refine blk_drew ?_ | refine blk_alloc ?_ _)); exact BK226.out) hb)
                      have n5_ := Aside0.mk (below_step (by repeat (first | (with_reducible first | exact HB.out | apply below_alloc | apply pw_below_drewN | apply below_drew1 | refine below_set ?_ GE220.out | refine below_set ?_ GE221.out | refine below_set ?_ GE226.out) | exact HB.out)) hb)
                      clear HO_221000
                      clear HO_221001
                      clear BK220
                      clear BK221
                      clear BK226
                      clear HB
                      have HO_221000 := n0_
                      have HO_221001 := n1_
                      have BK220 := n2_
                      have BK221 := n3_
                      have BK226 := n4_
                      have HB := n5_
                      clear n0_ n1_ n2_ n3_ n4_ n5_
                      (try clear hb)
                      (try clear hb2)
                      (try clear hk)
                      (try clear hi)
                      refine hK.out _ _ ⟨(blk_cell BK220.out 0).trans rfl, (blk_cell BK220.out 1).trans rfl, HS2_⟩ (fun hHeld => ?_)
                      clear hK K
                      refine norm_ (a' := ?_) ?_ ?_
                      rotate_left
                      · show Act.put _ (some 131) _ = _
                        simp only [Act.put, List.setIfInBounds_toArray, List.set_cons_zero, List.set_cons_succ, i64_w, i32_w]
                        rfl
                      refine pure_ (i := 6) (N := some 12) (v := ?_) (a' := ?_) #[true, true, true, true, true, true, true] rfl rfl (by kernel_rfl) (fun _ _ _ h => h) (Or.inl ⟨by rfl, ?_⟩) ?_ ?_
                      rotate_left
                      · intro w'
                        go_simp
                        with_reducible rfl
                      rotate_left
                      · simp only [Act.put, List.setIfInBounds_toArray, List.set_cons_zero, List.set_cons_succ, i64_w, i32_w]
                        rfl
                      refine done_ (by kernel_rfl) ?_
                      try go_wp2_with (first | ((with_reducible refine gate_callee (f := 12) rfl ?_); refine goesL_ (some 132) rfl rfl Try.func12 (by kernel_rfl) rfl #[.int .i64 1, .bool true, .int .i64 0] rfl (by (try simp only [List.map_toArray, List.map_cons, List.map_nil]); first | done | rfl | (simp only [List.length_drop, List.length_take]; rfl)) ?_; (with_reducible refine (impl_ModeOf.calls k1 1 true 0 t234 _ A99.out).mono ?_); rintro e w' ⟨rfl, ⟨nd, rfl⟩⟩; refine ⟨_, rfl, ?_⟩; have hnb117 := NB220_221.out; have hnc117 := NB221_220.out; have hnb118 := NB220_226.out; have hnc118 := NB226_220.out; have hcz119_0 : w116.cell? ⟨gb220, 0, none⟩ = some (.slice (some ad232) t210.length co12) := (blk_cell BK220.out 0).trans rfl; have hcz119_1 : w116.cell? ⟨gb220, 1, none⟩ = some (.slice Ao15 t213.length co15) := (blk_cell BK220.out 1).trans rfl; have hfz119_0 := blk_frozen BK220.out 0; have hfz119_1 := blk_frozen BK220.out 1) | ((with_reducible refine gate_callee (f := 21) rfl ?_); refine goesL_ (some 134) rfl rfl Try.func21 (by kernel_rfl) rfl #[.agg #[.slice (some ad232) t210.length co12, .slice Ao15 t213.length co15]] rfl (by (try simp only [List.map_toArray, List.map_cons, List.map_nil]); first | done | rfl | (simp only [List.length_drop, List.length_take]; rfl)) ?_; (with_reducible refine (impl_GainOk.calls k1 _ _ t210 _ _ t213 true _ ?side1 ?side2 ?side3 ?side4 A100.out).mono ?_); (case side1 => repeat (first | exact (Kd.R_reads' HO_221000.out).2.2 | (with_reducible refine Kd.C_alloc ?_ _) | (with_reducible refine Kd.C_drewN ?_ _) | (with_reducible refine Kd.C_drew ?_))); (case side2 => exact (Kd.R_reads' HO_221000.out).2.1); (case side3 => repeat (first | exact (Kd.R_reads' HO_221001.out).2.2 | (with_reducible refine Kd.C_alloc ?_ _) | (with_reducible refine Kd.C_drewN ?_ _) | (with_reducible refine Kd.C_drew ?_))); (case side4 => exact (Kd.R_reads' HO_221001.out).2.1); rintro e w120 ⟨rfl, hb⟩; refine ⟨_, rfl, ?_⟩; have n0_ := Aside0.mk (Kd.R_below (by (with_reducible repeat (first | apply Kd.R_alloc | apply Kd.R_drewN | apply Kd.R_drew)); exact HO_221000.out) hb); have n1_ := Aside0.mk (Kd.R_below (by (with_reducible repeat (first | apply Kd.R_alloc | apply Kd.R_drewN | apply Kd.R_drew)); exact HO_221001.out) hb); have n2_ := Aside0.mk (blk_below (g := gb220) (o := .cells #[.slice (some ad232) t210.length co12, .slice Ao15 t213.length co15] 41 (0, 0)) (by (with_reducible repeat (first | refine blk_drewN ?_ _ | refine blk_drew ?_ | refine blk_alloc ?_ _)); exact BK220.out) hb); have n3_ := Aside0.mk (blk_below (g := gb221) (o := .cells #[.int .i64 t216, .int .i64 t217, .int .i64 t218] 34 (0, 0)) (by (with_reducible repeat (first | refine blk_drewN ?_ _ | refine blk_drew ?_ | refine blk_alloc ?_ _)); exact BK221.out) hb); have n4_ := Aside0.mk (blk_below (g := gb226) (o := .cells #[.int .i64 x227000_1, .int .i64 (wrap64 ((wrap64 (t223 * 4)) - 500)), .int .i64 (wrap64 (t224 * 3)), .int .i64 (wrap64 ((wrap64 (t225 * 4)) - 400))] 48 (0, 0)) (by (with_reducible repeat (first | refine blk_drewN ?_ _ | refine blk_drew ?_ | refine blk_alloc ?_ _)); exact BK226.out) hb); have n5_ := Aside0.mk (below_step (by repeat (first | (with_reducible first | exact HB.out | apply below_alloc | apply pw_below_drewN | apply below_drew1 | refine below_set ?_ GE220.out | refine below_set ?_ GE221.out | refine below_set ?_ GE226.out) | exact HB.out)) hb); clear HO_221000; clear HO_221001; clear BK220; clear BK221; clear BK226; clear HB; have HO_221000 := n0_; have HO_221001 := n1_; have BK220 := n2_; have BK221 := n3_; have BK226 := n4_; have HB := n5_; clear n0_ n1_ n2_ n3_ n4_ n5_; (try clear hb); (try clear hb2); (try clear hk); (try clear hi); have hcz121_0 : w120.cell? ⟨gb220, 0, none⟩ = some (.slice (some ad232) t210.length co12) := (blk_cell BK220.out 0).trans rfl; have hcz121_1 : w120.cell? ⟨gb220, 1, none⟩ = some (.slice Ao15 t213.length co15) := (blk_cell BK220.out 1).trans rfl; have hfz121_0 := blk_frozen BK220.out 0; have hfz121_1 := blk_frozen BK220.out 1; have p236 : 0 ≤ (0 : Int) := (by omega); have q236 : 0 < (t213.length : Int) := of_decide_eq_true (by first | (with_reducible assumption) | assumption); obtain ⟨ad236, e236, hx236_0⟩ := Kd.at_int (Kd.R_reads' HO_221001.out).2.2 0 p236 q236; cases e236; have qi236 : (0 < t213.length) = True := eq_true (by omega); (try rw [show ((0 : Int)).toNat = 0 from rfl] at hx236_0); (try rw [Addr.add_zero'] at hx236_0); replace p236 := eq_true p236; replace q236 := eq_true q236) | (go_at_call 12; (with_reducible refine (impl_ModeOf.calls k1 2 true 0 t237 _ A105.out).mono ?_); rintro e w' ⟨rfl, ⟨nd, rfl⟩⟩))
                      go_ret
                      exact ⟨by first | rfl | (simp [errW_none, errW_some] <;> rfl) | (simp [*, errW_none, errW_some] <;> rfl), by repeat (first | (with_reducible first | exact HB.out | apply below_alloc | apply pw_below_drewN | apply below_drew1 | refine below_set ?_ GE220.out | refine below_set ?_ GE221.out | refine below_set ?_ GE226.out) | exact HB.out)⟩
                  · rw [if_neg c104] at H
                    have c104b0 : (t234 == 2) = false := beq_eq_false_iff_ne.mpr c104
                    have c104b1 : (t234 != 2) = true := bne_iff_ne.mpr c104
                    obtain rfl := Option.some.inj H
                    try go_wp2
                    have n0_ := Aside0.mk (Kd.R_drew HO_221000.out)
                    have n1_ := Aside0.mk (Kd.R_drew HO_221001.out)
                    have n2_ := Aside0.mk (blk_drew BK220.out)
                    have n3_ := Aside0.mk (blk_drew BK221.out)
                    have n4_ := Aside0.mk (blk_drew BK226.out)
                    have n5_ := Aside0.mk (below_drew1 HB.out)
                    clear HO_221000
                    clear HO_221001
                    clear BK220
                    clear BK221
                    clear BK226
                    clear HB
                    have HO_221000 := n0_
                    have HO_221001 := n1_
                    have BK220 := n2_
                    have BK221 := n3_
                    have BK226 := n4_
                    have HB := n5_
                    clear n0_ n1_ n2_ n3_ n4_ n5_
                    have p232 : 0 ≤ (0 : Int) := (by omega)
                    have q232 : 0 < (t210.length : Int) := of_decide_eq_true (by first | (with_reducible assumption) | assumption)
                    obtain ⟨ad232, e232, hx232_0⟩ := Kd.at_int (Kd.R_reads' HO_221000.out).2.2 0 p232 q232
                    cases e232
                    have qi232 : (0 < t210.length) = True := eq_true (by omega)
                    (try rw [show ((0 : Int)).toNat = 0 from rfl] at hx232_0)
                    (try rw [Addr.add_zero'] at hx232_0)
                    replace p232 := eq_true p232
                    replace q232 := eq_true q232
                    refine start_ (n := 7) (S := fun w' => w'.cell? ⟨gb220, 0, none⟩ = some (.slice (some ad232) t210.length co12) ∧ w'.cell? ⟨gb220, 1, none⟩ = some (.slice Ao15 t213.length co15) ∧ w'.cell? ad232 = some (.int .i64 (rd t210 0))) (ds := []) #[false, false, false, false, false, false, false] (by kernel_rfl) rfl rfl ⟨(blk_cell BK220.out 0).trans rfl, (blk_cell BK220.out 1).trans rfl, hx232_0⟩ (fun hHeld => ?_)
                    generalize wr.drew = w122 at HO_221000 HO_221001 BK220 BK221 BK226 HB hx232_0 hHeld ⊢
                    refine pure_ (i := 1) (N := some 127) (v := ?_) (a' := ?_) #[false, true, false, false, false, false, false] rfl rfl (by kernel_rfl) (fun _ _ _ h => h) (Or.inl ⟨by rfl, ?_⟩) ?_ ?_
                    rotate_left
                    · intro w'
                      go_simp
                      with_reducible rfl
                    rotate_left
                    · simp only [Act.put, List.setIfInBounds_toArray, List.set_cons_zero, List.set_cons_succ, i64_w, i32_w]
                      rfl
                    refine take_ (i := 0) (N := some 126) (v := ?_) (a' := ?_) #[true, true, false, false, false, false, false] rfl rfl (by kernel_rfl) (fun _ _ _ h => h) (Or.inl ⟨by rfl, ?_⟩) hHeld ?_ ?_
                    rotate_left
                    · rintro w' ⟨s0, s1, s2⟩
                      go_simp
                      with_reducible rfl
                    rotate_left
                    · simp only [Act.put, List.setIfInBounds_toArray, List.set_cons_zero, List.set_cons_succ, i64_w, i32_w]
                      rfl
                    refine take_ (i := 2) (N := some 128) (v := ?_) (a' := ?_) #[true, true, true, false, false, false, false] rfl rfl (by kernel_rfl) (fun _ _ _ h => h) (Or.inl ⟨by rfl, ?_⟩) hHeld ?_ ?_
                    rotate_left
                    · rintro w' ⟨s0, s1, s2⟩
                      go_simp
                      with_reducible rfl
                    rotate_left
                    · simp only [Act.put, List.setIfInBounds_toArray, List.set_cons_zero, List.set_cons_succ, i64_w, i32_w]
                      rfl
                    refine pure_ (i := 3) (N := some 129) (v := ?_) (a' := ?_) #[true, true, true, true, false, false, false] rfl rfl (by kernel_rfl) (fun _ _ _ h => h) (Or.inl ⟨by rfl, ?_⟩) ?_ ?_
                    rotate_left
                    · intro w'
                      go_simp
                      with_reducible rfl
                    rotate_left
                    · simp only [Act.put, List.setIfInBounds_toArray, List.set_cons_zero, List.set_cons_succ, i64_w, i32_w]
                      rfl
                    refine take_ (i := 4) (N := some 130) (v := ?_) (a' := ?_) #[true, true, true, true, true, false, false] rfl rfl (by kernel_rfl) (fun _ _ _ h => h) (Or.inl ⟨by rfl, ?_⟩) hHeld ?_ ?_
                    rotate_left
                    · rintro w' ⟨s0, s1, s2⟩
                      go_simp
                      with_reducible rfl
                    rotate_left
                    · simp only [Act.put, List.setIfInBounds_toArray, List.set_cons_zero, List.set_cons_succ, i64_w, i32_w]
                      rfl
                    refine one_ (i := 5) (N := some 131) #[true, true, true, true, true, true, false] rfl rfl (by kernel_rfl) (by decide) (fun K hK => ?_)
                    refine goes_ Try.func26 (by kernel_rfl) rfl #[.agg #[.slice (some ad232) t210.length co12, .slice Ao15 t213.length co15], .int .i64 (rd t210 0)] (by rfl) rfl rfl (by (try simp only [List.map_toArray, List.map_cons, List.map_nil]); first | done | rfl | (simp only [List.length_drop, List.length_take]; rfl)) ?_
                    with_reducible refine (impl_GainAt.calls k1 _ _ t210 _ _ t213 (rd t210 0) t233 _ ?side1 ?side2 ?side3 ?side4 A98.out).mono ?_
                    (case side1 => repeat (first | exact (Kd.R_reads' HO_221000.out).2.2 | (with_reducible refine Kd.C_alloc ?_ _) | (with_reducible refine Kd.C_drewN ?_ _) | (with_reducible refine Kd.C_drew ?_)))
                    (case side2 => exact (Kd.R_reads' HO_221000.out).2.1)
                    (case side3 => repeat (first | exact (Kd.R_reads' HO_221001.out).2.2 | (with_reducible refine Kd.C_alloc ?_ _) | (with_reducible refine Kd.C_drewN ?_ _) | (with_reducible refine Kd.C_drew ?_)))
                    (case side4 => exact (Kd.R_reads' HO_221001.out).2.1)
                    rintro e w123 ⟨rfl, hb⟩
                    have HS2_ := (hb.cell (World.block_lt_of_cell? _ _ (hHeld.2.2))).trans (hHeld.2.2)
                    refine ⟨_, rfl, ?_⟩
                    have n0_ := Aside0.mk (Kd.R_below (by (with_reducible repeat (first | apply Kd.R_alloc | apply Kd.R_drewN | apply Kd.R_drew)); exact HO_221000.out) hb)
                    have n1_ := Aside0.mk (Kd.R_below (by (with_reducible repeat (first | apply Kd.R_alloc | apply Kd.R_drewN | apply Kd.R_drew)); exact HO_221001.out) hb)
                    have n2_ := Aside0.mk (blk_below (g := gb220) (o := .cells #[.slice (some ad232) t210.length co12, .slice Ao15 t213.length co15] 41 (0, 0)) (by (with_reducible repeat (first | refine blk_drewN ?_ _ | refine blk_drew ?_ | refine blk_alloc ?_ _)); exact BK220.out) hb)
                    have n3_ := Aside0.mk (blk_below (g := gb221) (o := .cells #[.int .i64 t216, .int .i64 t217, .int .i64 t218] 34 (0, 0)) (by (with_reducible repeat (first | refine blk_drewN ?_ _ | refine blk_drew ?_ | refine blk_alloc ?_ _)); exact BK221.out) hb)
                    have n4_ := Aside0.mk (blk_below (g := gb226) (o := .cells #[.int .i64 x227000_1, .int .i64 (wrap64 ((wrap64 (t223 * 4)) - 500)), .int .i64 (wrap64 (t224 * 3)), .int .i64 (wrap64 ((wrap64 (t225 * 4)) - 400))] 48 (0, 0)) (by (with_reducible repeat (first | refine blk_drewN ?_ _ | refine blk_drew ?_ | refine blk_alloc ?_ _)); exact BK226.out) hb)
                    have n5_ := Aside0.mk (below_step (by repeat (first | (with_reducible first | exact HB.out | apply below_alloc | apply pw_below_drewN | apply below_drew1 | refine below_set ?_ GE220.out | refine below_set ?_ GE221.out | refine below_set ?_ GE226.out) | exact HB.out)) hb)
                    clear HO_221000
                    clear HO_221001
                    clear BK220
                    clear BK221
                    clear BK226
                    clear HB
                    have HO_221000 := n0_
                    have HO_221001 := n1_
                    have BK220 := n2_
                    have BK221 := n3_
                    have BK226 := n4_
                    have HB := n5_
                    clear n0_ n1_ n2_ n3_ n4_ n5_
                    (try clear hb)
                    (try clear hb2)
                    (try clear hk)
                    (try clear hi)
                    refine hK.out _ _ ⟨(blk_cell BK220.out 0).trans rfl, (blk_cell BK220.out 1).trans rfl, HS2_⟩ (fun hHeld => ?_)
                    clear hK K
                    refine norm_ (a' := ?_) ?_ ?_
                    rotate_left
                    · show Act.put _ (some 131) _ = _
                      simp only [Act.put, List.setIfInBounds_toArray, List.set_cons_zero, List.set_cons_succ, i64_w, i32_w]
                      rfl
                    refine pure_ (i := 6) (N := some 12) (v := ?_) (a' := ?_) #[true, true, true, true, true, true, true] rfl rfl (by kernel_rfl) (fun _ _ _ h => h) (Or.inl ⟨by rfl, ?_⟩) ?_ ?_
                    rotate_left
                    · intro w'
                      go_simp
                      with_reducible rfl
                    rotate_left
                    · simp only [Act.put, List.setIfInBounds_toArray, List.set_cons_zero, List.set_cons_succ, i64_w, i32_w]
                      rfl
                    refine done_ (by kernel_rfl) ?_
                    try go_wp2_with (first | ((with_reducible refine gate_callee (f := 12) rfl ?_); refine goesL_ (some 132) rfl rfl Try.func12 (by kernel_rfl) rfl #[.int .i64 1, .bool true, .int .i64 0] rfl (by (try simp only [List.map_toArray, List.map_cons, List.map_nil]); first | done | rfl | (simp only [List.length_drop, List.length_take]; rfl)) ?_; (with_reducible refine (impl_ModeOf.calls k1 1 true 0 t234 _ A99.out).mono ?_); rintro e w' ⟨rfl, ⟨nd, rfl⟩⟩; refine ⟨_, rfl, ?_⟩; have hnb124 := NB220_221.out; have hnc124 := NB221_220.out; have hnb125 := NB220_226.out; have hnc125 := NB226_220.out; have hcz126_0 : w123.cell? ⟨gb220, 0, none⟩ = some (.slice (some ad232) t210.length co12) := (blk_cell BK220.out 0).trans rfl; have hcz126_1 : w123.cell? ⟨gb220, 1, none⟩ = some (.slice Ao15 t213.length co15) := (blk_cell BK220.out 1).trans rfl; have hfz126_0 := blk_frozen BK220.out 0; have hfz126_1 := blk_frozen BK220.out 1) | ((with_reducible refine gate_callee (f := 21) rfl ?_); refine goesL_ (some 134) rfl rfl Try.func21 (by kernel_rfl) rfl #[.agg #[.slice (some ad232) t210.length co12, .slice Ao15 t213.length co15]] rfl (by (try simp only [List.map_toArray, List.map_cons, List.map_nil]); first | done | rfl | (simp only [List.length_drop, List.length_take]; rfl)) ?_; (with_reducible refine (impl_GainOk.calls k1 _ _ t210 _ _ t213 true _ ?side1 ?side2 ?side3 ?side4 A100.out).mono ?_); (case side1 => repeat (first | exact (Kd.R_reads' HO_221000.out).2.2 | (with_reducible refine Kd.C_alloc ?_ _) | (with_reducible refine Kd.C_drewN ?_ _) | (with_reducible refine Kd.C_drew ?_))); (case side2 => exact (Kd.R_reads' HO_221000.out).2.1); (case side3 => repeat (first | exact (Kd.R_reads' HO_221001.out).2.2 | (with_reducible refine Kd.C_alloc ?_ _) | (with_reducible refine Kd.C_drewN ?_ _) | (with_reducible refine Kd.C_drew ?_))); (case side4 => exact (Kd.R_reads' HO_221001.out).2.1); rintro e w127 ⟨rfl, hb⟩; refine ⟨_, rfl, ?_⟩; have n0_ := Aside0.mk (Kd.R_below (by (with_reducible repeat (first | apply Kd.R_alloc | apply Kd.R_drewN | apply Kd.R_drew)); exact HO_221000.out) hb); have n1_ := Aside0.mk (Kd.R_below (by (with_reducible repeat (first | apply Kd.R_alloc | apply Kd.R_drewN | apply Kd.R_drew)); exact HO_221001.out) hb); have n2_ := Aside0.mk (blk_below (g := gb220) (o := .cells #[.slice (some ad232) t210.length co12, .slice Ao15 t213.length co15] 41 (0, 0)) (by (with_reducible repeat (first | refine blk_drewN ?_ _ | refine blk_drew ?_ | refine blk_alloc ?_ _)); exact BK220.out) hb); have n3_ := Aside0.mk (blk_below (g := gb221) (o := .cells #[.int .i64 t216, .int .i64 t217, .int .i64 t218] 34 (0, 0)) (by (with_reducible repeat (first | refine blk_drewN ?_ _ | refine blk_drew ?_ | refine blk_alloc ?_ _)); exact BK221.out) hb); have n4_ := Aside0.mk (blk_below (g := gb226) (o := .cells #[.int .i64 x227000_1, .int .i64 (wrap64 ((wrap64 (t223 * 4)) - 500)), .int .i64 (wrap64 (t224 * 3)), .int .i64 (wrap64 ((wrap64 (t225 * 4)) - 400))] 48 (0, 0)) (by (with_reducible repeat (first | refine blk_drewN ?_ _ | refine blk_drew ?_ | refine blk_alloc ?_ _)); exact BK226.out) hb); have n5_ := Aside0.mk (below_step (by repeat (first | (with_reducible first | exact HB.out | apply below_alloc | apply pw_below_drewN | apply below_drew1 | refine below_set ?_ GE220.out | refine below_set ?_ GE221.out | refine below_set ?_ GE226.out) | exact HB.out)) hb); clear HO_221000; clear HO_221001; clear BK220; clear BK221; clear BK226; clear HB; have HO_221000 := n0_; have HO_221001 := n1_; have BK220 := n2_; have BK221 := n3_; have BK226 := n4_; have HB := n5_; clear n0_ n1_ n2_ n3_ n4_ n5_; (try clear hb); (try clear hb2); (try clear hk); (try clear hi); have hcz128_0 : w127.cell? ⟨gb220, 0, none⟩ = some (.slice (some ad232) t210.length co12) := (blk_cell BK220.out 0).trans rfl; have hcz128_1 : w127.cell? ⟨gb220, 1, none⟩ = some (.slice Ao15 t213.length co15) := (blk_cell BK220.out 1).trans rfl; have hfz128_0 := blk_frozen BK220.out 0; have hfz128_1 := blk_frozen BK220.out 1; have p236 : 0 ≤ (0 : Int) := (by omega); have q236 : 0 < (t213.length : Int) := of_decide_eq_true (by first | (with_reducible assumption) | assumption); obtain ⟨ad236, e236, hx236_0⟩ := Kd.at_int (Kd.R_reads' HO_221001.out).2.2 0 p236 q236; cases e236; have qi236 : (0 < t213.length) = True := eq_true (by omega); (try rw [show ((0 : Int)).toNat = 0 from rfl] at hx236_0); (try rw [Addr.add_zero'] at hx236_0); replace p236 := eq_true p236; replace q236 := eq_true q236))
                    go_ret
                    exact ⟨by first | rfl | (simp [errW_none, errW_some] <;> rfl) | (simp [*, errW_none, errW_some] <;> rfl), by repeat (first | (with_reducible first | exact HB.out | apply below_alloc | apply pw_below_drewN | apply below_drew1 | refine below_set ?_ GE220.out | refine below_set ?_ GE221.out | refine below_set ?_ GE226.out) | exact HB.out)⟩
                · rw [if_neg c103] at H
                  have c103b0 : (t233 == (rd t213 0)) = false := beq_eq_false_iff_ne.mpr c103
                  have c103b1 : (t233 != (rd t213 0)) = true := bne_iff_ne.mpr c103
                  obtain rfl := Option.some.inj H
                  try go_wp2
                  have n0_ := Aside0.mk (Kd.R_drew HO_221000.out)
                  have n1_ := Aside0.mk (Kd.R_drew HO_221001.out)
                  have n2_ := Aside0.mk (blk_drew BK220.out)
                  have n3_ := Aside0.mk (blk_drew BK221.out)
                  have n4_ := Aside0.mk (blk_drew BK226.out)
                  have n5_ := Aside0.mk (below_drew1 HB.out)
                  clear HO_221000
                  clear HO_221001
                  clear BK220
                  clear BK221
                  clear BK226
                  clear HB
                  have HO_221000 := n0_
                  have HO_221001 := n1_
                  have BK220 := n2_
                  have BK221 := n3_
                  have BK226 := n4_
                  have HB := n5_
                  clear n0_ n1_ n2_ n3_ n4_ n5_
                  have p232 : 0 ≤ (0 : Int) := (by omega)
                  have q232 : 0 < (t210.length : Int) := of_decide_eq_true (by first | (with_reducible assumption) | assumption)
                  obtain ⟨ad232, e232, hx232_0⟩ := Kd.at_int (Kd.R_reads' HO_221000.out).2.2 0 p232 q232
                  cases e232
                  have qi232 : (0 < t210.length) = True := eq_true (by omega)
                  (try rw [show ((0 : Int)).toNat = 0 from rfl] at hx232_0)
                  (try rw [Addr.add_zero'] at hx232_0)
                  replace p232 := eq_true p232
                  replace q232 := eq_true q232
                  refine start_ (n := 7) (S := fun w' => w'.cell? ⟨gb220, 0, none⟩ = some (.slice (some ad232) t210.length co12) ∧ w'.cell? ⟨gb220, 1, none⟩ = some (.slice Ao15 t213.length co15) ∧ w'.cell? ad232 = some (.int .i64 (rd t210 0))) (ds := []) #[false, false, false, false, false, false, false] (by kernel_rfl) rfl rfl ⟨(blk_cell BK220.out 0).trans rfl, (blk_cell BK220.out 1).trans rfl, hx232_0⟩ (fun hHeld => ?_)
                  generalize wr.drew = w129 at HO_221000 HO_221001 BK220 BK221 BK226 HB hx232_0 hHeld ⊢
                  refine pure_ (i := 1) (N := some 127) (v := ?_) (a' := ?_) #[false, true, false, false, false, false, false] rfl rfl (by kernel_rfl) (fun _ _ _ h => h) (Or.inl ⟨by rfl, ?_⟩) ?_ ?_
                  rotate_left
                  · intro w'
                    go_simp
                    with_reducible rfl
                  rotate_left
                  · simp only [Act.put, List.setIfInBounds_toArray, List.set_cons_zero, List.set_cons_succ, i64_w, i32_w]
                    rfl
                  refine take_ (i := 0) (N := some 126) (v := ?_) (a' := ?_) #[true, true, false, false, false, false, false] rfl rfl (by kernel_rfl) (fun _ _ _ h => h) (Or.inl ⟨by rfl, ?_⟩) hHeld ?_ ?_
                  rotate_left
                  · rintro w' ⟨s0, s1, s2⟩
                    go_simp
                    with_reducible rfl
                  rotate_left
                  · simp only [Act.put, List.setIfInBounds_toArray, List.set_cons_zero, List.set_cons_succ, i64_w, i32_w]
                    rfl
                  refine take_ (i := 2) (N := some 128) (v := ?_) (a' := ?_) #[true, true, true, false, false, false, false] rfl rfl (by kernel_rfl) (fun _ _ _ h => h) (Or.inl ⟨by rfl, ?_⟩) hHeld ?_ ?_
                  rotate_left
                  · rintro w' ⟨s0, s1, s2⟩
                    go_simp
                    with_reducible rfl
                  rotate_left
                  · simp only [Act.put, List.setIfInBounds_toArray, List.set_cons_zero, List.set_cons_succ, i64_w, i32_w]
                    rfl
                  refine pure_ (i := 3) (N := some 129) (v := ?_) (a' := ?_) #[true, true, true, true, false, false, false] rfl rfl (by kernel_rfl) (fun _ _ _ h => h) (Or.inl ⟨by rfl, ?_⟩) ?_ ?_
                  rotate_left
                  · intro w'
                    go_simp
                    with_reducible rfl
                  rotate_left
                  · simp only [Act.put, List.setIfInBounds_toArray, List.set_cons_zero, List.set_cons_succ, i64_w, i32_w]
                    rfl
                  refine take_ (i := 4) (N := some 130) (v := ?_) (a' := ?_) #[true, true, true, true, true, false, false] rfl rfl (by kernel_rfl) (fun _ _ _ h => h) (Or.inl ⟨by rfl, ?_⟩) hHeld ?_ ?_
                  rotate_left
                  · rintro w' ⟨s0, s1, s2⟩
                    go_simp
                    with_reducible rfl
                  rotate_left
                  · simp only [Act.put, List.setIfInBounds_toArray, List.set_cons_zero, List.set_cons_succ, i64_w, i32_w]
                    rfl
                  refine one_ (i := 5) (N := some 131) #[true, true, true, true, true, true, false] rfl rfl (by kernel_rfl) (by decide) (fun K hK => ?_)
                  refine goes_ Try.func26 (by kernel_rfl) rfl #[.agg #[.slice (some ad232) t210.length co12, .slice Ao15 t213.length co15], .int .i64 (rd t210 0)] (by rfl) rfl rfl (by (try simp only [List.map_toArray, List.map_cons, List.map_nil]); first | done | rfl | (simp only [List.length_drop, List.length_take]; rfl)) ?_
                  with_reducible refine (impl_GainAt.calls k1 _ _ t210 _ _ t213 (rd t210 0) t233 _ ?side1 ?side2 ?side3 ?side4 A98.out).mono ?_
                  (case side1 => repeat (first | exact (Kd.R_reads' HO_221000.out).2.2 | (with_reducible refine Kd.C_alloc ?_ _) | (with_reducible refine Kd.C_drewN ?_ _) | (with_reducible refine Kd.C_drew ?_)))
                  (case side2 => exact (Kd.R_reads' HO_221000.out).2.1)
                  (case side3 => repeat (first | exact (Kd.R_reads' HO_221001.out).2.2 | (with_reducible refine Kd.C_alloc ?_ _) | (with_reducible refine Kd.C_drewN ?_ _) | (with_reducible refine Kd.C_drew ?_)))
                  (case side4 => exact (Kd.R_reads' HO_221001.out).2.1)
                  rintro e w130 ⟨rfl, hb⟩
                  have HS2_ := (hb.cell (World.block_lt_of_cell? _ _ (hHeld.2.2))).trans (hHeld.2.2)
                  refine ⟨_, rfl, ?_⟩
                  have n0_ := Aside0.mk (Kd.R_below (by (with_reducible repeat (first | apply Kd.R_alloc | apply Kd.R_drewN | apply Kd.R_drew)); exact HO_221000.out) hb)
                  have n1_ := Aside0.mk (Kd.R_below (by (with_reducible repeat (first | apply Kd.R_alloc | apply Kd.R_drewN | apply Kd.R_drew)); exact HO_221001.out) hb)
                  have n2_ := Aside0.mk (blk_below (g := gb220) (o := .cells #[.slice (some ad232) t210.length co12, .slice Ao15 t213.length co15] 41 (0, 0)) (by (with_reducible repeat (first | refine blk_drewN ?_ _ | refine blk_drew ?_ | refine blk_alloc ?_ _)); exact BK220.out) hb)
                  have n3_ := Aside0.mk (blk_below (g := gb221) (o := .cells #[.int .i64 t216, .int .i64 t217, .int .i64 t218] 34 (0, 0)) (by (with_reducible repeat (first | refine blk_drewN ?_ _ | refine blk_drew ?_ | refine blk_alloc ?_ _)); exact BK221.out) hb)
                  have n4_ := Aside0.mk (blk_below (g := gb226) (o := .cells #[.int .i64 x227000_1, .int .i64 (wrap64 ((wrap64 (t223 * 4)) - 500)), .int .i64 (wrap64 (t224 * 3)), .int .i64 (wrap64 ((wrap64 (t225 * 4)) - 400))] 48 (0, 0)) (by (with_reducible repeat (first | refine blk_drewN ?_ _ | refine blk_drew ?_ | refine blk_alloc ?_ _)); exact BK226.out) hb)
                  have n5_ := Aside0.mk (below_step (by repeat (first | (with_reducible first | exact HB.out | apply below_alloc | apply pw_below_drewN | apply below_drew1 | refine below_set ?_ GE220.out | refine below_set ?_ GE221.out | refine below_set ?_ GE226.out) | exact HB.out)) hb)
                  clear HO_221000
                  clear HO_221001
                  clear BK220
                  clear BK221
                  clear BK226
                  clear HB
                  have HO_221000 := n0_
                  have HO_221001 := n1_
                  have BK220 := n2_
                  have BK221 := n3_
                  have BK226 := n4_
                  have HB := n5_
                  clear n0_ n1_ n2_ n3_ n4_ n5_
                  (try clear hb)
                  (try clear hb2)
                  (try clear hk)
                  (try clear hi)
                  refine hK.out _ _ ⟨(blk_cell BK220.out 0).trans rfl, (blk_cell BK220.out 1).trans rfl, HS2_⟩ (fun hHeld => ?_)
                  clear hK K
                  refine norm_ (a' := ?_) ?_ ?_
                  rotate_left
                  · show Act.put _ (some 131) _ = _
                    simp only [Act.put, List.setIfInBounds_toArray, List.set_cons_zero, List.set_cons_succ, i64_w, i32_w]
                    rfl
                  refine pure_ (i := 6) (N := some 12) (v := ?_) (a' := ?_) #[true, true, true, true, true, true, true] rfl rfl (by kernel_rfl) (fun _ _ _ h => h) (Or.inl ⟨by rfl, ?_⟩) ?_ ?_
                  rotate_left
                  · intro w'
                    go_simp
                    with_reducible rfl
                  rotate_left
                  · simp only [Act.put, List.setIfInBounds_toArray, List.set_cons_zero, List.set_cons_succ, i64_w, i32_w]
                    rfl
                  refine done_ (by kernel_rfl) ?_
                  try go_wp2_with (first | ((with_reducible refine gate_callee (f := 12) rfl ?_); refine goesL_ (some 132) rfl rfl Try.func12 (by kernel_rfl) rfl #[.int .i64 1, .bool true, .int .i64 0] rfl (by (try simp only [List.map_toArray, List.map_cons, List.map_nil]); first | done | rfl | (simp only [List.length_drop, List.length_take]; rfl)) ?_; (with_reducible refine (impl_ModeOf.calls k1 1 true 0 t234 _ A99.out).mono ?_); rintro e w' ⟨rfl, ⟨nd, rfl⟩⟩; refine ⟨_, rfl, ?_⟩; have hnb131 := NB220_221.out; have hnc131 := NB221_220.out; have hnb132 := NB220_226.out; have hnc132 := NB226_220.out; have hcz133_0 : w130.cell? ⟨gb220, 0, none⟩ = some (.slice (some ad232) t210.length co12) := (blk_cell BK220.out 0).trans rfl; have hcz133_1 : w130.cell? ⟨gb220, 1, none⟩ = some (.slice Ao15 t213.length co15) := (blk_cell BK220.out 1).trans rfl; have hfz133_0 := blk_frozen BK220.out 0; have hfz133_1 := blk_frozen BK220.out 1) | ((with_reducible refine gate_callee (f := 21) rfl ?_); refine goesL_ (some 134) rfl rfl Try.func21 (by kernel_rfl) rfl #[.agg #[.slice (some ad232) t210.length co12, .slice Ao15 t213.length co15]] rfl (by (try simp only [List.map_toArray, List.map_cons, List.map_nil]); first | done | rfl | (simp only [List.length_drop, List.length_take]; rfl)) ?_; (with_reducible refine (impl_GainOk.calls k1 _ _ t210 _ _ t213 true _ ?side1 ?side2 ?side3 ?side4 A100.out).mono ?_); (case side1 => repeat (first | exact (Kd.R_reads' HO_221000.out).2.2 | (with_reducible refine Kd.C_alloc ?_ _) | (with_reducible refine Kd.C_drewN ?_ _) | (with_reducible refine Kd.C_drew ?_))); (case side2 => exact (Kd.R_reads' HO_221000.out).2.1); (case side3 => repeat (first | exact (Kd.R_reads' HO_221001.out).2.2 | (with_reducible refine Kd.C_alloc ?_ _) | (with_reducible refine Kd.C_drewN ?_ _) | (with_reducible refine Kd.C_drew ?_))); (case side4 => exact (Kd.R_reads' HO_221001.out).2.1); rintro e w134 ⟨rfl, hb⟩; refine ⟨_, rfl, ?_⟩; have n0_ := Aside0.mk (Kd.R_below (by (with_reducible repeat (first | apply Kd.R_alloc | apply Kd.R_drewN | apply Kd.R_drew)); exact HO_221000.out) hb); have n1_ := Aside0.mk (Kd.R_below (by (with_reducible repeat (first | apply Kd.R_alloc | apply Kd.R_drewN | apply Kd.R_drew)); exact HO_221001.out) hb); have n2_ := Aside0.mk (blk_below (g := gb220) (o := .cells #[.slice (some ad232) t210.length co12, .slice Ao15 t213.length co15] 41 (0, 0)) (by (with_reducible repeat (first | refine blk_drewN ?_ _ | refine blk_drew ?_ | refine blk_alloc ?_ _)); exact BK220.out) hb); have n3_ := Aside0.mk (blk_below (g := gb221) (o := .cells #[.int .i64 t216, .int .i64 t217, .int .i64 t218] 34 (0, 0)) (by (with_reducible repeat (first | refine blk_drewN ?_ _ | refine blk_drew ?_ | refine blk_alloc ?_ _)); exact BK221.out) hb); have n4_ := Aside0.mk (blk_below (g := gb226) (o := .cells #[.int .i64 x227000_1, .int .i64 (wrap64 ((wrap64 (t223 * 4)) - 500)), .int .i64 (wrap64 (t224 * 3)), .int .i64 (wrap64 ((wrap64 (t225 * 4)) - 400))] 48 (0, 0)) (by (with_reducible repeat (first | refine blk_drewN ?_ _ | refine blk_drew ?_ | refine blk_alloc ?_ _)); exact BK226.out) hb); have n5_ := Aside0.mk (below_step (by repeat (first | (with_reducible first | exact HB.out | apply below_alloc | apply pw_below_drewN | apply below_drew1 | refine below_set ?_ GE220.out | refine below_set ?_ GE221.out | refine below_set ?_ GE226.out) | exact HB.out)) hb); clear HO_221000; clear HO_221001; clear BK220; clear BK221; clear BK226; clear HB; have HO_221000 := n0_; have HO_221001 := n1_; have BK220 := n2_; have BK221 := n3_; have BK226 := n4_; have HB := n5_; clear n0_ n1_ n2_ n3_ n4_ n5_; (try clear hb); (try clear hb2); (try clear hk); (try clear hi); have hcz135_0 : w134.cell? ⟨gb220, 0, none⟩ = some (.slice (some ad232) t210.length co12) := (blk_cell BK220.out 0).trans rfl; have hcz135_1 : w134.cell? ⟨gb220, 1, none⟩ = some (.slice Ao15 t213.length co15) := (blk_cell BK220.out 1).trans rfl; have hfz135_0 := blk_frozen BK220.out 0; have hfz135_1 := blk_frozen BK220.out 1; have p236 : 0 ≤ (0 : Int) := (by omega); have q236 : 0 < (t213.length : Int) := of_decide_eq_true (by first | (with_reducible assumption) | assumption); obtain ⟨ad236, e236, hx236_0⟩ := Kd.at_int (Kd.R_reads' HO_221001.out).2.2 0 p236 q236; cases e236; have qi236 : (0 < t213.length) = True := eq_true (by omega); (try rw [show ((0 : Int)).toNat = 0 from rfl] at hx236_0); (try rw [Addr.add_zero'] at hx236_0); replace p236 := eq_true p236; replace q236 := eq_true q236))
                  go_ret
                  exact ⟨by first | rfl | (simp [errW_none, errW_some] <;> rfl) | (simp [*, errW_none, errW_some] <;> rfl), by repeat (first | (with_reducible first | exact HB.out | apply below_alloc | apply pw_below_drewN | apply below_drew1 | refine below_set ?_ GE220.out | refine below_set ?_ GE221.out | refine below_set ?_ GE226.out) | exact HB.out)⟩
              · rw [if_neg c102] at H
                exact absurd H (by simp)
            · replace c101 := Bool.eq_false_iff.mpr c101
              subst c101
              have H1 : (some false) = some r := by rw [if_neg (show ¬ (false = true) by decide)] at H; exact H
              clear H
              have H := H1
              clear H1
              obtain rfl := Option.some.inj H
              try go_wp2
              have n0_ := Aside0.mk (Kd.R_drew HO_221000.out)
              have n1_ := Aside0.mk (Kd.R_drew HO_221001.out)
              have n2_ := Aside0.mk (blk_drew BK220.out)
              have n3_ := Aside0.mk (blk_drew BK221.out)
              have n4_ := Aside0.mk (blk_drew BK226.out)
              have n5_ := Aside0.mk (below_drew1 HB.out)
              clear HO_221000
              clear HO_221001
              clear BK220
              clear BK221
              clear BK226
              clear HB
              have HO_221000 := n0_
              have HO_221001 := n1_
              have BK220 := n2_
              have BK221 := n3_
              have BK226 := n4_
              have HB := n5_
              clear n0_ n1_ n2_ n3_ n4_ n5_
              have p232 : 0 ≤ (0 : Int) := (by omega)
              have q232 : 0 < (t210.length : Int) := of_decide_eq_true (by first | (with_reducible assumption) | assumption)
              obtain ⟨ad232, e232, hx232_0⟩ := Kd.at_int (Kd.R_reads' HO_221000.out).2.2 0 p232 q232
              cases e232
              have qi232 : (0 < t210.length) = True := eq_true (by omega)
              (try rw [show ((0 : Int)).toNat = 0 from rfl] at hx232_0)
              (try rw [Addr.add_zero'] at hx232_0)
              replace p232 := eq_true p232
              replace q232 := eq_true q232
              refine start_ (n := 7) (S := fun w' => w'.cell? ⟨gb220, 0, none⟩ = some (.slice (some ad232) t210.length co12) ∧ w'.cell? ⟨gb220, 1, none⟩ = some (.slice Ao15 t213.length co15) ∧ w'.cell? ad232 = some (.int .i64 (rd t210 0))) (ds := []) #[false, false, false, false, false, false, false] (by kernel_rfl) rfl rfl ⟨(blk_cell BK220.out 0).trans rfl, (blk_cell BK220.out 1).trans rfl, hx232_0⟩ (fun hHeld => ?_)
              generalize wr.drew = w136 at HO_221000 HO_221001 BK220 BK221 BK226 HB hx232_0 hHeld ⊢
              refine pure_ (i := 1) (N := some 127) (v := ?_) (a' := ?_) #[false, true, false, false, false, false, false] rfl rfl (by kernel_rfl) (fun _ _ _ h => h) (Or.inl ⟨by rfl, ?_⟩) ?_ ?_
              rotate_left
              · intro w'
                go_simp
                with_reducible rfl
              rotate_left
              · simp only [Act.put, List.setIfInBounds_toArray, List.set_cons_zero, List.set_cons_succ, i64_w, i32_w]
                rfl
              refine take_ (i := 0) (N := some 126) (v := ?_) (a' := ?_) #[true, true, false, false, false, false, false] rfl rfl (by kernel_rfl) (fun _ _ _ h => h) (Or.inl ⟨by rfl, ?_⟩) hHeld ?_ ?_
              rotate_left
              · rintro w' ⟨s0, s1, s2⟩
                go_simp
                with_reducible rfl
              rotate_left
              · simp only [Act.put, List.setIfInBounds_toArray, List.set_cons_zero, List.set_cons_succ, i64_w, i32_w]
                rfl
              refine take_ (i := 2) (N := some 128) (v := ?_) (a' := ?_) #[true, true, true, false, false, false, false] rfl rfl (by kernel_rfl) (fun _ _ _ h => h) (Or.inl ⟨by rfl, ?_⟩) hHeld ?_ ?_
              rotate_left
              · rintro w' ⟨s0, s1, s2⟩
                go_simp
                with_reducible rfl
              rotate_left
              · simp only [Act.put, List.setIfInBounds_toArray, List.set_cons_zero, List.set_cons_succ, i64_w, i32_w]
                rfl
              refine pure_ (i := 3) (N := some 129) (v := ?_) (a' := ?_) #[true, true, true, true, false, false, false] rfl rfl (by kernel_rfl) (fun _ _ _ h => h) (Or.inl ⟨by rfl, ?_⟩) ?_ ?_
              rotate_left
              · intro w'
                go_simp
                with_reducible rfl
              rotate_left
              · simp only [Act.put, List.setIfInBounds_toArray, List.set_cons_zero, List.set_cons_succ, i64_w, i32_w]
                rfl
              refine take_ (i := 4) (N := some 130) (v := ?_) (a' := ?_) #[true, true, true, true, true, false, false] rfl rfl (by kernel_rfl) (fun _ _ _ h => h) (Or.inl ⟨by rfl, ?_⟩) hHeld ?_ ?_
              rotate_left
              · rintro w' ⟨s0, s1, s2⟩
                go_simp
                with_reducible rfl
              rotate_left
              · simp only [Act.put, List.setIfInBounds_toArray, List.set_cons_zero, List.set_cons_succ, i64_w, i32_w]
                rfl
              refine one_ (i := 5) (N := some 131) #[true, true, true, true, true, true, false] rfl rfl (by kernel_rfl) (by decide) (fun K hK => ?_)
              refine goes_ Try.func26 (by kernel_rfl) rfl #[.agg #[.slice (some ad232) t210.length co12, .slice Ao15 t213.length co15], .int .i64 (rd t210 0)] (by rfl) rfl rfl (by (try simp only [List.map_toArray, List.map_cons, List.map_nil]); first | done | rfl | (simp only [List.length_drop, List.length_take]; rfl)) ?_
              with_reducible refine (impl_GainAt.calls k1 _ _ t210 _ _ t213 (rd t210 0) t233 _ ?side1 ?side2 ?side3 ?side4 A98.out).mono ?_
              (case side1 => repeat (first | exact (Kd.R_reads' HO_221000.out).2.2 | (with_reducible refine Kd.C_alloc ?_ _) | (with_reducible refine Kd.C_drewN ?_ _) | (with_reducible refine Kd.C_drew ?_)))
              (case side2 => exact (Kd.R_reads' HO_221000.out).2.1)
              (case side3 => repeat (first | exact (Kd.R_reads' HO_221001.out).2.2 | (with_reducible refine Kd.C_alloc ?_ _) | (with_reducible refine Kd.C_drewN ?_ _) | (with_reducible refine Kd.C_drew ?_)))
              (case side4 => exact (Kd.R_reads' HO_221001.out).2.1)
              rintro e w137 ⟨rfl, hb⟩
              have HS2_ := (hb.cell (World.block_lt_of_cell? _ _ (hHeld.2.2))).trans (hHeld.2.2)
              refine ⟨_, rfl, ?_⟩
              have n0_ := Aside0.mk (Kd.R_below (by (with_reducible repeat (first | apply Kd.R_alloc | apply Kd.R_drewN | apply Kd.R_drew)); exact HO_221000.out) hb)
              have n1_ := Aside0.mk (Kd.R_below (by (with_reducible repeat (first | apply Kd.R_alloc | apply Kd.R_drewN | apply Kd.R_drew)); exact HO_221001.out) hb)
              have n2_ := Aside0.mk (blk_below (g := gb220) (o := .cells #[.slice (some ad232) t210.length co12, .slice Ao15 t213.length co15] 41 (0, 0)) (by (with_reducible repeat (first | refine blk_drewN ?_ _ | refine blk_drew ?_ | refine blk_alloc ?_ _)); exact BK220.out) hb)
              have n3_ := Aside0.mk (blk_below (g := gb221) (o := .cells #[.int .i64 t216, .int .i64 t217, .int .i64 t218] 34 (0, 0)) (by (with_reducible repeat (first | refine blk_drewN ?_ _ | refine blk_drew ?_ | refine blk_alloc ?_ _)); exact BK221.out) hb)
              have n4_ := Aside0.mk (blk_below (g := gb226) (o := .cells #[.int .i64 x227000_1, .int .i64 (wrap64 ((wrap64 (t223 * 4)) - 500)), .int .i64 (wrap64 (t224 * 3)), .int .i64 (wrap64 ((wrap64 (t225 * 4)) - 400))] 48 (0, 0)) (by (with_reducible repeat (first | refine blk_drewN ?_ _ | refine blk_drew ?_ | refine blk_alloc ?_ _)); exact BK226.out) hb)
              have n5_ := Aside0.mk (below_step (by repeat (first | (with_reducible first | exact HB.out | apply below_alloc | apply pw_below_drewN | apply below_drew1 | refine below_set ?_ GE220.out | refine below_set ?_ GE221.out | refine below_set ?_ GE226.out) | exact HB.out)) hb)
              clear HO_221000
              clear HO_221001
              clear BK220
              clear BK221
              clear BK226
              clear HB
              have HO_221000 := n0_
              have HO_221001 := n1_
              have BK220 := n2_
              have BK221 := n3_
              have BK226 := n4_
              have HB := n5_
              clear n0_ n1_ n2_ n3_ n4_ n5_
              (try clear hb)
              (try clear hb2)
              (try clear hk)
              (try clear hi)
              refine hK.out _ _ ⟨(blk_cell BK220.out 0).trans rfl, (blk_cell BK220.out 1).trans rfl, HS2_⟩ (fun hHeld => ?_)
              clear hK K
              refine norm_ (a' := ?_) ?_ ?_
              rotate_left
              · show Act.put _ (some 131) _ = _
                simp only [Act.put, List.setIfInBounds_toArray, List.set_cons_zero, List.set_cons_succ, i64_w, i32_w]
                rfl
              refine pure_ (i := 6) (N := some 12) (v := ?_) (a' := ?_) #[true, true, true, true, true, true, true] rfl rfl (by kernel_rfl) (fun _ _ _ h => h) (Or.inl ⟨by rfl, ?_⟩) ?_ ?_
              rotate_left
              · intro w'
                go_simp
                with_reducible rfl
              rotate_left
              · simp only [Act.put, List.setIfInBounds_toArray, List.set_cons_zero, List.set_cons_succ, i64_w, i32_w]
                rfl
              refine done_ (by kernel_rfl) ?_
              try go_wp2_with (first | ((with_reducible refine gate_callee (f := 12) rfl ?_); refine goesL_ (some 132) rfl rfl Try.func12 (by kernel_rfl) rfl #[.int .i64 1, .bool true, .int .i64 0] rfl (by (try simp only [List.map_toArray, List.map_cons, List.map_nil]); first | done | rfl | (simp only [List.length_drop, List.length_take]; rfl)) ?_; (with_reducible refine (impl_ModeOf.calls k1 1 true 0 t234 _ A99.out).mono ?_); rintro e w' ⟨rfl, ⟨nd, rfl⟩⟩; refine ⟨_, rfl, ?_⟩; have hnb138 := NB220_221.out; have hnc138 := NB221_220.out; have hnb139 := NB220_226.out; have hnc139 := NB226_220.out; have hcz140_0 : w137.cell? ⟨gb220, 0, none⟩ = some (.slice (some ad232) t210.length co12) := (blk_cell BK220.out 0).trans rfl; have hcz140_1 : w137.cell? ⟨gb220, 1, none⟩ = some (.slice Ao15 t213.length co15) := (blk_cell BK220.out 1).trans rfl; have hfz140_0 := blk_frozen BK220.out 0; have hfz140_1 := blk_frozen BK220.out 1) | ((with_reducible refine gate_callee (f := 21) rfl ?_); refine goesL_ (some 134) rfl rfl Try.func21 (by kernel_rfl) rfl #[.agg #[.slice (some ad232) t210.length co12, .slice Ao15 t213.length co15]] rfl (by (try simp only [List.map_toArray, List.map_cons, List.map_nil]); first | done | rfl | (simp only [List.length_drop, List.length_take]; rfl)) ?_; (with_reducible refine (impl_GainOk.calls k1 _ _ t210 _ _ t213 false _ ?side1 ?side2 ?side3 ?side4 A100.out).mono ?_); (case side1 => repeat (first | exact (Kd.R_reads' HO_221000.out).2.2 | (with_reducible refine Kd.C_alloc ?_ _) | (with_reducible refine Kd.C_drewN ?_ _) | (with_reducible refine Kd.C_drew ?_))); (case side2 => exact (Kd.R_reads' HO_221000.out).2.1); (case side3 => repeat (first | exact (Kd.R_reads' HO_221001.out).2.2 | (with_reducible refine Kd.C_alloc ?_ _) | (with_reducible refine Kd.C_drewN ?_ _) | (with_reducible refine Kd.C_drew ?_))); (case side4 => exact (Kd.R_reads' HO_221001.out).2.1); rintro e w141 ⟨rfl, hb⟩; refine ⟨_, rfl, ?_⟩; have n0_ := Aside0.mk (Kd.R_below (by (with_reducible repeat (first | apply Kd.R_alloc | apply Kd.R_drewN | apply Kd.R_drew)); exact HO_221000.out) hb); have n1_ := Aside0.mk (Kd.R_below (by (with_reducible repeat (first | apply Kd.R_alloc | apply Kd.R_drewN | apply Kd.R_drew)); exact HO_221001.out) hb); have n2_ := Aside0.mk (blk_below (g := gb220) (o := .cells #[.slice (some ad232) t210.length co12, .slice Ao15 t213.length co15] 41 (0, 0)) (by (with_reducible repeat (first | refine blk_drewN ?_ _ | refine blk_drew ?_ | refine blk_alloc ?_ _)); exact BK220.out) hb); have n3_ := Aside0.mk (blk_below (g := gb221) (o := .cells #[.int .i64 t216, .int .i64 t217, .int .i64 t218] 34 (0, 0)) (by (with_reducible repeat (first | refine blk_drewN ?_ _ | refine blk_drew ?_ | refine blk_alloc ?_ _)); exact BK221.out) hb); have n4_ := Aside0.mk (blk_below (g := gb226) (o := .cells #[.int .i64 x227000_1, .int .i64 (wrap64 ((wrap64 (t223 * 4)) - 500)), .int .i64 (wrap64 (t224 * 3)), .int .i64 (wrap64 ((wrap64 (t225 * 4)) - 400))] 48 (0, 0)) (by (with_reducible repeat (first | refine blk_drewN ?_ _ | refine blk_drew ?_ | refine blk_alloc ?_ _)); exact BK226.out) hb); have n5_ := Aside0.mk (below_step (by repeat (first | (with_reducible first | exact HB.out | apply below_alloc | apply pw_below_drewN | apply below_drew1 | refine below_set ?_ GE220.out | refine below_set ?_ GE221.out | refine below_set ?_ GE226.out) | exact HB.out)) hb); clear HO_221000; clear HO_221001; clear BK220; clear BK221; clear BK226; clear HB; have HO_221000 := n0_; have HO_221001 := n1_; have BK220 := n2_; have BK221 := n3_; have BK226 := n4_; have HB := n5_; clear n0_ n1_ n2_ n3_ n4_ n5_; (try clear hb); (try clear hb2); (try clear hk); (try clear hi)))
              go_ret
              exact ⟨by first | rfl | (simp [errW_none, errW_some] <;> rfl) | (simp [*, errW_none, errW_some] <;> rfl), by repeat (first | (with_reducible first | exact HB.out | apply below_alloc | apply pw_below_drewN | apply below_drew1 | refine below_set ?_ GE220.out | refine below_set ?_ GE221.out | refine below_set ?_ GE226.out) | exact HB.out)⟩
          · rw [if_neg c97] at H
            exact absurd H (by simp)

/-- THE ONE PURE STATEMENT of laws_FnSurface: yours. -/
def laws_FnSurface.Pure : Prop := ∀ (l0 : List Int), l0.length ≤ maxLen → l0.length * 1 ≤ 140737488351232 → (∀ x ∈ l0, (Lit.int .u8 x).wf = true) → ∃ k, laws_FnSurface.f k l0 = some true
theorem laws_FnSurface.walk (P : laws_FnSurface.Pure) (a0 : Option Addr) (len0 cap0 : Nat) (z0 : List Int) (w : World) (w0 : (a0 = none ∧ len0 = 0 ∧ cap0 = 0 ∧ z0 = []) ∨ ∃ x, a0 = some x ∧ len0 ≤ cap0 ∧ cap0 ≤ maxLen ∧ z0.length = cap0 ∧ (∀ i, i < z0.length → w.cell? (x.add i) = some (.int .u8 (z0.getD i 0))) ∧ ∀ n ∈ z0, (Lit.int .u8 n).wf = true) (y0 : len0 * 1 ≤ 140737488351232) :
    Calls Try.prog 7 #[.slice a0 len0 cap0] w fun e w' => e = .returned (.bool true) ∧ Below w.heap.size w w' := by
  obtain ⟨l0, rfl, hr0, hm0, hw0, hc0⟩ := ReadsInt.ofRowC w0
  obtain ⟨k, h⟩ := P l0 hm0 y0 hw0
  refine (laws_FnSurface.calls k _ _ l0 true w (Kd.C_of_reads (d := (0 : Int)) (h1 := fun _ => rfl) hr0) hc0 h).mono ?_
  rintro e w' ⟨rfl, hd⟩
  exact ⟨rfl, hd⟩

end Go.Proofs.Ytifcfkoohfbfoaa.PFnSurface
