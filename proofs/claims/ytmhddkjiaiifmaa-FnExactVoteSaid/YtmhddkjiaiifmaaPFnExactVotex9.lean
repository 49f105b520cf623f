/- Walks of the functions named below, by a program of the session over the kit's printer. -/
import Derived.Test.YtmhddkjiaiifmaaPFnExactVotex0
import Derived.Test.YtmhddkjiaiifmaaPFnExactVotex1
import Derived.Test.YtmhddkjiaiifmaaPFnExactVotex3
import Derived.Test.YtmhddkjiaiifmaaPFnExactVotex4
import Derived.Test.YtmhddkjiaiifmaaPFnExactVotex5
import Derived.Test.YtmhddkjiaiifmaaPFnExactVotex8
namespace Go.Proofs.Ytmhddkjiaiifmaa.PFnExactVote
open Go.RowKit Go.Proofs.YtmhddkjiaiifmaaW.PrintWords Go.Proofs.YtmhddkjiaiifmaaW.PrintLast Go.Proofs.YtmhddkjiaiifmaaW.PrintMore
attribute [local go_sem] max2_int min2_int max_two min_two max_three min_three max_four min_four   -- for this text's walks alone
set_option linter.unusedVariables false
set_option linter.unusedSimpArgs false
abbrev t9 : Bool := true
abbrev f9 : Bool := false
abbrev A9_0 : Array Bool := #[f9, f9, f9, f9, f9]
abbrev A9_1 : Array Bool := #[t9, f9, f9, f9, f9]
abbrev A9_2 : Array Bool := #[t9, t9, f9, f9, f9]
abbrev A9_3 : Array Bool := #[t9, t9, t9, f9, f9]
abbrev A9_4 : Array Bool := #[t9, t9, t9, t9, f9]
abbrev A9_5 : Array Bool := #[t9, t9, t9, t9, t9]

/-! ### laws_FnExactVote: function 10 -/
mutual
def laws_FnExactVote.j0 : Nat → List Int → Int → Int → List Int → Int → Int → Bool → Int → Int → List Bool → List Int → Int → Int → List Bool → List Int → Int → Int → List Bool → List Int → Int → Int → List Bool → List Int → Option (Bool)
 | 0, _, _, _, _, _, _, _, _, _, _, _, _, _, _, _, _, _, _, _, _, _, _, _ => none
 | k + 1, x1, x7, x8, x10, x12, x13, x61, x331000, x331001, x331002, x331003, x354000, x354001, x354002, x354003, x363000, x363001, x363002, x363003, x377000, x377001, x377002, x377003 => if x61 = true then (some false) else ((laws_toVoter.f k x331000 x331001 x331002 x331003).bind fun bt378 => ((laws_eqVoter.f k x363000 x363001 x363002 x363003 bt378.1 bt378.2.1 bt378.2.2.1 bt378.2.2.2).bind fun t386 => (if t386 = true then ((laws_toIntS.f k x1).bind fun t387 => ((laws_eqIntS.f k x10 t387).bind fun t390 => (if t390 = true then ((laws_markVoter.f k x363000 x363001 x363002 x363003 1).bind fun bt391 => ((laws_markIntS.f k x10 bt391.1).bind fun bt394 => (if bt394.1 < 0 then (laws_FnExactVote.j1 k x1 x7 x8 true x331000 x331001 x331002 x331003 x354000 x354001 x354002 x354003 x377000 x377001 x377002 x377003) else ((laws_eqVoter.f k x377000 x377001 x377002 x377003 x354000 x354001 x354002 x354003).bind fun t396 => (if t396 = true then (if x12 = x7 then (laws_FnExactVote.j1 k x1 x7 x8 (x13 != x8) x331000 x331001 x331002 x331003 x354000 x354001 x354002 x354003 x377000 x377001 x377002 x377003) else (laws_FnExactVote.j1 k x1 x7 x8 true x331000 x331001 x331002 x331003 x354000 x354001 x354002 x354003 x377000 x377001 x377002 x377003)) else (laws_FnExactVote.j1 k x1 x7 x8 true x331000 x331001 x331002 x331003 x354000 x354001 x354002 x354003 x377000 x377001 x377002 x377003)))))) else (some false)))) else (some false))))
def laws_FnExactVote.j1 : Nat → List Int → Int → Int → Bool → Int → Int → List Bool → List Int → Int → Int → List Bool → List Int → Int → Int → List Bool → List Int → Option (Bool)
 | 0, _, _, _, _, _, _, _, _, _, _, _, _, _, _, _, _ => none
 | k + 1, x1, x7, x8, x95, x331000, x331001, x331002, x331003, x354000, x354001, x354002, x354003, x377000, x377001, x377002, x377003 => if x95 = true then (some false) else ((laws_markVoter.f k x377000 x377001 x377002 x377003 1).bind fun bt397 => ((laws_heldVoter.f k x377000 x377001 bt397.2.1 bt397.2.2 1).bind fun t400 => (if t400 < 0 then (some false) else (if t400 = bt397.1 then ((laws_toVoter.f k x331000 x331001 x331002 x331003).bind fun bt401 => ((laws_toIntS.f k x1).bind fun t409 => ((impl_Vote.f k bt401.1 bt401.2.1 bt401.2.2.1 bt401.2.2.2 t409).bind fun bt412 => ((laws_eqVoter.f k bt412.1 bt412.2.1 bt412.2.2.1 bt412.2.2.2.1 x354000 x354001 x354002 x354003).bind fun t423 => (if t423 = true then (if bt412.2.2.2.2.1 = x7 then (laws_FnExactVote.j2 k bt397.1 (bt412.2.2.2.2.2 != x8) x377000 x377001 bt397.2.1 bt397.2.2) else (laws_FnExactVote.j2 k bt397.1 true x377000 x377001 bt397.2.1 bt397.2.2)) else (laws_FnExactVote.j2 k bt397.1 true x377000 x377001 bt397.2.1 bt397.2.2)))))) else (some false)))))
def laws_FnExactVote.j2 : Nat → Int → Bool → Int → Int → List Bool → List Int → Option (Bool)
 | 0, _, _, _, _, _, _ => none
 | k + 1, x15, x129, x377000, x377001, x377002, x377003 => if x129 = true then (some false) else ((laws_heldVoter.f k x377000 x377001 x377002 x377003 1).bind fun t424 => (if t424 < 0 then (some false) else (if t424 = x15 then (some true) else (some false))))
end
def laws_FnExactVote.f (k : Nat) (a0_0 : Int) (a0_1 : Int) (l0_2 : List Bool) (l0_3 : List Int) (l1 : List Int) : Option (Bool) := if (l1.length : Int) > 1048576 then (some true) else ((laws_szVoter.f a0_0 a0_1 l0_2 l0_3 1048576).bind fun t331 => (if t331 < 0 then (some true) else ((laws_toVoter.f k a0_0 a0_1 l0_2 l0_3).bind fun bt332 => ((laws_toIntS.f k l1).bind fun t340 => ((spec_Vote.f k bt332.1 bt332.2.1 bt332.2.2.1 bt332.2.2.2 t340).bind fun bt343 => ((laws_toVoter.f k a0_0 a0_1 l0_2 l0_3).bind fun bt354 => ((laws_toIntS.f k l1).bind fun t363 => ((impl_Vote.f k bt354.1 bt354.2.1 bt354.2.2.1 bt354.2.2.2 t363).bind fun bt366 => ((laws_eqVoter.f k bt366.1 bt366.2.1 bt366.2.2.1 bt366.2.2.2.1 bt343.1 bt343.2.1 bt343.2.2.1 bt343.2.2.2.1).bind fun t377 => (if t377 = true then (if bt366.2.2.2.2.1 = bt343.2.2.2.2.1 then (laws_FnExactVote.j0 k l1 bt343.2.2.2.2.1 bt343.2.2.2.2.2 t363 bt366.2.2.2.2.1 bt366.2.2.2.2.2 (bt366.2.2.2.2.2 != bt343.2.2.2.2.2) a0_0 a0_1 l0_2 l0_3 bt343.1 bt343.2.1 bt343.2.2.1 bt343.2.2.2.1 bt354.1 bt354.2.1 bt354.2.2.1 bt354.2.2.2 bt366.1 bt366.2.1 bt366.2.2.1 bt366.2.2.2.1) else (laws_FnExactVote.j0 k l1 bt343.2.2.2.2.1 bt343.2.2.2.2.2 t363 bt366.2.2.2.2.1 bt366.2.2.2.2.2 true a0_0 a0_1 l0_2 l0_3 bt343.1 bt343.2.1 bt343.2.2.1 bt343.2.2.2.1 bt354.1 bt354.2.1 bt354.2.2.1 bt354.2.2.2 bt366.1 bt366.2.1 bt366.2.2.1 bt366.2.2.2.1)) else (laws_FnExactVote.j0 k l1 bt343.2.2.2.2.1 bt343.2.2.2.2.2 t363 bt366.2.2.2.2.1 bt366.2.2.2.2.2 true a0_0 a0_1 l0_2 l0_3 bt343.1 bt343.2.1 bt343.2.2.1 bt343.2.2.2.1 bt354.1 bt354.2.1 bt354.2.2.1 bt354.2.2.2 bt366.1 bt366.2.1 bt366.2.2.1 bt366.2.2.2.1)))))))))))
theorem laws_FnExactVote.mono_l : ∀ k, (∀ y0 y1 y2 y3 y4 y5 y6 y7 y8 y9 y10 y11 y12 y13 y14 y15 y16 y17 y18 y19 y20 y21 y22, LeO (laws_FnExactVote.j0 k y0 y1 y2 y3 y4 y5 y6 y7 y8 y9 y10 y11 y12 y13 y14 y15 y16 y17 y18 y19 y20 y21 y22) (laws_FnExactVote.j0 (k + 1) y0 y1 y2 y3 y4 y5 y6 y7 y8 y9 y10 y11 y12 y13 y14 y15 y16 y17 y18 y19 y20 y21 y22)) ∧ (∀ y0 y1 y2 y3 y4 y5 y6 y7 y8 y9 y10 y11 y12 y13 y14 y15, LeO (laws_FnExactVote.j1 k y0 y1 y2 y3 y4 y5 y6 y7 y8 y9 y10 y11 y12 y13 y14 y15) (laws_FnExactVote.j1 (k + 1) y0 y1 y2 y3 y4 y5 y6 y7 y8 y9 y10 y11 y12 y13 y14 y15)) ∧ (∀ y0 y1 y2 y3 y4 y5, LeO (laws_FnExactVote.j2 k y0 y1 y2 y3 y4 y5) (laws_FnExactVote.j2 (k + 1) y0 y1 y2 y3 y4 y5))
 | 0 => ⟨fun _ _ _ _ _ _ _ _ _ _ _ _ _ _ _ _ _ _ _ _ _ _ _ r h => by simp [laws_FnExactVote.j0] at h, fun _ _ _ _ _ _ _ _ _ _ _ _ _ _ _ _ r h => by simp [laws_FnExactVote.j1] at h, fun _ _ _ _ _ _ r h => by simp [laws_FnExactVote.j2] at h⟩
 | k + 1 => by
  obtain ⟨ih0, ih1, ih2⟩ := laws_FnExactVote.mono_l k; refine ⟨?_, ?_, ?_⟩
  ·
   intro y0 y1 y2 y3 y4 y5 y6 y7 y8 y9 y10 y11 y12 y13 y14 y15 y16 y17 y18 y19 y20 y21 y22
   unfold laws_FnExactVote.j0
   repeat' first
   | (with_reducible exact ih0 _ _ _ _ _ _ _ _ _ _ _ _ _ _ _ _ _ _ _ _ _ _ _)
   | (with_reducible exact ih1 _ _ _ _ _ _ _ _ _ _ _ _ _ _ _ _)
   | (with_reducible exact ih2 _ _ _ _ _ _)
   | (with_reducible exact impl_Vote.mono _ _ _ _ _ _)
   | (with_reducible exact laws_eqIntS.mono _ _ _)
   | (with_reducible exact laws_eqVoter.mono _ _ _ _ _ _ _ _ _)
   | (with_reducible exact laws_heldVoter.mono _ _ _ _ _ _)
   | (with_reducible exact laws_markIntS.mono _ _ _)
   | (with_reducible exact laws_markVoter.mono _ _ _ _ _ _)
   | (with_reducible exact laws_toIntS.mono _ _)
   | (with_reducible exact laws_toVoter.mono _ _ _ _ _)
   | (with_reducible exact spec_Vote.mono _ _ _ _ _ _)
   | (with_reducible exact LeO.refl _)
   | (with_reducible exact LeO.none _)
   | (with_reducible refine LeO.ite ?_ ?_)
   | (with_reducible refine LeO.bind ?_ (fun _ => ?_))
   | exact ih0 _ _ _ _ _ _ _ _ _ _ _ _ _ _ _ _ _ _ _ _ _ _ _
   | exact ih1 _ _ _ _ _ _ _ _ _ _ _ _ _ _ _ _
   | exact ih2 _ _ _ _ _ _
   | exact impl_Vote.mono _ _ _ _ _ _
   | exact laws_eqIntS.mono _ _ _
   | exact laws_eqVoter.mono _ _ _ _ _ _ _ _ _
   | exact laws_heldVoter.mono _ _ _ _ _ _
   | exact laws_markIntS.mono _ _ _
   | exact laws_markVoter.mono _ _ _ _ _ _
   | exact laws_toIntS.mono _ _
   | exact laws_toVoter.mono _ _ _ _ _
   | exact spec_Vote.mono _ _ _ _ _ _
   | exact LeO.none _
   | refine LeO.ite ?_ ?_
   | refine LeO.bind ?_ (fun _ => ?_)
  ·
   intro y0 y1 y2 y3 y4 y5 y6 y7 y8 y9 y10 y11 y12 y13 y14 y15
   unfold laws_FnExactVote.j1
   repeat' first
   | (with_reducible exact ih0 _ _ _ _ _ _ _ _ _ _ _ _ _ _ _ _ _ _ _ _ _ _ _)
   | (with_reducible exact ih1 _ _ _ _ _ _ _ _ _ _ _ _ _ _ _ _)
   | (with_reducible exact ih2 _ _ _ _ _ _)
   | (with_reducible exact impl_Vote.mono _ _ _ _ _ _)
   | (with_reducible exact laws_eqIntS.mono _ _ _)
   | (with_reducible exact laws_eqVoter.mono _ _ _ _ _ _ _ _ _)
   | (with_reducible exact laws_heldVoter.mono _ _ _ _ _ _)
   | (with_reducible exact laws_markIntS.mono _ _ _)
   | (with_reducible exact laws_markVoter.mono _ _ _ _ _ _)
   | (with_reducible exact laws_toIntS.mono _ _)
   | (with_reducible exact laws_toVoter.mono _ _ _ _ _)
   | (with_reducible exact spec_Vote.mono _ _ _ _ _ _)
   | (with_reducible exact LeO.refl _)
   | (with_reducible exact LeO.none _)
   | (with_reducible refine LeO.ite ?_ ?_)
   | (with_reducible refine LeO.bind ?_ (fun _ => ?_))
   | exact ih0 _ _ _ _ _ _ _ _ _ _ _ _ _ _ _ _ _ _ _ _ _ _ _
   | exact ih1 _ _ _ _ _ _ _ _ _ _ _ _ _ _ _ _
   | exact ih2 _ _ _ _ _ _
   | exact impl_Vote.mono _ _ _ _ _ _
   | exact laws_eqIntS.mono _ _ _
   | exact laws_eqVoter.mono _ _ _ _ _ _ _ _ _
   | exact laws_heldVoter.mono _ _ _ _ _ _
   | exact laws_markIntS.mono _ _ _
   | exact laws_markVoter.mono _ _ _ _ _ _
   | exact laws_toIntS.mono _ _
   | exact laws_toVoter.mono _ _ _ _ _
   | exact spec_Vote.mono _ _ _ _ _ _
   | exact LeO.none _
   | refine LeO.ite ?_ ?_
   | refine LeO.bind ?_ (fun _ => ?_)
  ·
   intro y0 y1 y2 y3 y4 y5
   unfold laws_FnExactVote.j2
   repeat' first
   | (with_reducible exact ih0 _ _ _ _ _ _ _ _ _ _ _ _ _ _ _ _ _ _ _ _ _ _ _)
   | (with_reducible exact ih1 _ _ _ _ _ _ _ _ _ _ _ _ _ _ _ _)
   | (with_reducible exact ih2 _ _ _ _ _ _)
   | (with_reducible exact impl_Vote.mono _ _ _ _ _ _)
   | (with_reducible exact laws_eqIntS.mono _ _ _)
   | (with_reducible exact laws_eqVoter.mono _ _ _ _ _ _ _ _ _)
   | (with_reducible exact laws_heldVoter.mono _ _ _ _ _ _)
   | (with_reducible exact laws_markIntS.mono _ _ _)
   | (with_reducible exact laws_markVoter.mono _ _ _ _ _ _)
   | (with_reducible exact laws_toIntS.mono _ _)
   | (with_reducible exact laws_toVoter.mono _ _ _ _ _)
   | (with_reducible exact spec_Vote.mono _ _ _ _ _ _)
   | (with_reducible exact LeO.refl _)
   | (with_reducible exact LeO.none _)
   | (with_reducible refine LeO.ite ?_ ?_)
   | (with_reducible refine LeO.bind ?_ (fun _ => ?_))
   | exact ih0 _ _ _ _ _ _ _ _ _ _ _ _ _ _ _ _ _ _ _ _ _ _ _
   | exact ih1 _ _ _ _ _ _ _ _ _ _ _ _ _ _ _ _
   | exact ih2 _ _ _ _ _ _
   | exact impl_Vote.mono _ _ _ _ _ _
   | exact laws_eqIntS.mono _ _ _
   | exact laws_eqVoter.mono _ _ _ _ _ _ _ _ _
   | exact laws_heldVoter.mono _ _ _ _ _ _
   | exact laws_markIntS.mono _ _ _
   | exact laws_markVoter.mono _ _ _ _ _ _
   | exact laws_toIntS.mono _ _
   | exact laws_toVoter.mono _ _ _ _ _
   | exact spec_Vote.mono _ _ _ _ _ _
   | exact LeO.none _
   | refine LeO.ite ?_ ?_
   | refine LeO.bind ?_ (fun _ => ?_)
theorem laws_FnExactVote.mono : ∀ a0 a1 a2 a3 a4 k, LeO (laws_FnExactVote.f k a0 a1 a2 a3 a4) (laws_FnExactVote.f (k + 1) a0 a1 a2 a3 a4) := by
 intro a0 a1 a2 a3 a4 k; obtain ⟨ih0, ih1, ih2⟩ := laws_FnExactVote.mono_l k
 unfold laws_FnExactVote.f
 repeat' first
   | (with_reducible exact ih0 _ _ _ _ _ _ _ _ _ _ _ _ _ _ _ _ _ _ _ _ _ _ _)
   | (with_reducible exact ih1 _ _ _ _ _ _ _ _ _ _ _ _ _ _ _ _)
   | (with_reducible exact ih2 _ _ _ _ _ _)
   | (with_reducible exact impl_Vote.mono _ _ _ _ _ _)
   | (with_reducible exact laws_eqIntS.mono _ _ _)
   | (with_reducible exact laws_eqVoter.mono _ _ _ _ _ _ _ _ _)
   | (with_reducible exact laws_heldVoter.mono _ _ _ _ _ _)
   | (with_reducible exact laws_markIntS.mono _ _ _)
   | (with_reducible exact laws_markVoter.mono _ _ _ _ _ _)
   | (with_reducible exact laws_toIntS.mono _ _)
   | (with_reducible exact laws_toVoter.mono _ _ _ _ _)
   | (with_reducible exact spec_Vote.mono _ _ _ _ _ _)
   | (with_reducible exact LeO.refl _)
   | (with_reducible exact LeO.none _)
   | (with_reducible refine LeO.ite ?_ ?_)
   | (with_reducible refine LeO.bind ?_ (fun _ => ?_))
   | exact ih0 _ _ _ _ _ _ _ _ _ _ _ _ _ _ _ _ _ _ _ _ _ _ _
   | exact ih1 _ _ _ _ _ _ _ _ _ _ _ _ _ _ _ _
   | exact ih2 _ _ _ _ _ _
   | exact impl_Vote.mono _ _ _ _ _ _
   | exact laws_eqIntS.mono _ _ _
   | exact laws_eqVoter.mono _ _ _ _ _ _ _ _ _
   | exact laws_heldVoter.mono _ _ _ _ _ _
   | exact laws_markIntS.mono _ _ _
   | exact laws_markVoter.mono _ _ _ _ _ _
   | exact laws_toIntS.mono _ _
   | exact laws_toVoter.mono _ _ _ _ _
   | exact spec_Vote.mono _ _ _ _ _ _
   | exact LeO.none _
   | refine LeO.ite ?_ ?_
   | refine LeO.bind ?_ (fun _ => ?_)
end Go.Proofs.Ytmhddkjiaiifmaa.PFnExactVote
