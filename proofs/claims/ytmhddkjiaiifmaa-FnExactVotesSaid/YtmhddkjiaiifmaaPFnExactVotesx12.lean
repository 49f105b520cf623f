/- Walks of the functions named below, by a program of the session over the kit's printer. -/
import Derived.Test.YtmhddkjiaiifmaaPFnExactVotesx0
import Derived.Test.YtmhddkjiaiifmaaPFnExactVotesx1
import Derived.Test.YtmhddkjiaiifmaaPFnExactVotesx4
import Derived.Test.YtmhddkjiaiifmaaPFnExactVotesx5
import Derived.Test.YtmhddkjiaiifmaaPFnExactVotesx6
import Derived.Test.YtmhddkjiaiifmaaPFnExactVotesx10
import Derived.Test.YtmhddkjiaiifmaaPFnExactVotesx11
namespace Go.Proofs.Ytmhddkjiaiifmaa.PFnExactVotes
open Go.RowKit Go.Proofs.YtmhddkjiaiifmaaW.PrintWords Go.Proofs.YtmhddkjiaiifmaaW.PrintLast Go.Proofs.YtmhddkjiaiifmaaW.PrintMore
attribute [local go_sem] max2_int min2_int max_two min_two max_three min_three max_four min_four   -- for this text's walks alone
set_option linter.unusedVariables false
set_option linter.unusedSimpArgs false
abbrev t12 : Bool := true
abbrev f12 : Bool := false
abbrev A12_0 : Array Bool := #[f12, f12, f12, f12, f12]
abbrev A12_1 : Array Bool := #[t12, f12, f12, f12, f12]
abbrev A12_2 : Array Bool := #[t12, t12, f12, f12, f12]
abbrev A12_3 : Array Bool := #[t12, t12, t12, f12, f12]
abbrev A12_4 : Array Bool := #[t12, t12, t12, t12, f12]
abbrev A12_5 : Array Bool := #[t12, t12, t12, t12, t12]

/-! ### laws_FnExactVotes: function 11 -/
mutual
def laws_FnExactVotes.j0 : Nat → List (List Int) → List Int → List (List Int) → List Int → Bool → Int → Int → List Bool → List Int → Int → Int → List Bool → List Int → Int → Int → List Bool → List Int → Int → Int → List Bool → List Int → Option (Bool)
 | 0, _, _, _, _, _, _, _, _, _, _, _, _, _, _, _, _, _, _, _, _, _ => none
 | k + 1, x1, x7, x9, x11, x54, x402000, x402001, x402002, x402003, x427000, x427001, x427002, x427003, x436000, x436001, x436002, x436003, x451000, x451001, x451002, x451003 => if x54 = true then (some false) else ((laws_toVoter.f k x402000 x402001 x402002 x402003).bind fun bt453 => ((laws_eqVoter.f k x436000 x436001 x436002 x436003 bt453.1 bt453.2.1 bt453.2.2.1 bt453.2.2.2).bind fun t461 => (if t461 = true then ((laws_toIntSS.f k x1).bind fun t462 => ((laws_eqIntSS.f k x9 t462).bind fun t465 => (if t465 = true then ((laws_markVoter.f k x436000 x436001 x436002 x436003 1).bind fun bt466 => ((laws_markIntSS.f k x9 bt466.1).bind fun t469 => (if t469 < 0 then (laws_FnExactVotes.j1 k x1 x7 x11 true x402000 x402001 x402002 x402003 x427000 x427001 x427002 x427003 x451000 x451001 x451002 x451003) else ((laws_eqVoter.f k x451000 x451001 x451002 x451003 x427000 x427001 x427002 x427003).bind fun t470 => (if t470 = true then ((laws_eqIntS.f k x11 x7).bind fun t471 => (laws_FnExactVotes.j1 k x1 x7 x11 (!t471) x402000 x402001 x402002 x402003 x427000 x427001 x427002 x427003 x451000 x451001 x451002 x451003)) else (laws_FnExactVotes.j1 k x1 x7 x11 true x402000 x402001 x402002 x402003 x427000 x427001 x427002 x427003 x451000 x451001 x451002 x451003)))))) else (some false)))) else (some false))))
def laws_FnExactVotes.j1 : Nat → List (List Int) → List Int → List Int → Bool → Int → Int → List Bool → List Int → Int → Int → List Bool → List Int → Int → Int → List Bool → List Int → Option (Bool)
 | 0, _, _, _, _, _, _, _, _, _, _, _, _, _, _, _, _ => none
 | k + 1, x1, x7, x11, x84, x402000, x402001, x402002, x402003, x427000, x427001, x427002, x427003, x451000, x451001, x451002, x451003 => if x84 = true then (some false) else ((laws_markVoter.f k x451000 x451001 x451002 x451003 1).bind fun bt472 => ((laws_markIntS.f k x11 bt472.1).bind fun bt475 => ((laws_heldVoter.f k x451000 x451001 bt472.2.1 bt472.2.2 1).bind fun t477 => (if t477 < 0 then (some false) else ((laws_heldIntS.f k bt475.2 t477).bind fun t478 => (if t478 < 0 then (some false) else (if t478 = bt475.1 then ((laws_toVoter.f k x402000 x402001 x402002 x402003).bind fun bt479 => ((laws_toIntSS.f k x1).bind fun t487 => ((impl_Votes.f k bt479.1 bt479.2.1 bt479.2.2.1 bt479.2.2.2 t487).bind fun bt490 => ((laws_eqVoter.f k bt490.1 bt490.2.1 bt490.2.2.1 bt490.2.2.2.1 x427000 x427001 x427002 x427003).bind fun t502 => (if t502 = true then ((laws_eqIntS.f k bt490.2.2.2.2 x7).bind fun t503 => (laws_FnExactVotes.j2 k bt475.2 bt475.1 (!t503) x451000 x451001 bt472.2.1 bt472.2.2)) else (laws_FnExactVotes.j2 k bt475.2 bt475.1 true x451000 x451001 bt472.2.1 bt472.2.2)))))) else (some false))))))))
def laws_FnExactVotes.j2 : Nat → List Int → Int → Bool → Int → Int → List Bool → List Int → Option (Bool)
 | 0, _, _, _, _, _, _, _ => none
 | k + 1, x11, x13, x121, x451000, x451001, x451002, x451003 => if x121 = true then (some false) else ((laws_heldVoter.f k x451000 x451001 x451002 x451003 1).bind fun t504 => (if t504 < 0 then (some false) else ((laws_heldIntS.f k x11 t504).bind fun t505 => (if t505 < 0 then (some false) else (if t505 = x13 then (some true) else (some false))))))
end
def laws_FnExactVotes.f (k : Nat) (a0_0 : Int) (a0_1 : Int) (l0_2 : List Bool) (l0_3 : List Int) (l1 : List (List Int)) : Option (Bool) := (laws_szVoter.f a0_0 a0_1 l0_2 l0_3 1048576).bind fun t402 => (if t402 < 0 then (some true) else ((laws_szIntSS.f k l1 t402).bind fun t403 => (if t403 < 0 then (some true) else ((laws_toVoter.f k a0_0 a0_1 l0_2 l0_3).bind fun bt404 => ((laws_toIntSS.f k l1).bind fun t412 => ((spec_Votes.f k bt404.1 bt404.2.1 bt404.2.2.1 bt404.2.2.2 t412).bind fun bt415 => ((laws_toVoter.f k a0_0 a0_1 l0_2 l0_3).bind fun bt427 => ((laws_toIntSS.f k l1).bind fun t436 => ((impl_Votes.f k bt427.1 bt427.2.1 bt427.2.2.1 bt427.2.2.2 t436).bind fun bt439 => ((laws_eqVoter.f k bt439.1 bt439.2.1 bt439.2.2.1 bt439.2.2.2.1 bt415.1 bt415.2.1 bt415.2.2.1 bt415.2.2.2.1).bind fun t451 => (if t451 = true then ((laws_eqIntS.f k bt439.2.2.2.2 bt415.2.2.2.2).bind fun t452 => (laws_FnExactVotes.j0 k l1 bt415.2.2.2.2 t436 bt439.2.2.2.2 (!t452) a0_0 a0_1 l0_2 l0_3 bt415.1 bt415.2.1 bt415.2.2.1 bt415.2.2.2.1 bt427.1 bt427.2.1 bt427.2.2.1 bt427.2.2.2 bt439.1 bt439.2.1 bt439.2.2.1 bt439.2.2.2.1)) else (laws_FnExactVotes.j0 k l1 bt415.2.2.2.2 t436 bt439.2.2.2.2 true a0_0 a0_1 l0_2 l0_3 bt415.1 bt415.2.1 bt415.2.2.1 bt415.2.2.2.1 bt427.1 bt427.2.1 bt427.2.2.1 bt427.2.2.2 bt439.1 bt439.2.1 bt439.2.2.1 bt439.2.2.2.1))))))))))))
theorem laws_FnExactVotes.mono_l : ∀ k, (∀ y0 y1 y2 y3 y4 y5 y6 y7 y8 y9 y10 y11 y12 y13 y14 y15 y16 y17 y18 y19 y20, LeO (laws_FnExactVotes.j0 k y0 y1 y2 y3 y4 y5 y6 y7 y8 y9 y10 y11 y12 y13 y14 y15 y16 y17 y18 y19 y20) (laws_FnExactVotes.j0 (k + 1) y0 y1 y2 y3 y4 y5 y6 y7 y8 y9 y10 y11 y12 y13 y14 y15 y16 y17 y18 y19 y20)) ∧ (∀ y0 y1 y2 y3 y4 y5 y6 y7 y8 y9 y10 y11 y12 y13 y14 y15, LeO (laws_FnExactVotes.j1 k y0 y1 y2 y3 y4 y5 y6 y7 y8 y9 y10 y11 y12 y13 y14 y15) (laws_FnExactVotes.j1 (k + 1) y0 y1 y2 y3 y4 y5 y6 y7 y8 y9 y10 y11 y12 y13 y14 y15)) ∧ (∀ y0 y1 y2 y3 y4 y5 y6, LeO (laws_FnExactVotes.j2 k y0 y1 y2 y3 y4 y5 y6) (laws_FnExactVotes.j2 (k + 1) y0 y1 y2 y3 y4 y5 y6))
 | 0 => ⟨fun _ _ _ _ _ _ _ _ _ _ _ _ _ _ _ _ _ _ _ _ _ r h => by simp [laws_FnExactVotes.j0] at h, fun _ _ _ _ _ _ _ _ _ _ _ _ _ _ _ _ r h => by simp [laws_FnExactVotes.j1] at h, fun _ _ _ _ _ _ _ r h => by simp [laws_FnExactVotes.j2] at h⟩
 | k + 1 => by
  obtain ⟨ih0, ih1, ih2⟩ := laws_FnExactVotes.mono_l k; refine ⟨?_, ?_, ?_⟩
  ·
   intro y0 y1 y2 y3 y4 y5 y6 y7 y8 y9 y10 y11 y12 y13 y14 y15 y16 y17 y18 y19 y20
   unfold laws_FnExactVotes.j0
   repeat' first
   | (with_reducible exact ih0 _ _ _ _ _ _ _ _ _ _ _ _ _ _ _ _ _ _ _ _ _)
   | (with_reducible exact ih1 _ _ _ _ _ _ _ _ _ _ _ _ _ _ _ _)
   | (with_reducible exact ih2 _ _ _ _ _ _ _)
   | (with_reducible exact impl_Votes.mono _ _ _ _ _ _)
   | (with_reducible exact laws_eqIntS.mono _ _ _)
   | (with_reducible exact laws_eqIntSS.mono _ _ _)
   | (with_reducible exact laws_eqVoter.mono _ _ _ _ _ _ _ _ _)
   | (with_reducible exact laws_heldIntS.mono _ _ _)
   | (with_reducible exact laws_heldVoter.mono _ _ _ _ _ _)
   | (with_reducible exact laws_markIntS.mono _ _ _)
   | (with_reducible exact laws_markIntSS.mono _ _ _)
   | (with_reducible exact laws_markVoter.mono _ _ _ _ _ _)
   | (with_reducible exact laws_szIntSS.mono _ _ _)
   | (with_reducible exact laws_toIntSS.mono _ _)
   | (with_reducible exact laws_toVoter.mono _ _ _ _ _)
   | (with_reducible exact spec_Votes.mono _ _ _ _ _ _)
   | (with_reducible exact LeO.refl _)
   | (with_reducible exact LeO.none _)
   | (with_reducible refine LeO.ite ?_ ?_)
   | (with_reducible refine LeO.bind ?_ (fun _ => ?_))
   | exact ih0 _ _ _ _ _ _ _ _ _ _ _ _ _ _ _ _ _ _ _ _ _
   | exact ih1 _ _ _ _ _ _ _ _ _ _ _ _ _ _ _ _
   | exact ih2 _ _ _ _ _ _ _
   | exact impl_Votes.mono _ _ _ _ _ _
   | exact laws_eqIntS.mono _ _ _
   | exact laws_eqIntSS.mono _ _ _
   | exact laws_eqVoter.mono _ _ _ _ _ _ _ _ _
   | exact laws_heldIntS.mono _ _ _
   | exact laws_heldVoter.mono _ _ _ _ _ _
   | exact laws_markIntS.mono _ _ _
   | exact laws_markIntSS.mono _ _ _
   | exact laws_markVoter.mono _ _ _ _ _ _
   | exact laws_szIntSS.mono _ _ _
   | exact laws_toIntSS.mono _ _
   | exact laws_toVoter.mono _ _ _ _ _
   | exact spec_Votes.mono _ _ _ _ _ _
   | exact LeO.none _
   | refine LeO.ite ?_ ?_
   | refine LeO.bind ?_ (fun _ => ?_)
  ·
   intro y0 y1 y2 y3 y4 y5 y6 y7 y8 y9 y10 y11 y12 y13 y14 y15
   unfold laws_FnExactVotes.j1
   repeat' first
   | (with_reducible exact ih0 _ _ _ _ _ _ _ _ _ _ _ _ _ _ _ _ _ _ _ _ _)
   | (with_reducible exact ih1 _ _ _ _ _ _ _ _ _ _ _ _ _ _ _ _)
   | (with_reducible exact ih2 _ _ _ _ _ _ _)
   | (with_reducible exact impl_Votes.mono _ _ _ _ _ _)
   | (with_reducible exact laws_eqIntS.mono _ _ _)
   | (with_reducible exact laws_eqIntSS.mono _ _ _)
   | (with_reducible exact laws_eqVoter.mono _ _ _ _ _ _ _ _ _)
   | (with_reducible exact laws_heldIntS.mono _ _ _)
   | (with_reducible exact laws_heldVoter.mono _ _ _ _ _ _)
   | (with_reducible exact laws_markIntS.mono _ _ _)
   | (with_reducible exact laws_markIntSS.mono _ _ _)
   | (with_reducible exact laws_markVoter.mono _ _ _ _ _ _)
   | (with_reducible exact laws_szIntSS.mono _ _ _)
   | (with_reducible exact laws_toIntSS.mono _ _)
   | (with_reducible exact laws_toVoter.mono _ _ _ _ _)
   | (with_reducible exact spec_Votes.mono _ _ _ _ _ _)
   | (with_reducible exact LeO.refl _)
   | (with_reducible exact LeO.none _)
   | (with_reducible refine LeO.ite ?_ ?_)
   | (with_reducible refine LeO.bind ?_ (fun _ => ?_))
   | exact ih0 _ _ _ _ _ _ _ _ _ _ _ _ _ _ _ _ _ _ _ _ _
   | exact ih1 _ _ _ _ _ _ _ _ _ _ _ _ _ _ _ _
   | exact ih2 _ _ _ _ _ _ _
   | exact impl_Votes.mono _ _ _ _ _ _
   | exact laws_eqIntS.mono _ _ _
   | exact laws_eqIntSS.mono _ _ _
   | exact laws_eqVoter.mono _ _ _ _ _ _ _ _ _
   | exact laws_heldIntS.mono _ _ _
   | exact laws_heldVoter.mono _ _ _ _ _ _
   | exact laws_markIntS.mono _ _ _
   | exact laws_markIntSS.mono _ _ _
   | exact laws_markVoter.mono _ _ _ _ _ _
   | exact laws_szIntSS.mono _ _ _
   | exact laws_toIntSS.mono _ _
   | exact laws_toVoter.mono _ _ _ _ _
   | exact spec_Votes.mono _ _ _ _ _ _
   | exact LeO.none _
   | refine LeO.ite ?_ ?_
   | refine LeO.bind ?_ (fun _ => ?_)
  ·
   intro y0 y1 y2 y3 y4 y5 y6
   unfold laws_FnExactVotes.j2
   repeat' first
   | (with_reducible exact ih0 _ _ _ _ _ _ _ _ _ _ _ _ _ _ _ _ _ _ _ _ _)
   | (with_reducible exact ih1 _ _ _ _ _ _ _ _ _ _ _ _ _ _ _ _)
   | (with_reducible exact ih2 _ _ _ _ _ _ _)
   | (with_reducible exact impl_Votes.mono _ _ _ _ _ _)
   | (with_reducible exact laws_eqIntS.mono _ _ _)
   | (with_reducible exact laws_eqIntSS.mono _ _ _)
   | (with_reducible exact laws_eqVoter.mono _ _ _ _ _ _ _ _ _)
   | (with_reducible exact laws_heldIntS.mono _ _ _)
   | (with_reducible exact laws_heldVoter.mono _ _ _ _ _ _)
   | (with_reducible exact laws_markIntS.mono _ _ _)
   | (with_reducible exact laws_markIntSS.mono _ _ _)
   | (with_reducible exact laws_markVoter.mono _ _ _ _ _ _)
   | (with_reducible exact laws_szIntSS.mono _ _ _)
   | (with_reducible exact laws_toIntSS.mono _ _)
   | (with_reducible exact laws_toVoter.mono _ _ _ _ _)
   | (with_reducible exact spec_Votes.mono _ _ _ _ _ _)
   | (with_reducible exact LeO.refl _)
   | (with_reducible exact LeO.none _)
   | (with_reducible refine LeO.ite ?_ ?_)
   | (with_reducible refine LeO.bind ?_ (fun _ => ?_))
   | exact ih0 _ _ _ _ _ _ _ _ _ _ _ _ _ _ _ _ _ _ _ _ _
   | exact ih1 _ _ _ _ _ _ _ _ _ _ _ _ _ _ _ _
   | exact ih2 _ _ _ _ _ _ _
   | exact impl_Votes.mono _ _ _ _ _ _
   | exact laws_eqIntS.mono _ _ _
   | exact laws_eqIntSS.mono _ _ _
   | exact laws_eqVoter.mono _ _ _ _ _ _ _ _ _
   | exact laws_heldIntS.mono _ _ _
   | exact laws_heldVoter.mono _ _ _ _ _ _
   | exact laws_markIntS.mono _ _ _
   | exact laws_markIntSS.mono _ _ _
   | exact laws_markVoter.mono _ _ _ _ _ _
   | exact laws_szIntSS.mono _ _ _
   | exact laws_toIntSS.mono _ _
   | exact laws_toVoter.mono _ _ _ _ _
   | exact spec_Votes.mono _ _ _ _ _ _
   | exact LeO.none _
   | refine LeO.ite ?_ ?_
   | refine LeO.bind ?_ (fun _ => ?_)
theorem laws_FnExactVotes.mono : ∀ a0 a1 a2 a3 a4 k, LeO (laws_FnExactVotes.f k a0 a1 a2 a3 a4) (laws_FnExactVotes.f (k + 1) a0 a1 a2 a3 a4) := by
 intro a0 a1 a2 a3 a4 k; obtain ⟨ih0, ih1, ih2⟩ := laws_FnExactVotes.mono_l k
 unfold laws_FnExactVotes.f
 repeat' first
   | (with_reducible exact ih0 _ _ _ _ _ _ _ _ _ _ _ _ _ _ _ _ _ _ _ _ _)
   | (with_reducible exact ih1 _ _ _ _ _ _ _ _ _ _ _ _ _ _ _ _)
   | (with_reducible exact ih2 _ _ _ _ _ _ _)
   | (with_reducible exact impl_Votes.mono _ _ _ _ _ _)
   | (with_reducible exact laws_eqIntS.mono _ _ _)
   | (with_reducible exact laws_eqIntSS.mono _ _ _)
   | (with_reducible exact laws_eqVoter.mono _ _ _ _ _ _ _ _ _)
   | (with_reducible exact laws_heldIntS.mono _ _ _)
   | (with_reducible exact laws_heldVoter.mono _ _ _ _ _ _)
   | (with_reducible exact laws_markIntS.mono _ _ _)
   | (with_reducible exact laws_markIntSS.mono _ _ _)
   | (with_reducible exact laws_markVoter.mono _ _ _ _ _ _)
   | (with_reducible exact laws_szIntSS.mono _ _ _)
   | (with_reducible exact laws_toIntSS.mono _ _)
   | (with_reducible exact laws_toVoter.mono _ _ _ _ _)
   | (with_reducible exact spec_Votes.mono _ _ _ _ _ _)
   | (with_reducible exact LeO.refl _)
   | (with_reducible exact LeO.none _)
   | (with_reducible refine LeO.ite ?_ ?_)
   | (with_reducible refine LeO.bind ?_ (fun _ => ?_))
   | exact ih0 _ _ _ _ _ _ _ _ _ _ _ _ _ _ _ _ _ _ _ _ _
   | exact ih1 _ _ _ _ _ _ _ _ _ _ _ _ _ _ _ _
   | exact ih2 _ _ _ _ _ _ _
   | exact impl_Votes.mono _ _ _ _ _ _
   | exact laws_eqIntS.mono _ _ _
   | exact laws_eqIntSS.mono _ _ _
   | exact laws_eqVoter.mono _ _ _ _ _ _ _ _ _
   | exact laws_heldIntS.mono _ _ _
   | exact laws_heldVoter.mono _ _ _ _ _ _
   | exact laws_markIntS.mono _ _ _
   | exact laws_markIntSS.mono _ _ _
   | exact laws_markVoter.mono _ _ _ _ _ _
   | exact laws_szIntSS.mono _ _ _
   | exact laws_toIntSS.mono _ _
   | exact laws_toVoter.mono _ _ _ _ _
   | exact spec_Votes.mono _ _ _ _ _ _
   | exact LeO.none _
   | refine LeO.ite ?_ ?_
   | refine LeO.bind ?_ (fun _ => ?_)
end Go.Proofs.Ytmhddkjiaiifmaa.PFnExactVotes
