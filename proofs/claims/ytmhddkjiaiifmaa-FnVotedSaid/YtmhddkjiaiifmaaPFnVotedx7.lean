/- Walks of the functions named below, by a program of the session over the kit's printer. -/
import Derived.Test.YtmhddkjiaiifmaaPFnVotedx0
import Derived.Test.YtmhddkjiaiifmaaPFnVotedx1
import Derived.Test.YtmhddkjiaiifmaaPFnVotedx2
import Derived.Test.YtmhddkjiaiifmaaPFnVotedx5
import Derived.Test.YtmhddkjiaiifmaaPFnVotedx6
namespace Go.Proofs.Ytmhddkjiaiifmaa.PFnVoted
open Go.RowKit Go.Proofs.YtmhddkjiaiifmaaW.PrintWords Go.Proofs.YtmhddkjiaiifmaaW.PrintLast Go.Proofs.YtmhddkjiaiifmaaW.PrintMore
attribute [local go_sem] max2_int min2_int max_two min_two max_three min_three max_four min_four   -- for this text's walks alone
set_option linter.unusedVariables false
set_option linter.unusedSimpArgs false

/-! ### laws_FnVoted: function 4 -/
mutual
def laws_FnVoted.j0 : Nat → List Int → Int → Bool → Int → Int → List Bool → List Int → Option (Bool)
 | 0, _, _, _, _, _, _, _ => none
 | k + 1, x0, x3, x42, x235000, x235001, x235002, x235003 => if x42 = true then (some false) else ((laws_at.f x0 1).bind fun t236 => ((laws_at.f x0 2).bind fun t237 => (laws_FnVoted.l0 k x0 x3 (wrap64 (t236 - 128)) (Int.tmod t237 3) 0 x235000 x235001 x235002 x235003)))
def laws_FnVoted.l0 : Nat → List Int → Int → Int → Int → Int → Int → Int → List Bool → List Int → Option (Bool)
 | 0, _, _, _, _, _, _, _, _, _ => none
 | k + 1, x0, x3, x6, x7, x8, x235000, x235001, x235002, x235003 => if x8 < x3 then ((some (([x6, x6, x6] : List Int) : List Int)).bind fun y275 => ((laws_at.f x0 (wrap64 (x8 + 4))).bind fun t278 => (if 0 ≤ (Int.tmod (wrap64 (x7 + 1)) 3) then (if (Int.tmod (wrap64 (x7 + 1)) 3) < (y275.length : Int) then ((laws_at.f x0 (wrap64 (x8 + 10))).bind fun t280 => (if 0 ≤ x7 then (if x7 < (y275.length : Int) then ((some ((y275.set ((Int.tmod (wrap64 (x7 + 1)) 3) : Int).toNat (wrap64 (x6 + (Int.tmod t278 6)))).set (x7 : Int).toNat (wrap64 ((wrap64 (x6 + 100)) + t280)) : List Int)).bind fun y281 => ((laws_at.f x0 3).bind fun t282 => (if (Int.tmod t282 2) = 0 then ((laws_at.f x0 (wrap64 (x8 + 10))).bind fun t283 => (laws_FnVoted.j2 k x0 x3 x6 x7 x8 (y281.set (x7 : Int).toNat (wrap64 ((wrap64 (x6 - 100)) - t283))) x235000 x235001 x235002 x235003)) else (laws_FnVoted.j2 k x0 x3 x6 x7 x8 y281 x235000 x235001 x235002 x235003)))) else (none)) else (none))) else (none)) else (none)))) else ((some (([x6, x6, x6] : List Int) : List Int)).bind fun y238 => (if 0 ≤ x7 then (if x7 < (y238.length : Int) then ((some (y238.set (x7 : Int).toNat (wrap64 (x6 + 1000)) : List Int)).bind fun y241 => ((impl_Vote.f k x235000 x235001 x235002 x235003 y241).bind fun bt242 => (if 0 ≤ (Int.tmod (wrap64 (x7 + 1)) 3) then (if (Int.tmod (wrap64 (x7 + 1)) 3) < (y238.length : Int) then ((impl_Votes.f k x235000 x235001 x235002 x235003 (([(([x6, x6, x6] : List Int))] : List (List Int)))).bind fun bt260 => (if bt242.2.2.2.2.2 = 2 then (if bt242.2.2.2.2.1 = x6 then (if x7 < (bt242.2.2.1.length : Int) then (if rdOf false bt242.2.2.1 x7 = true then ((impl_TwoAlike.f k x235000 x235001 x235002 x235003 (y241.set ((Int.tmod (wrap64 (x7 + 1)) 3) : Int).toNat (wrap64 (x6 + 11)))).bind fun t273 => (if t273 = true then (if (bt260.2.2.2.2.length : Int) = 1 then (if 0 < (bt260.2.2.2.2.length : Int) then (if (rd bt260.2.2.2.2 0) = x6 then (some (bt260.2.1 == x3)) else (some false)) else (none)) else (some false)) else (some false))) else (some false)) else (none)) else (some false)) else (some false))) else (none)) else (none)))) else (none)) else (none)))
def laws_FnVoted.j2 : Nat → List Int → Int → Int → Int → Int → List Int → Int → Int → List Bool → List Int → Option (Bool)
 | 0, _, _, _, _, _, _, _, _, _, _ => none
 | k + 1, x0, x3, x6, x7, x8, x9, x235000, x235001, x235002, x235003 => (impl_Vote.f k x235000 x235001 x235002 x235003 x9).bind fun bt285 => (if bt285.2.2.2.2.2 = 3 then (if bt285.2.2.2.2.1 < x6 then (laws_FnVoted.j3 k x0 x3 x6 x7 x8 true bt285.1 bt285.2.1 bt285.2.2.1 bt285.2.2.2.1) else (if bt285.2.2.2.2.1 > (wrap64 (x6 + 6)) then (laws_FnVoted.j3 k x0 x3 x6 x7 x8 true bt285.1 bt285.2.1 bt285.2.2.1 bt285.2.2.2.1) else ((impl_VoterOk.f k bt285.1 bt285.2.1 bt285.2.2.1 bt285.2.2.2.1).bind fun t296 => (laws_FnVoted.j3 k x0 x3 x6 x7 x8 (!t296) bt285.1 bt285.2.1 bt285.2.2.1 bt285.2.2.2.1)))) else (laws_FnVoted.j3 k x0 x3 x6 x7 x8 true bt285.1 bt285.2.1 bt285.2.2.1 bt285.2.2.2.1))
def laws_FnVoted.j3 : Nat → List Int → Int → Int → Int → Int → Bool → Int → Int → List Bool → List Int → Option (Bool)
 | 0, _, _, _, _, _, _, _, _, _, _ => none
 | k + 1, x0, x3, x6, x7, x8, x118, x296000, x296001, x296002, x296003 => if x118 = true then (some false) else (if 0 ≤ x7 then (if x7 < (x296002.length : Int) then (if ((rdOf false x296002 x7) != (x8 == (wrap64 (x3 - 1)))) = true then (some false) else (if 0 ≤ (Int.tmod (wrap64 (x7 + 1)) 3) then (if (Int.tmod (wrap64 (x7 + 1)) 3) < (x296002.length : Int) then (if rdOf false x296002 (Int.tmod (wrap64 (x7 + 1)) 3) = true then (some false) else (if 0 ≤ (Int.tmod (wrap64 (x7 + 2)) 3) then (if (Int.tmod (wrap64 (x7 + 2)) 3) < (x296002.length : Int) then (if rdOf false x296002 (Int.tmod (wrap64 (x7 + 2)) 3) = true then (some false) else (laws_FnVoted.l0 k x0 x3 x6 x7 (wrap64 (x8 + 1)) x296000 x296001 x296002 x296003)) else (none)) else (none))) else (none)) else (none))) else (none)) else (none))
end
def laws_FnVoted.f (k : Nat) (l0 : List Int) : Option (Bool) := (laws_big.f l0).bind fun t223 => (if t223 = true then (some true) else ((laws_at.f l0 0).bind fun t224 => ((impl_Fresh.f k 3 10 (wrap64 (1 + (Int.tmod t224 5)))).bind fun bt225 => (if bt225.2.2.2.2 = true then ((impl_VoterOk.f k bt225.1 bt225.2.1 bt225.2.2.1 bt225.2.2.2.1).bind fun t235 => (if t235 = true then (laws_FnVoted.j0 k l0 (wrap64 (1 + (Int.tmod t224 5))) ((bt225.2.2.1.length : Int) != 3) bt225.1 bt225.2.1 bt225.2.2.1 bt225.2.2.2.1) else (laws_FnVoted.j0 k l0 (wrap64 (1 + (Int.tmod t224 5))) true bt225.1 bt225.2.1 bt225.2.2.1 bt225.2.2.2.1))) else (laws_FnVoted.j0 k l0 (wrap64 (1 + (Int.tmod t224 5))) true bt225.1 bt225.2.1 bt225.2.2.1 bt225.2.2.2.1)))))
theorem laws_FnVoted.mono_l : ∀ k, (∀ y0 y1 y2 y3 y4 y5 y6, LeO (laws_FnVoted.j0 k y0 y1 y2 y3 y4 y5 y6) (laws_FnVoted.j0 (k + 1) y0 y1 y2 y3 y4 y5 y6)) ∧ (∀ y0 y1 y2 y3 y4 y5 y6 y7 y8, LeO (laws_FnVoted.l0 k y0 y1 y2 y3 y4 y5 y6 y7 y8) (laws_FnVoted.l0 (k + 1) y0 y1 y2 y3 y4 y5 y6 y7 y8)) ∧ (∀ y0 y1 y2 y3 y4 y5 y6 y7 y8 y9, LeO (laws_FnVoted.j2 k y0 y1 y2 y3 y4 y5 y6 y7 y8 y9) (laws_FnVoted.j2 (k + 1) y0 y1 y2 y3 y4 y5 y6 y7 y8 y9)) ∧ (∀ y0 y1 y2 y3 y4 y5 y6 y7 y8 y9, LeO (laws_FnVoted.j3 k y0 y1 y2 y3 y4 y5 y6 y7 y8 y9) (laws_FnVoted.j3 (k + 1) y0 y1 y2 y3 y4 y5 y6 y7 y8 y9))
 | 0 => ⟨fun _ _ _ _ _ _ _ r h => by simp [laws_FnVoted.j0] at h, fun _ _ _ _ _ _ _ _ _ r h => by simp [laws_FnVoted.l0] at h, fun _ _ _ _ _ _ _ _ _ _ r h => by simp [laws_FnVoted.j2] at h, fun _ _ _ _ _ _ _ _ _ _ r h => by simp [laws_FnVoted.j3] at h⟩
 | k + 1 => by
  obtain ⟨ih0, ih1, ih2, ih3⟩ := laws_FnVoted.mono_l k; refine ⟨?_, ?_, ?_, ?_⟩
  ·
   intro y0 y1 y2 y3 y4 y5 y6
   unfold laws_FnVoted.j0
   repeat' first
   | (with_reducible exact ih0 _ _ _ _ _ _ _)
   | (with_reducible exact ih1 _ _ _ _ _ _ _ _ _)
   | (with_reducible exact ih2 _ _ _ _ _ _ _ _ _ _)
   | (with_reducible exact ih3 _ _ _ _ _ _ _ _ _ _)
   | (with_reducible exact impl_Fresh.mono _ _ _ _)
   | (with_reducible exact impl_TwoAlike.mono _ _ _ _ _ _)
   | (with_reducible exact impl_Vote.mono _ _ _ _ _ _)
   | (with_reducible exact impl_VoterOk.mono _ _ _ _ _)
   | (with_reducible exact impl_Votes.mono _ _ _ _ _ _)
   | (with_reducible exact LeO.refl _)
   | (with_reducible exact LeO.none _)
   | (with_reducible refine LeO.ite ?_ ?_)
   | (with_reducible refine LeO.bind ?_ (fun _ => ?_))
   | exact ih0 _ _ _ _ _ _ _
   | exact ih1 _ _ _ _ _ _ _ _ _
   | exact ih2 _ _ _ _ _ _ _ _ _ _
   | exact ih3 _ _ _ _ _ _ _ _ _ _
   | exact impl_Fresh.mono _ _ _ _
   | exact impl_TwoAlike.mono _ _ _ _ _ _
   | exact impl_Vote.mono _ _ _ _ _ _
   | exact impl_VoterOk.mono _ _ _ _ _
   | exact impl_Votes.mono _ _ _ _ _ _
   | exact LeO.none _
   | refine LeO.ite ?_ ?_
   | refine LeO.bind ?_ (fun _ => ?_)
  ·
   intro y0 y1 y2 y3 y4 y5 y6 y7 y8
   unfold laws_FnVoted.l0
   repeat' first
   | (with_reducible exact ih0 _ _ _ _ _ _ _)
   | (with_reducible exact ih1 _ _ _ _ _ _ _ _ _)
   | (with_reducible exact ih2 _ _ _ _ _ _ _ _ _ _)
   | (with_reducible exact ih3 _ _ _ _ _ _ _ _ _ _)
   | (with_reducible exact impl_Fresh.mono _ _ _ _)
   | (with_reducible exact impl_TwoAlike.mono _ _ _ _ _ _)
   | (with_reducible exact impl_Vote.mono _ _ _ _ _ _)
   | (with_reducible exact impl_VoterOk.mono _ _ _ _ _)
   | (with_reducible exact impl_Votes.mono _ _ _ _ _ _)
   | (with_reducible exact LeO.refl _)
   | (with_reducible exact LeO.none _)
   | (with_reducible refine LeO.ite ?_ ?_)
   | (with_reducible refine LeO.bind ?_ (fun _ => ?_))
   | exact ih0 _ _ _ _ _ _ _
   | exact ih1 _ _ _ _ _ _ _ _ _
   | exact ih2 _ _ _ _ _ _ _ _ _ _
   | exact ih3 _ _ _ _ _ _ _ _ _ _
   | exact impl_Fresh.mono _ _ _ _
   | exact impl_TwoAlike.mono _ _ _ _ _ _
   | exact impl_Vote.mono _ _ _ _ _ _
   | exact impl_VoterOk.mono _ _ _ _ _
   | exact impl_Votes.mono _ _ _ _ _ _
   | exact LeO.none _
   | refine LeO.ite ?_ ?_
   | refine LeO.bind ?_ (fun _ => ?_)
  ·
   intro y0 y1 y2 y3 y4 y5 y6 y7 y8 y9
   unfold laws_FnVoted.j2
   repeat' first
   | (with_reducible exact ih0 _ _ _ _ _ _ _)
   | (with_reducible exact ih1 _ _ _ _ _ _ _ _ _)
   | (with_reducible exact ih2 _ _ _ _ _ _ _ _ _ _)
   | (with_reducible exact ih3 _ _ _ _ _ _ _ _ _ _)
   | (with_reducible exact impl_Fresh.mono _ _ _ _)
   | (with_reducible exact impl_TwoAlike.mono _ _ _ _ _ _)
   | (with_reducible exact impl_Vote.mono _ _ _ _ _ _)
   | (with_reducible exact impl_VoterOk.mono _ _ _ _ _)
   | (with_reducible exact impl_Votes.mono _ _ _ _ _ _)
   | (with_reducible exact LeO.refl _)
   | (with_reducible exact LeO.none _)
   | (with_reducible refine LeO.ite ?_ ?_)
   | (with_reducible refine LeO.bind ?_ (fun _ => ?_))
   | exact ih0 _ _ _ _ _ _ _
   | exact ih1 _ _ _ _ _ _ _ _ _
   | exact ih2 _ _ _ _ _ _ _ _ _ _
   | exact ih3 _ _ _ _ _ _ _ _ _ _
   | exact impl_Fresh.mono _ _ _ _
   | exact impl_TwoAlike.mono _ _ _ _ _ _
   | exact impl_Vote.mono _ _ _ _ _ _
   | exact impl_VoterOk.mono _ _ _ _ _
   | exact impl_Votes.mono _ _ _ _ _ _
   | exact LeO.none _
   | refine LeO.ite ?_ ?_
   | refine LeO.bind ?_ (fun _ => ?_)
  ·
   intro y0 y1 y2 y3 y4 y5 y6 y7 y8 y9
   unfold laws_FnVoted.j3
   repeat' first
   | (with_reducible exact ih0 _ _ _ _ _ _ _)
   | (with_reducible exact ih1 _ _ _ _ _ _ _ _ _)
   | (with_reducible exact ih2 _ _ _ _ _ _ _ _ _ _)
   | (with_reducible exact ih3 _ _ _ _ _ _ _ _ _ _)
   | (with_reducible exact impl_Fresh.mono _ _ _ _)
   | (with_reducible exact impl_TwoAlike.mono _ _ _ _ _ _)
   | (with_reducible exact impl_Vote.mono _ _ _ _ _ _)
   | (with_reducible exact impl_VoterOk.mono _ _ _ _ _)
   | (with_reducible exact impl_Votes.mono _ _ _ _ _ _)
   | (with_reducible exact LeO.refl _)
   | (with_reducible exact LeO.none _)
   | (with_reducible refine LeO.ite ?_ ?_)
   | (with_reducible refine LeO.bind ?_ (fun _ => ?_))
   | exact ih0 _ _ _ _ _ _ _
   | exact ih1 _ _ _ _ _ _ _ _ _
   | exact ih2 _ _ _ _ _ _ _ _ _ _
   | exact ih3 _ _ _ _ _ _ _ _ _ _
   | exact impl_Fresh.mono _ _ _ _
   | exact impl_TwoAlike.mono _ _ _ _ _ _
   | exact impl_Vote.mono _ _ _ _ _ _
   | exact impl_VoterOk.mono _ _ _ _ _
   | exact impl_Votes.mono _ _ _ _ _ _
   | exact LeO.none _
   | refine LeO.ite ?_ ?_
   | refine LeO.bind ?_ (fun _ => ?_)
theorem laws_FnVoted.mono : ∀ a0 k, LeO (laws_FnVoted.f k a0) (laws_FnVoted.f (k + 1) a0) := by
 intro a0 k; obtain ⟨ih0, ih1, ih2, ih3⟩ := laws_FnVoted.mono_l k
 unfold laws_FnVoted.f
 repeat' first
   | (with_reducible exact ih0 _ _ _ _ _ _ _)
   | (with_reducible exact ih1 _ _ _ _ _ _ _ _ _)
   | (with_reducible exact ih2 _ _ _ _ _ _ _ _ _ _)
   | (with_reducible exact ih3 _ _ _ _ _ _ _ _ _ _)
   | (with_reducible exact impl_Fresh.mono _ _ _ _)
   | (with_reducible exact impl_TwoAlike.mono _ _ _ _ _ _)
   | (with_reducible exact impl_Vote.mono _ _ _ _ _ _)
   | (with_reducible exact impl_VoterOk.mono _ _ _ _ _)
   | (with_reducible exact impl_Votes.mono _ _ _ _ _ _)
   | (with_reducible exact LeO.refl _)
   | (with_reducible exact LeO.none _)
   | (with_reducible refine LeO.ite ?_ ?_)
   | (with_reducible refine LeO.bind ?_ (fun _ => ?_))
   | exact ih0 _ _ _ _ _ _ _
   | exact ih1 _ _ _ _ _ _ _ _ _
   | exact ih2 _ _ _ _ _ _ _ _ _ _
   | exact ih3 _ _ _ _ _ _ _ _ _ _
   | exact impl_Fresh.mono _ _ _ _
   | exact impl_TwoAlike.mono _ _ _ _ _ _
   | exact impl_Vote.mono _ _ _ _ _ _
   | exact impl_VoterOk.mono _ _ _ _ _
   | exact impl_Votes.mono _ _ _ _ _ _
   | exact LeO.none _
   | refine LeO.ite ?_ ?_
   | refine LeO.bind ?_ (fun _ => ?_)
end Go.Proofs.Ytmhddkjiaiifmaa.PFnVoted
