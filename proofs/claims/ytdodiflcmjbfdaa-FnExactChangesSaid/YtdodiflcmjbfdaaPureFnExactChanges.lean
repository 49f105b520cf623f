/- For every list of Pilots the program's Changes answers what the reference's answers (FnExactChanges returns true); no condition. -/
import Derived.Test.YtdodiflcmjbfdaaAskFnExactChanges
import Derived.Test.YtdodiflcmjbfdaaNum
namespace Go.Proofs.Ytdodiflcmjbfdaa.Pure.FnExactChanges
open Go.RowKit Go.Proofs.Ytdodiflcmjbfdaa.PFnExactChanges Go.Proofs.YtdodiflcmjbfdaaW.PrintWords Go.Proofs.YtdodiflcmjbfdaaW.PrintLast Go.Proofs.YtdodiflcmjbfdaaW.PrintMore Go.Proofs.Ytdodiflcmjbfdaa.Num
set_option linter.unusedVariables false
set_option linter.unusedSimpArgs false
def conv (x : S23) : S25 := ⟨x.f0, x.f1, x.f2, x.f3, x.f4, x.f5, x.f6, x.f7, x.f8⟩
theorem laws_toPilotS_l0 (x0 : List S23) (hn : x0.length ≤ 4611686018427387904) : ∀ (d k i : Nat) (x3 : List S25), x0.length - i = d → i ≤ x0.length → d < k → x3.length = x0.length → (∀ j, j < i → x3[j]? = (x0.map conv)[j]?) → laws_toPilotS.l0 k x0 x3 (i : Int) = some (x0.map conv) := by
  intro d
  induction d with
  | zero =>
    intro k i x3 hd hi hk hl hj
    obtain ⟨k, rfl⟩ : ∃ m, k = m + 1 := ⟨k - 1, by omega⟩
    simp only [laws_toPilotS.l0]
    rw [if_neg (by omega)]
    congr 1
    apply List.ext_getElem?
    intro j
    by_cases h : j < i
    · exact hj j h
    · rw [List.getElem?_eq_none (by omega), List.getElem?_eq_none (by simp; omega)]
  | succ d ih =>
    intro k i x3 hd hi hk hl hj
    obtain ⟨k, rfl⟩ : ∃ m, k = m + 1 := ⟨k - 1, by omega⟩
    have hlt : i < x0.length := by omega
    simp only [laws_toPilotS.l0, laws_toPilot.f, Option.bind_some]
    rw [if_pos (by omega), if_pos (by omega), if_pos (by omega), w64 (a := (i : Int) + 1) (by omega) (by omega), show (i : Int) + 1 = ((i + 1 : Nat) : Int) by omega]
    refine ih k (i + 1) _ (by omega) (by omega) (by omega) (by simpa using hl) ?_
    intro j hj'
    have hr : rd_T23 x0 (i : Int) = x0[i] := by
      show x0.getD (i : Int).toNat z23 = _
      rw [Int.toNat_natCast, List.getD_eq_getElem?_getD, List.getElem?_eq_getElem hlt]; rfl
    simp only [Int.toNat_natCast, hr]
    by_cases e : j = i
    · subst e
      rw [List.getElem?_set_self (by omega), List.getElem?_map, List.getElem?_eq_getElem hlt]; rfl
    · rw [List.getElem?_set_ne (fun h => e h.symm)]
      exact hj j (by omega)
theorem laws_toPilotS_eq (x0 : List S23) (k : Nat) (hn : x0.length ≤ 3909374676536) (hk : x0.length < k) : laws_toPilotS.f k x0 = some (x0.map conv) := by
  unfold laws_toPilotS.f
  rw [if_pos (by omega), if_pos (by rw [Int.toNat_natCast]; omega), Int.toNat_natCast]
  exact laws_toPilotS_l0 x0 (by omega) x0.length k 0 _ (by omega) (by omega) hk (by simp) (fun j hj => by omega)

theorem laws_eqPilotS_l0 (x0 : List S25) (hn : x0.length ≤ 4611686018427387904) : ∀ (d k i : Nat), x0.length - i = d → i ≤ x0.length → d < k → laws_eqPilotS.l0 k x0 x0 (i : Int) = some true := by
  intro d
  induction d with
  | zero =>
    intro k i hd hi hk
    obtain ⟨k, rfl⟩ : ∃ m, k = m + 1 := ⟨k - 1, by omega⟩
    simp only [laws_eqPilotS.l0]
    rw [if_neg (by omega)]
  | succ d ih =>
    intro k i hd hi hk
    obtain ⟨k, rfl⟩ : ∃ m, k = m + 1 := ⟨k - 1, by omega⟩
    simp only [laws_eqPilotS.l0, laws_eqPilot.f, if_true, bne_self_eq_false, Bool.false_eq_true, if_false, Option.bind_some]
    rw [if_pos (by omega), if_pos (by omega), if_pos (by omega), w64 (a := (i : Int) + 1) (by omega) (by omega), show (i : Int) + 1 = ((i + 1 : Nat) : Int) by omega]
    exact ih k (i + 1) (by omega) (by omega) (by omega)
theorem laws_eqPilotS_eq (x0 : List S25) (k : Nat) (hn : x0.length ≤ 4611686018427387904) (hk : x0.length < k) : laws_eqPilotS.f k x0 x0 = some true := by
  unfold laws_eqPilotS.f
  rw [if_pos rfl]
  exact laws_eqPilotS_l0 x0 hn x0.length k 0 (by omega) (by omega) hk

theorem changes_l0 : ∀ (k : Nat) (x : List S25) (a b : Int), impl_Changes.l0 k x a b = spec_Changes.l0 k x a b
  | 0, _, _, _ => rfl
  | k + 1, x, a, b => by
    simp only [impl_Changes.l0, spec_Changes.l0, changes_l0 k]
theorem changes_some (x : List S25) (hn : x.length ≤ 4611686018427387904) : ∀ (d k i : Nat) (a : Int), x.length - i = d → 1 ≤ i → d < k → ∃ r, spec_Changes.l0 k x a (i : Int) = some r := by
  intro d
  induction d with
  | zero =>
    intro k i a hd hi hk
    obtain ⟨k, rfl⟩ : ∃ m, k = m + 1 := ⟨k - 1, by omega⟩
    simp only [spec_Changes.l0]
    rw [if_neg (by omega)]
    exact ⟨_, rfl⟩
  | succ d ih =>
    intro k i a hd hi hk
    obtain ⟨k, rfl⟩ : ∃ m, k = m + 1 := ⟨k - 1, by omega⟩
    simp only [spec_Changes.l0]
    rw [w64 (a := (i : Int) - 1) (by omega) (by omega), w64 (a := (i : Int) + 1) (by omega) (by omega), if_pos (by omega), if_pos (by omega), if_pos (by omega), if_pos (by omega), show (i : Int) + 1 = ((i + 1 : Nat) : Int) by omega]
    split
    · exact ih k (i + 1) _ (by omega) (by omega) (by omega)
    · exact ih k (i + 1) _ (by omega) (by omega) (by omega)
theorem FnExactChanges : laws_FnExactChanges.Pure := by
  intro l ⟨hl, _⟩
  have hl' : l.length ≤ 9223372036854775807 := hl
  refine ⟨l.length + 1, ?_⟩
  unfold laws_FnExactChanges.f laws_szPilotS.f
  rw [w64 (by omega) (by omega)]
  by_cases h : (1048576 : Int) - (l.length : Int) < 0
  · rw [if_pos h]; rfl
  · rw [if_neg h, Option.bind_some, if_neg h]
    have ht := laws_toPilotS_eq l (l.length + 1) (by omega) (by omega)
    obtain ⟨r, hr⟩ := changes_some (l.map conv) (by simp; omega) _ (l.length + 1) 1 0 rfl (by omega) (by simp; omega)
    have hs : spec_Changes.f (l.length + 1) (l.map conv) = some r := hr
    have hi : impl_Changes.f (l.length + 1) (l.map conv) = some r := by
      unfold impl_Changes.f; rw [changes_l0]; exact hr
    have he := laws_eqPilotS_eq (l.map conv) (l.length + 1) (by simp; omega) (by simp)
    simp only [ht, hs, hi, he, Option.bind_some, if_true]
end Go.Proofs.Ytdodiflcmjbfdaa.Pure.FnExactChanges
namespace Go.Proofs.Ytdodiflcmjbfdaa.Pure
theorem FnExactChanges : Go.Proofs.Ytdodiflcmjbfdaa.PFnExactChanges.laws_FnExactChanges.Pure := FnExactChanges.FnExactChanges
end Go.Proofs.Ytdodiflcmjbfdaa.Pure
