/- The row of the law FnExactGainAt: for every input it returns true, and its arguments read behind the call as they read before; no condition. -/
import Derived.Test.YtifcfkoohfbfoaaRows
import Derived.Test.YtifcfkoohfbfoaaPFnExactGainAtx5
import Derived.Test.YtifcfkoohfbfoaaAskFnExactGainAt
import Derived.Test.YtifcfkoohfbfoaaPureFnExactGainAt
import Derived.Test.YtifcfkoohfbfoaaOpen
import Derived.WalkKit
import Derived.ProofKit
import Derived.OpenShut
import Derived.ShutString
import Derived.ChangeOld
import Derived.Below
import Derived.SizedLaws
namespace Go.Proofs.Ytifcfkoohfbfoaa.fnExactGainAt
open Go.ChangeShapes Go.WideShapes Go.ChangeAt Go.RowKit Go.Proofs.YtifcfkoohfbfoaaW.PrintWords Go.Proofs.Ytifcfkoohfbfoaa.PFnExactGainAt Go.Proofs.Ytifcfkoohfbfoaa.Opening
open Go.ChangeMaps (open_string shut_string)
set_option linter.unusedVariables false
theorem own : ownKnob Try.prog.godebug = none := by kernel_rfl
theorem laidOut : laidOutB Try.prog = true := by kernel_rfl
theorem parts2 (cs : Array Value) (h : cs.toList.length = 2) : ∃ c0 c1, cs = #[c0, c1] := by
  match cs, h with
  | ⟨[c0, c1]⟩, _ => exact ⟨c0, c1, rfl⟩
set_option maxRecDepth 100000 in
theorem lifted (os : Os) (started : os.Started) (H : Type) (enc : TypeId × Value → H) :
    ReturnsInHanded {} Try.checked os 9 .any (Rows.fnExactGainAtSpec.pre6 enc Try.prog Try.f9 Rows.fnExactGainAtRow.domain false) (Rows.fnExactGainAtSpec.post enc Try.prog Try.f9 false true false false) := by
  refine returnsInHanded_of_change_sized (C := Try.checked) own started (by kernel_rfl) Try.func9
    (ChangeSpec.witness6 (enc := enc) (C := Try.checked) false ⟨#[], #[.agg #[.slice none 0 0, .slice none 0 0], .int .i64 0], []⟩ 8 (by kernel_rfl) (by kernel_rfl) (by kernel_rfl) (by kernel_rfl)) ?_
  intro W base args ds gs before hval0 hW hcnd hsz0 _
  have hval : ∀ (j : Nat) t v, Try.f9.params[j]? = some t → args[j]? = some v → Value.okWide Try.prog W .any base t v := hval0
  have hW' := hW
  obtain ⟨p, q, hA0, hV, rfl, hfz, hnd⟩ := hW
  have hA : DataW.TrodAll enc Try.prog W 0 (fun _ => true) true Try.f9.params.toList args.toList ds p := hA0
  rw [Try.params9] at hA hval
  obtain ⟨v0, vs0, d0, ds0, p0, q0, hargs, rfl, rfl, h0, r0⟩ := trodAll_cons hA
  obtain ⟨v1, vs1, d1, ds1, p1, q1, rfl, rfl, rfl, h1, r1⟩ := trodAll_cons r0
  obtain ⟨rfl, rfl, rfl⟩ := trodAll_nil r1
  obtain rfl : args = #[v0, v1] := by cases args; simp_all
  obtain ⟨rfl, rfl⟩ := trodVars_none hV
  have k0 := h0
  have lt0 : ∀ x ∈ p0, x.block < W.heap.size := by obtain ⟨m, hm⟩ := k0; exact DataW.trod_lt m _ _ _ hm
  obtain ⟨cs0, rfl, _⟩ := okWide_struct Try.underlying38 (hval 0 38 v0 rfl rfl)
  obtain ⟨fuel0, hf0⟩ := h0
  have hl0 : cs0.toList.length = 2 := (struct_len Try.underlying38 hf0).trans (by kernel_rfl)
  obtain ⟨l0_0, hx0_0, o0_0⟩ := field_at Try.underlying38 hf0 0 rfl (opens_slice Try.underlying29 (opens_int Try.underlying3) (by kernel_rfl)) (o := 0) rfl (n := 1) (by kernel_rfl)
  obtain ⟨l0_1, hx0_1, o0_1⟩ := field_at Try.underlying38 hf0 1 rfl (opens_slice Try.underlying29 (opens_int Try.underlying3) (by kernel_rfl)) (o := 1) rfl (n := 1) (by kernel_rfl)
  obtain ⟨c0_0', c0_1', rfl⟩ : ∃ c0_0' c0_1', cs0 = #[c0_0', c0_1'] := by
    exact parts2 cs0 hl0
  obtain ⟨A0_0, c0_0, e0_0, hc0_0, hr0_0⟩ : ∃ A c, [c0_0'] = [.slice A l0_0.length c] ∧ l0_0.length ≤ c ∧ Kd.C (Kd.int .i64) W A l0_0.length l0_0 := hx0_0
  obtain rfl := List.singleton_inj.1 e0_0
  obtain ⟨A0_1, c0_1, e0_1, hc0_1, hr0_1⟩ : ∃ A c, [c0_1'] = [.slice A l0_1.length c] ∧ l0_1.length ≤ c ∧ Kd.C (Kd.int .i64) W A l0_1.length l0_1 := hx0_1
  obtain rfl := List.singleton_inj.1 e0_1
  have k1 := h1
  have lt1 : ∀ x ∈ p1, x.block < W.heap.size := by obtain ⟨m, hm⟩ := k1; exact DataW.trod_lt m _ _ _ hm
  obtain ⟨a1, rfl, _, _, o1⟩ := open_int Try.underlying3 (hval 1 3 v1 rfl rfl) h1
  clear hA0 hval0
  obtain ⟨k, hk⟩ := Pure.FnExactGainAt l0_0 l0_1 a1 o0_0 o0_1 o1
  refine (laws_FnExactGainAt.calls k _ _ l0_0 _ _ l0_1 a1 true W hr0_0 hc0_0 hr0_1 hc0_1 hk).mono fun e W' ⟨he, bel0⟩ => ?_
  have bel : Below W.heap.size W W' := bel0
  subst he
  exact ⟨_, rfl, _, _, _, [], _, [], hW', trodAll_mk1 (shut_bool Try.underlying4 _), (trodAll_cons_mk (Below.trod laidOut (by kernel_rfl) (of_decide_eq_true (by kernel_rfl)) k0 bel lt0) (trodAll_cons_mk (Below.trod laidOut (by kernel_rfl) (of_decide_eq_true (by kernel_rfl)) k1 bel lt1) trodAll_mk0)), rfl, bel.frame _, fun h => by cases h⟩
theorem over : Rows.fnExactGainAtRow.holds Try.pinned (OpenSpec.ofChange Rows.fnExactGainAtSpec) :=
  OpenClaim.holds_of_wide 9 Try.f9 rfl rfl rfl rfl rfl rfl rfl ⟨rfl, rfl, rfl, rfl, rfl⟩ rfl rfl rfl rfl rfl (by kernel_rfl) Try.func9 (by kernel_rfl)
    (of_decide_eq_true (by kernel_rfl)) (by unfold Func.isWrapper; first | (rw [if_pos (by decide +kernel)]; kernel_rfl) | (rw [if_neg (by decide +kernel)]; exact ⟨rfl, rfl⟩))
    (fun os started H enc _ => lifted os started H enc)
end Go.Proofs.Ytifcfkoohfbfoaa.fnExactGainAt
namespace Go.Proofs.Ytifcfkoohfbfoaa
/-- The row, under a short name, for the claim. -/
theorem fnExactGainAt_holds : Rows.FnExactGainAtSaid := fnExactGainAt.over
end Go.Proofs.Ytifcfkoohfbfoaa
