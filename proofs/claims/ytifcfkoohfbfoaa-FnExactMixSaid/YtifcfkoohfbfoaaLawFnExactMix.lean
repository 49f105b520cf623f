/- The row of the law FnExactMix: for every input it returns true, and its arguments read behind the call as they read before; no condition. -/
import Derived.Test.YtifcfkoohfbfoaaRows
import Derived.Test.YtifcfkoohfbfoaaPFnExactMixx5
import Derived.Test.YtifcfkoohfbfoaaAskFnExactMix
import Derived.Test.YtifcfkoohfbfoaaPureFnExactMix
import Derived.Test.YtifcfkoohfbfoaaOpen
import Derived.WalkKit
import Derived.ProofKit
import Derived.OpenShut
import Derived.ShutString
import Derived.ChangeOld
import Derived.Below
import Derived.SizedLaws
namespace Go.Proofs.Ytifcfkoohfbfoaa.fnExactMix
open Go.ChangeShapes Go.WideShapes Go.ChangeAt Go.RowKit Go.Proofs.YtifcfkoohfbfoaaW.PrintWords Go.Proofs.Ytifcfkoohfbfoaa.PFnExactMix Go.Proofs.Ytifcfkoohfbfoaa.Opening
open Go.ChangeMaps (open_string shut_string)
set_option linter.unusedVariables false
theorem own : ownKnob Try.prog.godebug = none := by kernel_rfl
theorem laidOut : laidOutB Try.prog = true := by kernel_rfl
theorem parts2 (cs : Array Value) (h : cs.toList.length = 2) : ∃ c0 c1, cs = #[c0, c1] := by
  match cs, h with
  | ⟨[c0, c1]⟩, _ => exact ⟨c0, c1, rfl⟩
theorem parts3 (cs : Array Value) (h : cs.toList.length = 3) : ∃ c0 c1 c2, cs = #[c0, c1, c2] := by
  match cs, h with
  | ⟨[c0, c1, c2]⟩, _ => exact ⟨c0, c1, c2, rfl⟩
set_option maxRecDepth 100000 in
theorem lifted (os : Os) (started : os.Started) (H : Type) (enc : TypeId × Value → H) :
    ReturnsInHanded {} Try.checked os 8 .any (Rows.fnExactMixSpec.pre6 enc Try.prog Try.f8 Rows.fnExactMixRow.domain false) (Rows.fnExactMixSpec.post enc Try.prog Try.f8 false true false false) := by
  refine returnsInHanded_of_change_sized (C := Try.checked) own started (by kernel_rfl) Try.func8
    (ChangeSpec.witness6 (enc := enc) (C := Try.checked) false ⟨#[], #[.agg #[.slice none 0 0, .slice none 0 0], .int .i64 0, .int .i64 0, .agg #[.int .i64 0, .int .i64 0, .int .i64 0]], []⟩ 8 (by kernel_rfl) (by kernel_rfl) (by kernel_rfl) (by kernel_rfl)) ?_
  intro W base args ds gs before hval0 hW hcnd hsz0 _
  have hval : ∀ (j : Nat) t v, Try.f8.params[j]? = some t → args[j]? = some v → Value.okWide Try.prog W .any base t v := hval0
  have hW' := hW
  obtain ⟨p, q, hA0, hV, rfl, hfz, hnd⟩ := hW
  have hA : DataW.TrodAll enc Try.prog W 0 (fun _ => true) true Try.f8.params.toList args.toList ds p := hA0
  rw [Try.params8] at hA hval
  obtain ⟨v0, vs0, d0, ds0, p0, q0, hargs, rfl, rfl, h0, r0⟩ := trodAll_cons hA
  obtain ⟨v1, vs1, d1, ds1, p1, q1, rfl, rfl, rfl, h1, r1⟩ := trodAll_cons r0
  obtain ⟨v2, vs2, d2, ds2, p2, q2, rfl, rfl, rfl, h2, r2⟩ := trodAll_cons r1
  obtain ⟨v3, vs3, d3, ds3, p3, q3, rfl, rfl, rfl, h3, r3⟩ := trodAll_cons r2
  obtain ⟨rfl, rfl, rfl⟩ := trodAll_nil r3
  obtain rfl : args = #[v0, v1, v2, v3] := by cases args; simp_all
  obtain ⟨rfl, rfl⟩ := trodVars_none hV
  have k0 := h0
  have lt0 : ∀ x ∈ p0, x.block < W.heap.size := by obtain ⟨m, hm⟩ := k0; exact DataW.trod_lt m _ _ _ hm
  obtain ⟨cs0, rfl, _⟩ := okWide_struct Try.underlying53 (hval 0 53 v0 rfl rfl)
  obtain ⟨fuel0, hf0⟩ := h0
  have hl0 : cs0.toList.length = 2 := (struct_len Try.underlying53 hf0).trans (by kernel_rfl)
  obtain ⟨l0_0, hx0_0, o0_0⟩ := field_at Try.underlying53 hf0 0 rfl (opens_slice Try.underlying29 (opens_int Try.underlying3) (by kernel_rfl)) (o := 0) rfl (n := 1) (by kernel_rfl)
  obtain ⟨l0_1, hx0_1, o0_1⟩ := field_at Try.underlying53 hf0 1 rfl (opens_slice Try.underlying29 (opens_int Try.underlying3) (by kernel_rfl)) (o := 1) rfl (n := 1) (by kernel_rfl)
  obtain ⟨c0_0', c0_1', rfl⟩ : ∃ c0_0' c0_1', cs0 = #[c0_0', c0_1'] := by
    exact parts2 cs0 hl0
  obtain ⟨A0_0, c0_0, e0_0, hc0_0, hr0_0⟩ : ∃ A c, [c0_0'] = [.slice A l0_0.length c] ∧ l0_0.length ≤ c ∧ Kd.C (Kd.int .i64) W A l0_0.length l0_0 := hx0_0
  obtain rfl := List.singleton_inj.1 e0_0
  obtain ⟨A0_1, c0_1, e0_1, hc0_1, hr0_1⟩ : ∃ A c, [c0_1'] = [.slice A l0_1.length c] ∧ l0_1.length ≤ c ∧ Kd.C (Kd.int .i64) W A l0_1.length l0_1 := hx0_1
  obtain rfl := List.singleton_inj.1 e0_1
  have k1 := h1
  have lt1 : ∀ x ∈ p1, x.block < W.heap.size := by obtain ⟨m, hm⟩ := k1; exact DataW.trod_lt m _ _ _ hm
  obtain ⟨a1, rfl, _, _, o1⟩ := open_int Try.underlying3 (hval 1 3 v1 rfl rfl) h1
  have k2 := h2
  have lt2 : ∀ x ∈ p2, x.block < W.heap.size := by obtain ⟨m, hm⟩ := k2; exact DataW.trod_lt m _ _ _ hm
  obtain ⟨a2, rfl, _, _, o2⟩ := open_int Try.underlying3 (hval 2 3 v2 rfl rfl) h2
  have k3 := h3
  have lt3 : ∀ x ∈ p3, x.block < W.heap.size := by obtain ⟨m, hm⟩ := k3; exact DataW.trod_lt m _ _ _ hm
  obtain ⟨cs3, rfl, _⟩ := okWide_struct Try.underlying54 (hval 3 54 v3 rfl rfl)
  obtain ⟨fuel3, hf3⟩ := h3
  have hl3 : cs3.toList.length = 3 := (struct_len Try.underlying54 hf3).trans (by kernel_rfl)
  obtain ⟨a3_0, hx3_0, o3_0⟩ := field_at Try.underlying54 hf3 0 rfl (opens_int Try.underlying3) (o := 0) rfl (n := 1) (by kernel_rfl)
  obtain ⟨a3_1, hx3_1, o3_1⟩ := field_at Try.underlying54 hf3 1 rfl (opens_int Try.underlying3) (o := 1) rfl (n := 1) (by kernel_rfl)
  obtain ⟨a3_2, hx3_2, o3_2⟩ := field_at Try.underlying54 hf3 2 rfl (opens_int Try.underlying3) (o := 2) rfl (n := 1) (by kernel_rfl)
  obtain ⟨c3_0', c3_1', c3_2', rfl⟩ : ∃ c3_0' c3_1' c3_2', cs3 = #[c3_0', c3_1', c3_2'] := by
    exact parts3 cs3 hl3
  have e3_0 : [c3_0'] = [Value.int .i64 a3_0] := hx3_0
  obtain rfl := List.singleton_inj.1 e3_0
  have e3_1 : [c3_1'] = [Value.int .i64 a3_1] := hx3_1
  obtain rfl := List.singleton_inj.1 e3_1
  have e3_2 : [c3_2'] = [Value.int .i64 a3_2] := hx3_2
  obtain rfl := List.singleton_inj.1 e3_2
  clear hA0 hval0
  obtain ⟨k, hk⟩ := Pure.FnExactMix l0_0 l0_1 a1 a2 a3_0 a3_1 a3_2 o0_0 o0_1 o1 o2 o3_0 o3_1 o3_2
  refine (laws_FnExactMix.calls k _ _ l0_0 _ _ l0_1 a1 a2 a3_0 a3_1 a3_2 true W hr0_0 hc0_0 hr0_1 hc0_1 hk).mono fun e W' ⟨he, bel0⟩ => ?_
  have bel : Below W.heap.size W W' := bel0
  subst he
  exact ⟨_, rfl, _, _, _, [], _, [], hW', trodAll_mk1 (shut_bool Try.underlying4 _), (trodAll_cons_mk (Below.trod laidOut (by kernel_rfl) (of_decide_eq_true (by kernel_rfl)) k0 bel lt0) (trodAll_cons_mk (Below.trod laidOut (by kernel_rfl) (of_decide_eq_true (by kernel_rfl)) k1 bel lt1) (trodAll_cons_mk (Below.trod laidOut (by kernel_rfl) (of_decide_eq_true (by kernel_rfl)) k2 bel lt2) (trodAll_cons_mk (Below.trod laidOut (by kernel_rfl) (of_decide_eq_true (by kernel_rfl)) k3 bel lt3) trodAll_mk0)))), rfl, bel.frame _, fun h => by cases h⟩
theorem over : Rows.fnExactMixRow.holds Try.pinned (OpenSpec.ofChange Rows.fnExactMixSpec) :=
  OpenClaim.holds_of_wide 8 Try.f8 rfl rfl rfl rfl rfl rfl rfl ⟨rfl, rfl, rfl, rfl, rfl⟩ rfl rfl rfl rfl rfl (by kernel_rfl) Try.func8 (by kernel_rfl)
    (of_decide_eq_true (by kernel_rfl)) (by unfold Func.isWrapper; first | (rw [if_pos (by decide +kernel)]; kernel_rfl) | (rw [if_neg (by decide +kernel)]; exact ⟨rfl, rfl⟩))
    (fun os started H enc _ => lifted os started H enc)
end Go.Proofs.Ytifcfkoohfbfoaa.fnExactMix
namespace Go.Proofs.Ytifcfkoohfbfoaa
/-- The row, under a short name, for the claim. -/
theorem fnExactMix_holds : Rows.FnExactMixSaid := fnExactMix.over
end Go.Proofs.Ytifcfkoohfbfoaa
