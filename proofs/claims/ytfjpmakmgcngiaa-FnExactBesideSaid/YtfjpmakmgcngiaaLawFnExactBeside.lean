/- The row of the law FnExactBeside: for every input it returns true, and its arguments read behind the call as they read before; no condition. -/
import Derived.Test.YtfjpmakmgcngiaaRows
import Derived.Test.YtfjpmakmgcngiaaPFnExactBesidex3
import Derived.Test.YtfjpmakmgcngiaaAskFnExactBeside
import Derived.Test.YtfjpmakmgcngiaaPureFnExactBeside
import Derived.Test.YtfjpmakmgcngiaaOpen
import Derived.WalkKit
import Derived.ProofKit
import Derived.OpenShut
import Derived.ShutString
import Derived.ChangeOld
import Derived.Below
import Derived.SizedLaws
namespace Go.Proofs.Ytfjpmakmgcngiaa.fnExactBeside
open Go.ChangeShapes Go.WideShapes Go.ChangeAt Go.RowKit Go.Proofs.YtfjpmakmgcngiaaW.PrintWords Go.Proofs.Ytfjpmakmgcngiaa.PFnExactBeside Go.Proofs.Ytfjpmakmgcngiaa.Opening
open Go.ChangeMaps (open_string shut_string)
set_option linter.unusedVariables false
theorem own : ownKnob Try.prog.godebug = none := by kernel_rfl
theorem laidOut : laidOutB Try.prog = true := by kernel_rfl
theorem parts2 (cs : Array Value) (h : cs.toList.length = 2) : ∃ c0 c1, cs = #[c0, c1] := by
  match cs, h with
  | ⟨[c0, c1]⟩, _ => exact ⟨c0, c1, rfl⟩
set_option maxRecDepth 100000 in
theorem lifted (os : Os) (started : os.Started) (H : Type) (enc : TypeId × Value → H) :
    ReturnsInHanded {} Try.checked os 3 .any (Rows.fnExactBesideSpec.pre6 enc Try.prog Try.f3 Rows.fnExactBesideRow.domain false) (Rows.fnExactBesideSpec.post enc Try.prog Try.f3 false true false false) := by
  refine returnsInHanded_of_change_sized (C := Try.checked) own started (by kernel_rfl) Try.func3
    (ChangeSpec.witness6 (enc := enc) (C := Try.checked) false ⟨#[], #[.agg #[.int .i64 0, .int .i64 0], .agg #[.int .i64 0, .int .i64 0], .agg #[.int .i64 0, .int .i64 0]], []⟩ 8 (by kernel_rfl) (by kernel_rfl) (by kernel_rfl) (by kernel_rfl)) ?_
  intro W base args ds gs before hval0 hW hcnd hsz0 _
  have hval : ∀ (j : Nat) t v, Try.f3.params[j]? = some t → args[j]? = some v → Value.okWide Try.prog W .any base t v := hval0
  have hW' := hW
  obtain ⟨p, q, hA0, hV, rfl, hfz, hnd⟩ := hW
  have hA : DataW.TrodAll enc Try.prog W 0 (fun _ => true) true Try.f3.params.toList args.toList ds p := hA0
  rw [Try.params3] at hA hval
  obtain ⟨v0, vs0, d0, ds0, p0, q0, hargs, rfl, rfl, h0, r0⟩ := trodAll_cons hA
  obtain ⟨v1, vs1, d1, ds1, p1, q1, rfl, rfl, rfl, h1, r1⟩ := trodAll_cons r0
  obtain ⟨v2, vs2, d2, ds2, p2, q2, rfl, rfl, rfl, h2, r2⟩ := trodAll_cons r1
  obtain ⟨rfl, rfl, rfl⟩ := trodAll_nil r2
  obtain rfl : args = #[v0, v1, v2] := by cases args; simp_all
  obtain ⟨rfl, rfl⟩ := trodVars_none hV
  have k0 := h0
  have lt0 : ∀ x ∈ p0, x.block < W.heap.size := by obtain ⟨m, hm⟩ := k0; exact DataW.trod_lt m _ _ _ hm
  obtain ⟨cs0, rfl, _⟩ := okWide_struct Try.underlying23 (hval 0 23 v0 rfl rfl)
  obtain ⟨fuel0, hf0⟩ := h0
  have hl0 : cs0.toList.length = 2 := (struct_len Try.underlying23 hf0).trans (by kernel_rfl)
  obtain ⟨a0_0, hx0_0, o0_0⟩ := field_at Try.underlying23 hf0 0 rfl (opens_int Try.underlying3) (o := 0) rfl (n := 1) (by kernel_rfl)
  obtain ⟨a0_1, hx0_1, o0_1⟩ := field_at Try.underlying23 hf0 1 rfl (opens_int Try.underlying3) (o := 1) rfl (n := 1) (by kernel_rfl)
  obtain ⟨c0_0', c0_1', rfl⟩ : ∃ c0_0' c0_1', cs0 = #[c0_0', c0_1'] := by
    exact parts2 cs0 hl0
  have e0_0 : [c0_0'] = [Value.int .i64 a0_0] := hx0_0
  obtain rfl := List.singleton_inj.1 e0_0
  have e0_1 : [c0_1'] = [Value.int .i64 a0_1] := hx0_1
  obtain rfl := List.singleton_inj.1 e0_1
  have k1 := h1
  have lt1 : ∀ x ∈ p1, x.block < W.heap.size := by obtain ⟨m, hm⟩ := k1; exact DataW.trod_lt m _ _ _ hm
  obtain ⟨cs1, rfl, _⟩ := okWide_struct Try.underlying23 (hval 1 23 v1 rfl rfl)
  obtain ⟨fuel1, hf1⟩ := h1
  have hl1 : cs1.toList.length = 2 := (struct_len Try.underlying23 hf1).trans (by kernel_rfl)
  obtain ⟨a1_0, hx1_0, o1_0⟩ := field_at Try.underlying23 hf1 0 rfl (opens_int Try.underlying3) (o := 0) rfl (n := 1) (by kernel_rfl)
  obtain ⟨a1_1, hx1_1, o1_1⟩ := field_at Try.underlying23 hf1 1 rfl (opens_int Try.underlying3) (o := 1) rfl (n := 1) (by kernel_rfl)
  obtain ⟨c1_0', c1_1', rfl⟩ : ∃ c1_0' c1_1', cs1 = #[c1_0', c1_1'] := by
    exact parts2 cs1 hl1
  have e1_0 : [c1_0'] = [Value.int .i64 a1_0] := hx1_0
  obtain rfl := List.singleton_inj.1 e1_0
  have e1_1 : [c1_1'] = [Value.int .i64 a1_1] := hx1_1
  obtain rfl := List.singleton_inj.1 e1_1
  have k2 := h2
  have lt2 : ∀ x ∈ p2, x.block < W.heap.size := by obtain ⟨m, hm⟩ := k2; exact DataW.trod_lt m _ _ _ hm
  obtain ⟨cs2, rfl, _⟩ := okWide_struct Try.underlying23 (hval 2 23 v2 rfl rfl)
  obtain ⟨fuel2, hf2⟩ := h2
  have hl2 : cs2.toList.length = 2 := (struct_len Try.underlying23 hf2).trans (by kernel_rfl)
  obtain ⟨a2_0, hx2_0, o2_0⟩ := field_at Try.underlying23 hf2 0 rfl (opens_int Try.underlying3) (o := 0) rfl (n := 1) (by kernel_rfl)
  obtain ⟨a2_1, hx2_1, o2_1⟩ := field_at Try.underlying23 hf2 1 rfl (opens_int Try.underlying3) (o := 1) rfl (n := 1) (by kernel_rfl)
  obtain ⟨c2_0', c2_1', rfl⟩ : ∃ c2_0' c2_1', cs2 = #[c2_0', c2_1'] := by
    exact parts2 cs2 hl2
  have e2_0 : [c2_0'] = [Value.int .i64 a2_0] := hx2_0
  obtain rfl := List.singleton_inj.1 e2_0
  have e2_1 : [c2_1'] = [Value.int .i64 a2_1] := hx2_1
  obtain rfl := List.singleton_inj.1 e2_1
  clear hA0 hval0
  obtain ⟨k, hk⟩ := Pure.FnExactBeside a0_0 a0_1 a1_0 a1_1 a2_0 a2_1 o0_0 o0_1 o1_0 o1_1 o2_0 o2_1
  refine (laws_FnExactBeside.calls k a0_0 a0_1 a1_0 a1_1 a2_0 a2_1 true W  hk).mono fun e W' ⟨he, bel0⟩ => ?_
  have bel : Below W.heap.size W W' := bel0
  subst he
  exact ⟨_, rfl, _, _, _, [], _, [], hW', trodAll_mk1 (shut_bool Try.underlying4 _), (trodAll_cons_mk (Below.trod laidOut (by kernel_rfl) (of_decide_eq_true (by kernel_rfl)) k0 bel lt0) (trodAll_cons_mk (Below.trod laidOut (by kernel_rfl) (of_decide_eq_true (by kernel_rfl)) k1 bel lt1) (trodAll_cons_mk (Below.trod laidOut (by kernel_rfl) (of_decide_eq_true (by kernel_rfl)) k2 bel lt2) trodAll_mk0))), rfl, bel.frame _, fun h => by cases h⟩
theorem over : Rows.fnExactBesideRow.holds Try.pinned (OpenSpec.ofChange Rows.fnExactBesideSpec) :=
  OpenClaim.holds_of_wide 3 Try.f3 rfl rfl rfl rfl rfl rfl rfl ⟨rfl, rfl, rfl, rfl, rfl⟩ rfl rfl rfl rfl rfl (by kernel_rfl) Try.func3 (by kernel_rfl)
    (of_decide_eq_true (by kernel_rfl)) (by unfold Func.isWrapper; first | (rw [if_pos (by decide +kernel)]; kernel_rfl) | (rw [if_neg (by decide +kernel)]; exact ⟨rfl, rfl⟩))
    (fun os started H enc _ => lifted os started H enc)
end Go.Proofs.Ytfjpmakmgcngiaa.fnExactBeside
namespace Go.Proofs.Ytfjpmakmgcngiaa
/-- The row, under a short name, for the claim. -/
theorem fnExactBeside_holds : Rows.FnExactBesideSaid := fnExactBeside.over
end Go.Proofs.Ytfjpmakmgcngiaa
