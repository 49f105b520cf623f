/- The row of the law FnExactFlyLeg: for every input it returns true, and its arguments read behind the call as they read before; no condition. -/
import Derived.Test.YtadnhfdodcmlaaaRows
import Derived.Test.YtadnhfdodcmlaaaPFnExactFlyLegx9
import Derived.Test.YtadnhfdodcmlaaaAskFnExactFlyLeg
import Derived.Test.YtadnhfdodcmlaaaPureFnExactFlyLeg
import Derived.Test.YtadnhfdodcmlaaaOpen
import Derived.WalkKit
import Derived.ProofKit
import Derived.OpenShut
import Derived.ShutString
import Derived.ChangeOld
import Derived.Below
import Derived.SizedLaws
namespace Go.Proofs.Ytadnhfdodcmlaaa.fnExactFlyLeg
open Go.ChangeShapes Go.WideShapes Go.ChangeAt Go.RowKit Go.Proofs.YtadnhfdodcmlaaaW.PrintWords Go.Proofs.Ytadnhfdodcmlaaa.PFnExactFlyLeg Go.Proofs.Ytadnhfdodcmlaaa.Opening
open Go.ChangeMaps (open_string shut_string)
set_option linter.unusedVariables false
theorem own : ownKnob Try.prog.godebug = none := by kernel_rfl
theorem laidOut : laidOutB Try.prog = true := by kernel_rfl
theorem parts4 (cs : Array Value) (h : cs.toList.length = 4) : ∃ c0 c1 c2 c3, cs = #[c0, c1, c2, c3] := by
  match cs, h with
  | ⟨[c0, c1, c2, c3]⟩, _ => exact ⟨c0, c1, c2, c3, rfl⟩
theorem parts5 (cs : Array Value) (h : cs.toList.length = 5) : ∃ c0 c1 c2 c3 c4, cs = #[c0, c1, c2, c3, c4] := by
  match cs, h with
  | ⟨[c0, c1, c2, c3, c4]⟩, _ => exact ⟨c0, c1, c2, c3, c4, rfl⟩
set_option maxRecDepth 100000 in
theorem lifted (os : Os) (started : os.Started) (H : Type) (enc : TypeId × Value → H) :
    ReturnsInHanded {} Try.checked os 5 .any (Rows.fnExactFlyLegSpec.pre6 enc Try.prog Try.f5 Rows.fnExactFlyLegRow.domain false) (Rows.fnExactFlyLegSpec.post enc Try.prog Try.f5 false true false false) := by
  refine returnsInHanded_of_change_sized (C := Try.checked) own started (by kernel_rfl) Try.func5
    (ChangeSpec.witness6 (enc := enc) (C := Try.checked) false ⟨#[], #[.agg #[.int .i64 0, .int .i64 0, .int .i64 0, .int .i64 0, .int .i64 0], .agg #[.int .i64 0, .int .i64 0, .int .i64 0, .int .i64 0]], []⟩ 8 (by kernel_rfl) (by kernel_rfl) (by kernel_rfl) (by kernel_rfl)) ?_
  intro W base args ds gs before hval0 hW hcnd hsz0 _
  have hval : ∀ (j : Nat) t v, Try.f5.params[j]? = some t → args[j]? = some v → Value.okWide Try.prog W .any base t v := hval0
  have hW' := hW
  obtain ⟨p, q, hA0, hV, rfl, hfz, hnd⟩ := hW
  have hA : DataW.TrodAll enc Try.prog W 0 (fun _ => true) true Try.f5.params.toList args.toList ds p := hA0
  rw [Try.params5] at hA hval
  obtain ⟨v0, vs0, d0, ds0, p0, q0, hargs, rfl, rfl, h0, r0⟩ := trodAll_cons hA
  obtain ⟨v1, vs1, d1, ds1, p1, q1, rfl, rfl, rfl, h1, r1⟩ := trodAll_cons r0
  obtain ⟨rfl, rfl, rfl⟩ := trodAll_nil r1
  obtain rfl : args = #[v0, v1] := by cases args; simp_all
  obtain ⟨rfl, rfl⟩ := trodVars_none hV
  have k0 := h0
  have lt0 : ∀ x ∈ p0, x.block < W.heap.size := by obtain ⟨m, hm⟩ := k0; exact DataW.trod_lt m _ _ _ hm
  obtain ⟨cs0, rfl, _⟩ := okWide_struct Try.underlying23 (hval 0 23 v0 rfl rfl)
  obtain ⟨fuel0, hf0⟩ := h0
  have hl0 : cs0.toList.length = 5 := (struct_len Try.underlying23 hf0).trans (by kernel_rfl)
  obtain ⟨a0_0, hx0_0, o0_0⟩ := field_at Try.underlying23 hf0 0 rfl (opens_int Try.underlying3) (o := 0) rfl (n := 1) (by kernel_rfl)
  obtain ⟨a0_1, hx0_1, o0_1⟩ := field_at Try.underlying23 hf0 1 rfl (opens_int Try.underlying3) (o := 1) rfl (n := 1) (by kernel_rfl)
  obtain ⟨a0_2, hx0_2, o0_2⟩ := field_at Try.underlying23 hf0 2 rfl (opens_int Try.underlying3) (o := 2) rfl (n := 1) (by kernel_rfl)
  obtain ⟨a0_3, hx0_3, o0_3⟩ := field_at Try.underlying23 hf0 3 rfl (opens_int Try.underlying3) (o := 3) rfl (n := 1) (by kernel_rfl)
  obtain ⟨a0_4, hx0_4, o0_4⟩ := field_at Try.underlying23 hf0 4 rfl (opens_int Try.underlying3) (o := 4) rfl (n := 1) (by kernel_rfl)
  obtain ⟨c0_0', c0_1', c0_2', c0_3', c0_4', rfl⟩ : ∃ c0_0' c0_1' c0_2' c0_3' c0_4', cs0 = #[c0_0', c0_1', c0_2', c0_3', c0_4'] := by
    exact parts5 cs0 hl0
  have e0_0 : [c0_0'] = [Value.int .i64 a0_0] := hx0_0
  obtain rfl := List.singleton_inj.1 e0_0
  have e0_1 : [c0_1'] = [Value.int .i64 a0_1] := hx0_1
  obtain rfl := List.singleton_inj.1 e0_1
  have e0_2 : [c0_2'] = [Value.int .i64 a0_2] := hx0_2
  obtain rfl := List.singleton_inj.1 e0_2
  have e0_3 : [c0_3'] = [Value.int .i64 a0_3] := hx0_3
  obtain rfl := List.singleton_inj.1 e0_3
  have e0_4 : [c0_4'] = [Value.int .i64 a0_4] := hx0_4
  obtain rfl := List.singleton_inj.1 e0_4
  have k1 := h1
  have lt1 : ∀ x ∈ p1, x.block < W.heap.size := by obtain ⟨m, hm⟩ := k1; exact DataW.trod_lt m _ _ _ hm
  obtain ⟨cs1, rfl, _⟩ := okWide_struct Try.underlying29 (hval 1 29 v1 rfl rfl)
  obtain ⟨fuel1, hf1⟩ := h1
  have hl1 : cs1.toList.length = 4 := (struct_len Try.underlying29 hf1).trans (by kernel_rfl)
  obtain ⟨a1_0, hx1_0, o1_0⟩ := field_at Try.underlying29 hf1 0 rfl (opens_int Try.underlying3) (o := 0) rfl (n := 1) (by kernel_rfl)
  obtain ⟨a1_1, hx1_1, o1_1⟩ := field_at Try.underlying29 hf1 1 rfl (opens_int Try.underlying3) (o := 1) rfl (n := 1) (by kernel_rfl)
  obtain ⟨a1_2, hx1_2, o1_2⟩ := field_at Try.underlying29 hf1 2 rfl (opens_int Try.underlying3) (o := 2) rfl (n := 1) (by kernel_rfl)
  obtain ⟨a1_3, hx1_3, o1_3⟩ := field_at Try.underlying29 hf1 3 rfl (opens_int Try.underlying3) (o := 3) rfl (n := 1) (by kernel_rfl)
  obtain ⟨c1_0', c1_1', c1_2', c1_3', rfl⟩ : ∃ c1_0' c1_1' c1_2' c1_3', cs1 = #[c1_0', c1_1', c1_2', c1_3'] := by
    exact parts4 cs1 hl1
  have e1_0 : [c1_0'] = [Value.int .i64 a1_0] := hx1_0
  obtain rfl := List.singleton_inj.1 e1_0
  have e1_1 : [c1_1'] = [Value.int .i64 a1_1] := hx1_1
  obtain rfl := List.singleton_inj.1 e1_1
  have e1_2 : [c1_2'] = [Value.int .i64 a1_2] := hx1_2
  obtain rfl := List.singleton_inj.1 e1_2
  have e1_3 : [c1_3'] = [Value.int .i64 a1_3] := hx1_3
  obtain rfl := List.singleton_inj.1 e1_3
  clear hA0 hval0
  obtain ⟨k, hk⟩ := Pure.FnExactFlyLeg a0_0 a0_1 a0_2 a0_3 a0_4 a1_0 a1_1 a1_2 a1_3 o0_0 o0_1 o0_2 o0_3 o0_4 o1_0 o1_1 o1_2 o1_3
  refine (laws_FnExactFlyLeg.calls k a0_0 a0_1 a0_2 a0_3 a0_4 a1_0 a1_1 a1_2 a1_3 true W  hk).mono fun e W' ⟨he, bel0⟩ => ?_
  have bel : Below W.heap.size W W' := bel0
  subst he
  exact ⟨_, rfl, _, _, _, [], _, [], hW', trodAll_mk1 (shut_bool Try.underlying4 _), (trodAll_cons_mk (Below.trod laidOut (by kernel_rfl) (of_decide_eq_true (by kernel_rfl)) k0 bel lt0) (trodAll_cons_mk (Below.trod laidOut (by kernel_rfl) (of_decide_eq_true (by kernel_rfl)) k1 bel lt1) trodAll_mk0)), rfl, bel.frame _, fun h => by cases h⟩
theorem over : Rows.fnExactFlyLegRow.holds Try.pinned (OpenSpec.ofChange Rows.fnExactFlyLegSpec) :=
  OpenClaim.holds_of_wide 5 Try.f5 rfl rfl rfl rfl rfl rfl rfl ⟨rfl, rfl, rfl, rfl, rfl⟩ rfl rfl rfl rfl rfl (by kernel_rfl) Try.func5 (by kernel_rfl)
    (of_decide_eq_true (by kernel_rfl)) (by unfold Func.isWrapper; first | (rw [if_pos (by decide +kernel)]; kernel_rfl) | (rw [if_neg (by decide +kernel)]; exact ⟨rfl, rfl⟩))
    (fun os started H enc _ => lifted os started H enc)
end Go.Proofs.Ytadnhfdodcmlaaa.fnExactFlyLeg
namespace Go.Proofs.Ytadnhfdodcmlaaa
/-- The row, under a short name, for the claim. -/
theorem fnExactFlyLeg_holds : Rows.FnExactFlyLegSaid := fnExactFlyLeg.over
end Go.Proofs.Ytadnhfdodcmlaaa
