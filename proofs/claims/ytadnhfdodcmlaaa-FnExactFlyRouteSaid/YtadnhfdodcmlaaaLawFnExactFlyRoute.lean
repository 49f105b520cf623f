/- The row of the law FnExactFlyRoute: for every input it returns true, and its arguments read behind the call as they read before; no condition. -/
import Derived.Test.YtadnhfdodcmlaaaRows
import Derived.Test.YtadnhfdodcmlaaaPFnExactFlyRoutex13
import Derived.Test.YtadnhfdodcmlaaaAskFnExactFlyRoute
import Derived.Test.YtadnhfdodcmlaaaPureFnExactFlyRoute
import Derived.Test.YtadnhfdodcmlaaaOpen
import Derived.WalkKit
import Derived.ProofKit
import Derived.OpenShut
import Derived.ShutString
import Derived.ChangeOld
import Derived.Below
import Derived.SizedLaws
namespace Go.Proofs.Ytadnhfdodcmlaaa.fnExactFlyRoute
open Go.ChangeShapes Go.WideShapes Go.ChangeAt Go.RowKit Go.Proofs.YtadnhfdodcmlaaaW.PrintWords Go.Proofs.Ytadnhfdodcmlaaa.PFnExactFlyRoute Go.Proofs.Ytadnhfdodcmlaaa.Opening
open Go.ChangeMaps (open_string shut_string)
set_option linter.unusedVariables false
theorem own : ownKnob Try.prog.godebug = none := by kernel_rfl
theorem laidOut : laidOutB Try.prog = true := by kernel_rfl
theorem opens29 : Opens Try.prog 29 k29 ok29 := by
  intro H enc W base spare held fuel cs x h
  have hl : cs.length = 4 := (struct_len Try.underlying29 h).trans (by kernel_rfl)
  obtain ⟨x0, h0, w0⟩ := field_at Try.underlying29 h 0 rfl (opens_int Try.underlying3) (o := 0) rfl (n := 1) (by kernel_rfl)
  obtain ⟨x1, h1, w1⟩ := field_at Try.underlying29 h 1 rfl (opens_int Try.underlying3) (o := 1) rfl (n := 1) (by kernel_rfl)
  obtain ⟨x2, h2, w2⟩ := field_at Try.underlying29 h 2 rfl (opens_int Try.underlying3) (o := 2) rfl (n := 1) (by kernel_rfl)
  obtain ⟨x3, h3, w3⟩ := field_at Try.underlying29 h 3 rfl (opens_int Try.underlying3) (o := 3) rfl (n := 1) (by kernel_rfl)
  obtain ⟨c0, c1, c2, c3, rfl⟩ : ∃ c0 c1 c2 c3, cs = [c0, c1, c2, c3] := by
    match cs, hl with
    | [c0, c1, c2, c3], _ => exact ⟨c0, c1, c2, c3, rfl⟩
  have h0 : (Kd.int .i64).K W x0 [c0] := h0
  have h1 : (Kd.int .i64).K W x1 [c1] := h1
  have h2 : (Kd.int .i64).K W x2 [c2] := h2
  have h3 : (Kd.int .i64).K W x3 [c3] := h3
  exact ⟨⟨x0, x1, x2, x3⟩, ⟨[c0], [c1, c2, c3], rfl, h0, ⟨[c1], [c2, c3], rfl, h1, ⟨[c2], [c3], rfl, h2, h3⟩⟩⟩, ⟨w0, w1, w2, w3⟩⟩
theorem parts5 (cs : Array Value) (h : cs.toList.length = 5) : ∃ c0 c1 c2 c3 c4, cs = #[c0, c1, c2, c3, c4] := by
  match cs, h with
  | ⟨[c0, c1, c2, c3, c4]⟩, _ => exact ⟨c0, c1, c2, c3, c4, rfl⟩
set_option maxRecDepth 100000 in
theorem lifted (os : Os) (started : os.Started) (H : Type) (enc : TypeId × Value → H) :
    ReturnsInHanded {} Try.checked os 6 .any (Rows.fnExactFlyRouteSpec.pre6 enc Try.prog Try.f6 Rows.fnExactFlyRouteRow.domain false) (Rows.fnExactFlyRouteSpec.post enc Try.prog Try.f6 false true false false) := by
  refine returnsInHanded_of_change_sized (C := Try.checked) own started (by kernel_rfl) Try.func6
    (ChangeSpec.witness6 (enc := enc) (C := Try.checked) false ⟨#[], #[.agg #[.int .i64 0, .int .i64 0, .int .i64 0, .int .i64 0, .int .i64 0], .slice none 0 0], []⟩ 8 (by kernel_rfl) (by kernel_rfl) (by kernel_rfl) (by kernel_rfl)) ?_
  intro W base args ds gs before hval0 hW hcnd hsz0 _
  have hval : ∀ (j : Nat) t v, Try.f6.params[j]? = some t → args[j]? = some v → Value.okWide Try.prog W .any base t v := hval0
  have hW' := hW
  obtain ⟨p, q, hA0, hV, rfl, hfz, hnd⟩ := hW
  have hA : DataW.TrodAll enc Try.prog W 0 (fun _ => true) true Try.f6.params.toList args.toList ds p := hA0
  rw [Try.params6] at hA hval
  obtain ⟨v0, vs0, d0, ds0, p0, q0, hargs, rfl, rfl, h0, r0⟩ := trodAll_cons hA
  obtain ⟨v1, vs1, d1, ds1, p1, q1, rfl, rfl, rfl, h1, r1⟩ := trodAll_cons r0
  obtain ⟨rfl, rfl, rfl⟩ := trodAll_nil r1
  obtain rfl : args = #[v0, v1] := by cases args; simp_all
  obtain ⟨rfl, rfl⟩ := trodVars_none hV
  have k0 := h0
  have lt0 : ∀ x ∈ p0, x.block < W.heap.size := by obtain ⟨m, hm⟩ := k0; exact DataW.trod_lt m _ _ _ hm
  obtain ⟨cs0, rfl, _⟩ := okWide_struct Try.underlying23 (hval 0 23 v0 rfl rfl)
  obtain ⟨fuel0, hf0⟩ := h0
  have hl0 : cs0.toList.length = 5 := (struct_len Try.underlying23 hf0).trans (by kernel_rfl)
  obtain ⟨a0_0, hx0_0, o0_0⟩ := field_at Try.underlying23 hf0 0 rfl (opens_int Try.underlying3) (o := 0) rfl (n := 1) (by kernel_rfl)
  obtain ⟨a0_1, hx0_1, o0_1⟩ := field_at Try.underlying23 hf0 1 rfl (opens_int Try.underlying3) (o := 1) rfl (n := 1) (by kernel_rfl)
  obtain ⟨a0_2, hx0_2, o0_2⟩ := field_at Try.underlying23 hf0 2 rfl (opens_int Try.underlying3) (o := 2) rfl (n := 1) (by kernel_rfl)
  obtain ⟨a0_3, hx0_3, o0_3⟩ := field_at Try.underlying23 hf0 3 rfl (opens_int Try.underlying3) (o := 3) rfl (n := 1) (by kernel_rfl)
  obtain ⟨a0_4, hx0_4, o0_4⟩ := field_at Try.underlying23 hf0 4 rfl (opens_int Try.underlying3) (o := 4) rfl (n := 1) (by kernel_rfl)
  obtain ⟨c0_0', c0_1', c0_2', c0_3', c0_4', rfl⟩ : ∃ c0_0' c0_1' c0_2' c0_3' c0_4', cs0 = #[c0_0', c0_1', c0_2', c0_3', c0_4'] := by
    exact parts5 cs0 hl0
  have e0_0 : [c0_0'] = [Value.int .i64 a0_0] := hx0_0
  obtain rfl := List.singleton_inj.1 e0_0
  have e0_1 : [c0_1'] = [Value.int .i64 a0_1] := hx0_1
  obtain rfl := List.singleton_inj.1 e0_1
  have e0_2 : [c0_2'] = [Value.int .i64 a0_2] := hx0_2
  obtain rfl := List.singleton_inj.1 e0_2
  have e0_3 : [c0_3'] = [Value.int .i64 a0_3] := hx0_3
  obtain rfl := List.singleton_inj.1 e0_3
  have e0_4 : [c0_4'] = [Value.int .i64 a0_4] := hx0_4
  obtain rfl := List.singleton_inj.1 e0_4
  have k1 := h1
  have lt1 : ∀ x ∈ p1, x.block < W.heap.size := by obtain ⟨m, hm⟩ := k1; exact DataW.trod_lt m _ _ _ hm
  obtain ⟨A1, n1, c1, rfl⟩ := okWide_slice Try.underlying38 (hval 1 38 v1 rfl rfl)
  obtain ⟨A1', c1', l1, e1, hc1, hr1, o1⟩ := slice_of (opens_slice Try.underlying38 opens29 (by kernel_rfl)) rfl h1
  simp only [Value.slice.injEq] at e1
  obtain ⟨rfl, rfl, rfl⟩ := e1
  clear hA0 hval0
  obtain ⟨k, hk⟩ := Pure.FnExactFlyRoute a0_0 a0_1 a0_2 a0_3 a0_4 l1 o0_0 o0_1 o0_2 o0_3 o0_4 o1
  refine (laws_FnExactFlyRoute.calls k a0_0 a0_1 a0_2 a0_3 a0_4 _ _ l1 true W hr1 hc1 hk).mono fun e W' ⟨he, bel0⟩ => ?_
  have bel : Below W.heap.size W W' := bel0
  subst he
  exact ⟨_, rfl, _, _, _, [], _, [], hW', trodAll_mk1 (shut_bool Try.underlying4 _), (trodAll_cons_mk (Below.trod laidOut (by kernel_rfl) (of_decide_eq_true (by kernel_rfl)) k0 bel lt0) (trodAll_cons_mk (Below.trod laidOut (by kernel_rfl) (of_decide_eq_true (by kernel_rfl)) k1 bel lt1) trodAll_mk0)), rfl, bel.frame _, fun h => by cases h⟩
theorem over : Rows.fnExactFlyRouteRow.holds Try.pinned (OpenSpec.ofChange Rows.fnExactFlyRouteSpec) :=
  OpenClaim.holds_of_wide 6 Try.f6 rfl rfl rfl rfl rfl rfl rfl ⟨rfl, rfl, rfl, rfl, rfl⟩ rfl rfl rfl rfl rfl (by kernel_rfl) Try.func6 (by kernel_rfl)
    (of_decide_eq_true (by kernel_rfl)) (by unfold Func.isWrapper; first | (rw [if_pos (by decide +kernel)]; kernel_rfl) | (rw [if_neg (by decide +kernel)]; exact ⟨rfl, rfl⟩))
    (fun os started H enc _ => lifted os started H enc)
end Go.Proofs.Ytadnhfdodcmlaaa.fnExactFlyRoute
namespace Go.Proofs.Ytadnhfdodcmlaaa
/-- The row, under a short name, for the claim. -/
theorem fnExactFlyRoute_holds : Rows.FnExactFlyRouteSaid := fnExactFlyRoute.over
end Go.Proofs.Ytadnhfdodcmlaaa
