/- The row of the law FnExactInhibited: for every input it returns true, and its arguments read behind the call as they read before; no condition. -/
import Derived.Test.YtjndpoofjidamaaRows
import Derived.Test.YtjndpoofjidamaaPFnExactInhibitedx9
import Derived.Test.YtjndpoofjidamaaAskFnExactInhibited
import Derived.Test.YtjndpoofjidamaaPureFnExactInhibited
import Derived.Test.YtjndpoofjidamaaOpen
import Derived.WalkKit
import Derived.ProofKit
import Derived.OpenShut
import Derived.ShutString
import Derived.ChangeOld
import Derived.Below
import Derived.SizedLaws
namespace Go.Proofs.Ytjndpoofjidamaa.fnExactInhibited
open Go.ChangeShapes Go.WideShapes Go.ChangeAt Go.RowKit Go.Proofs.YtjndpoofjidamaaW.PrintWords Go.Proofs.Ytjndpoofjidamaa.PFnExactInhibited Go.Proofs.Ytjndpoofjidamaa.Opening
open Go.ChangeMaps (open_string shut_string)
set_option linter.unusedVariables false
theorem own : ownKnob Try.prog.godebug = none := by kernel_rfl
theorem laidOut : laidOutB Try.prog = true := by kernel_rfl
theorem opens62 : Opens Try.prog 62 k62 ok62 := by
  intro H enc W base spare held fuel cs x h
  have hl : cs.length = 5 := (struct_len Try.underlying62 h).trans (by kernel_rfl)
  obtain ⟨x0, h0, w0⟩ := field_at Try.underlying62 h 0 rfl (opens_string Try.underlying9) (o := 0) rfl (n := 1) (by kernel_rfl)
  obtain ⟨x1, h1, w1⟩ := field_at Try.underlying62 h 1 rfl (opens_int Try.underlying3) (o := 1) rfl (n := 1) (by kernel_rfl)
  obtain ⟨x2, h2, w2⟩ := field_at Try.underlying62 h 2 rfl (opens_slice Try.underlying42 (opens_int Try.underlying3) (by kernel_rfl)) (o := 2) rfl (n := 1) (by kernel_rfl)
  obtain ⟨x3, h3, w3⟩ := field_at Try.underlying62 h 3 rfl (opens_bool Try.underlying4) (o := 3) rfl (n := 1) (by kernel_rfl)
  obtain ⟨x4, h4, w4⟩ := field_at Try.underlying62 h 4 rfl (opens_string Try.underlying9) (o := 4) rfl (n := 1) (by kernel_rfl)
  obtain ⟨c0, c1, c2, c3, c4, rfl⟩ : ∃ c0 c1 c2 c3 c4, cs = [c0, c1, c2, c3, c4] := by
    match cs, hl with
    | [c0, c1, c2, c3, c4], _ => exact ⟨c0, c1, c2, c3, c4, rfl⟩
  have h0 : Kd.string.K W x0 [c0] := h0
  have h1 : (Kd.int .i64).K W x1 [c1] := h1
  have h2 : (Kd.slice 3 (Kd.int .i64)).K W x2 [c2] := h2
  have h3 : Kd.bool.K W x3 [c3] := h3
  have h4 : Kd.string.K W x4 [c4] := h4
  exact ⟨⟨x0, x1, x2, x3, x4⟩, ⟨[c0], [c1, c2, c3, c4], rfl, h0, ⟨[c1], [c2, c3, c4], rfl, h1, ⟨[c2], [c3, c4], rfl, h2, ⟨[c3], [c4], rfl, h3, h4⟩⟩⟩⟩, ⟨w0, w1, w2, w3, w4⟩⟩
set_option maxRecDepth 100000 in
theorem lifted (os : Os) (started : os.Started) (H : Type) (enc : TypeId × Value → H) :
    ReturnsInHanded {} Try.checked os 5 .any (Rows.fnExactInhibitedSpec.pre6 enc Try.prog Try.f5 Rows.fnExactInhibitedRow.domain false) (Rows.fnExactInhibitedSpec.post enc Try.prog Try.f5 false true false false) := by
  refine returnsInHanded_of_change_sized (C := Try.checked) own started (by kernel_rfl) Try.func5
    (ChangeSpec.witness6 (enc := enc) (C := Try.checked) false ⟨#[], #[.slice none 0 0, .int .i64 0], []⟩ 8 (by kernel_rfl) (by kernel_rfl) (by kernel_rfl) (by kernel_rfl)) ?_
  intro W base args ds gs before hval0 hW hcnd hsz0 _
  have hval : ∀ (j : Nat) t v, Try.f5.params[j]? = some t → args[j]? = some v → Value.okWide Try.prog W .any base t v := hval0
  have hW' := hW
  obtain ⟨p, q, hA0, hV, rfl, hfz, hnd⟩ := hW
  have hA : DataW.TrodAll enc Try.prog W 0 (fun _ => true) true Try.f5.params.toList args.toList ds p := hA0
  rw [Try.params5] at hA hval
  obtain ⟨v0, vs0, d0, ds0, p0, q0, hargs, rfl, rfl, h0, r0⟩ := trodAll_cons hA
  obtain ⟨v1, vs1, d1, ds1, p1, q1, rfl, rfl, rfl, h1, r1⟩ := trodAll_cons r0
  obtain ⟨rfl, rfl, rfl⟩ := trodAll_nil r1
  obtain rfl : args = #[v0, v1] := by cases args; simp_all
  obtain ⟨rfl, rfl⟩ := trodVars_none hV
  have k0 := h0
  have lt0 : ∀ x ∈ p0, x.block < W.heap.size := by obtain ⟨m, hm⟩ := k0; exact DataW.trod_lt m _ _ _ hm
  obtain ⟨A0, n0, c0, rfl⟩ := okWide_slice Try.underlying22 (hval 0 22 v0 rfl rfl)
  obtain ⟨A0', c0', l0, e0, hc0, hr0, o0⟩ := slice_of (opens_slice Try.underlying22 opens62 (by kernel_rfl)) rfl h0
  simp only [Value.slice.injEq] at e0
  obtain ⟨rfl, rfl, rfl⟩ := e0
  have k1 := h1
  have lt1 : ∀ x ∈ p1, x.block < W.heap.size := by obtain ⟨m, hm⟩ := k1; exact DataW.trod_lt m _ _ _ hm
  obtain ⟨a1, rfl, _, _, o1⟩ := open_int Try.underlying3 (hval 1 3 v1 rfl rfl) h1
  clear hA0 hval0
  obtain ⟨k, hk⟩ := Pure.FnExactInhibited l0 a1 o0 o1
  refine (laws_FnExactInhibited.calls k _ _ l0 a1 true W hr0 hc0 hk).mono fun e W' ⟨he, bel0⟩ => ?_
  have bel : Below W.heap.size W W' := bel0
  subst he
  exact ⟨_, rfl, _, _, _, [], _, [], hW', trodAll_mk1 (shut_bool Try.underlying4 _), (trodAll_cons_mk (Below.trod laidOut (by kernel_rfl) (of_decide_eq_true (by kernel_rfl)) k0 bel lt0) (trodAll_cons_mk (Below.trod laidOut (by kernel_rfl) (of_decide_eq_true (by kernel_rfl)) k1 bel lt1) trodAll_mk0)), rfl, bel.frame _, fun h => by cases h⟩
theorem over : Rows.fnExactInhibitedRow.holds Try.pinned (OpenSpec.ofChange Rows.fnExactInhibitedSpec) :=
  OpenClaim.holds_of_wide 5 Try.f5 rfl rfl rfl rfl rfl rfl rfl ⟨rfl, rfl, rfl, rfl, rfl⟩ rfl rfl rfl rfl rfl (by kernel_rfl) Try.func5 (by kernel_rfl)
    (of_decide_eq_true (by kernel_rfl)) (by unfold Func.isWrapper; first | (rw [if_pos (by decide +kernel)]; kernel_rfl) | (rw [if_neg (by decide +kernel)]; exact ⟨rfl, rfl⟩))
    (fun os started H enc _ => lifted os started H enc)
end Go.Proofs.Ytjndpoofjidamaa.fnExactInhibited
namespace Go.Proofs.Ytjndpoofjidamaa
/-- The row, under a short name, for the claim. -/
theorem fnExactInhibited_holds : Rows.FnExactInhibitedSaid := fnExactInhibited.over
end Go.Proofs.Ytjndpoofjidamaa
