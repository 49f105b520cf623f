/- The row of the law FnExactChanges: for every input it returns true, and its arguments read behind the call as they read before; no condition. -/
import Derived.Test.YtdodiflcmjbfdaaRows
import Derived.Test.YtdodiflcmjbfdaaPFnExactChangesx2
import Derived.Test.YtdodiflcmjbfdaaAskFnExactChanges
import Derived.Test.YtdodiflcmjbfdaaPureFnExactChanges
import Derived.Test.YtdodiflcmjbfdaaOpen
import Derived.WalkKit
import Derived.ProofKit
import Derived.OpenShut
import Derived.ShutString
import Derived.ChangeOld
import Derived.Below
import Derived.SizedLaws
namespace Go.Proofs.Ytdodiflcmjbfdaa.fnExactChanges
open Go.ChangeShapes Go.WideShapes Go.ChangeAt Go.RowKit Go.Proofs.YtdodiflcmjbfdaaW.PrintWords Go.Proofs.Ytdodiflcmjbfdaa.PFnExactChanges Go.Proofs.Ytdodiflcmjbfdaa.Opening
open Go.ChangeMaps (open_string shut_string)
set_option linter.unusedVariables false
theorem own : ownKnob Try.prog.godebug = none := by kernel_rfl
theorem laidOut : laidOutB Try.prog = true := by kernel_rfl
theorem opens23 : Opens Try.prog 23 k23 ok23 := by
  intro H enc W base spare held fuel cs x h
  have hl : cs.length = 9 := (struct_len Try.underlying23 h).trans (by kernel_rfl)
  obtain ⟨x0, h0, w0⟩ := field_at Try.underlying23 h 0 rfl (opens_int Try.underlying3) (o := 0) rfl (n := 1) (by kernel_rfl)
  obtain ⟨x1, h1, w1⟩ := field_at Try.underlying23 h 1 rfl (opens_int Try.underlying3) (o := 1) rfl (n := 1) (by kernel_rfl)
  obtain ⟨x2, h2, w2⟩ := field_at Try.underlying23 h 2 rfl (opens_int Try.underlying3) (o := 2) rfl (n := 1) (by kernel_rfl)
  obtain ⟨x3, h3, w3⟩ := field_at Try.underlying23 h 3 rfl (opens_int Try.underlying3) (o := 3) rfl (n := 1) (by kernel_rfl)
  obtain ⟨x4, h4, w4⟩ := field_at Try.underlying23 h 4 rfl (opens_int Try.underlying3) (o := 4) rfl (n := 1) (by kernel_rfl)
  obtain ⟨x5, h5, w5⟩ := field_at Try.underlying23 h 5 rfl (opens_int Try.underlying3) (o := 5) rfl (n := 1) (by kernel_rfl)
  obtain ⟨x6, h6, w6⟩ := field_at Try.underlying23 h 6 rfl (opens_int Try.underlying3) (o := 6) rfl (n := 1) (by kernel_rfl)
  obtain ⟨x7, h7, w7⟩ := field_at Try.underlying23 h 7 rfl (opens_int Try.underlying3) (o := 7) rfl (n := 1) (by kernel_rfl)
  obtain ⟨x8, h8, w8⟩ := field_at Try.underlying23 h 8 rfl (opens_bool Try.underlying4) (o := 8) rfl (n := 1) (by kernel_rfl)
  obtain ⟨c0, c1, c2, c3, c4, c5, c6, c7, c8, rfl⟩ : ∃ c0 c1 c2 c3 c4 c5 c6 c7 c8, cs = [c0, c1, c2, c3, c4, c5, c6, c7, c8] := by
    match cs, hl with
    | [c0, c1, c2, c3, c4, c5, c6, c7, c8], _ => exact ⟨c0, c1, c2, c3, c4, c5, c6, c7, c8, rfl⟩
  have h0 : (Kd.int .i64).K W x0 [c0] := h0
  have h1 : (Kd.int .i64).K W x1 [c1] := h1
  have h2 : (Kd.int .i64).K W x2 [c2] := h2
  have h3 : (Kd.int .i64).K W x3 [c3] := h3
  have h4 : (Kd.int .i64).K W x4 [c4] := h4
  have h5 : (Kd.int .i64).K W x5 [c5] := h5
  have h6 : (Kd.int .i64).K W x6 [c6] := h6
  have h7 : (Kd.int .i64).K W x7 [c7] := h7
  have h8 : Kd.bool.K W x8 [c8] := h8
  exact ⟨⟨x0, x1, x2, x3, x4, x5, x6, x7, x8⟩, ⟨[c0], [c1, c2, c3, c4, c5, c6, c7, c8], rfl, h0, ⟨[c1], [c2, c3, c4, c5, c6, c7, c8], rfl, h1, ⟨[c2], [c3, c4, c5, c6, c7, c8], rfl, h2, ⟨[c3], [c4, c5, c6, c7, c8], rfl, h3, ⟨[c4], [c5, c6, c7, c8], rfl, h4, ⟨[c5], [c6, c7, c8], rfl, h5, ⟨[c6], [c7, c8], rfl, h6, ⟨[c7], [c8], rfl, h7, h8⟩⟩⟩⟩⟩⟩⟩⟩, ⟨w0, w1, w2, w3, w4, w5, w6, w7, w8⟩⟩
set_option maxRecDepth 100000 in
theorem lifted (os : Os) (started : os.Started) (H : Type) (enc : TypeId × Value → H) :
    ReturnsInHanded {} Try.checked os 5 .any (Rows.fnExactChangesSpec.pre6 enc Try.prog Try.f5 Rows.fnExactChangesRow.domain false) (Rows.fnExactChangesSpec.post enc Try.prog Try.f5 false true false false) := by
  refine returnsInHanded_of_change_sized (C := Try.checked) own started (by kernel_rfl) Try.func5
    (ChangeSpec.witness6 (enc := enc) (C := Try.checked) false ⟨#[], #[.slice none 0 0], []⟩ 8 (by kernel_rfl) (by kernel_rfl) (by kernel_rfl) (by kernel_rfl)) ?_
  intro W base args ds gs before hval0 hW hcnd hsz0 _
  have hval : ∀ (j : Nat) t v, Try.f5.params[j]? = some t → args[j]? = some v → Value.okWide Try.prog W .any base t v := hval0
  have hW' := hW
  obtain ⟨p, q, hA0, hV, rfl, hfz, hnd⟩ := hW
  have hA : DataW.TrodAll enc Try.prog W 0 (fun _ => true) true Try.f5.params.toList args.toList ds p := hA0
  rw [Try.params5] at hA hval
  obtain ⟨v0, vs0, d0, ds0, p0, q0, hargs, rfl, rfl, h0, r0⟩ := trodAll_cons hA
  obtain ⟨rfl, rfl, rfl⟩ := trodAll_nil r0
  obtain rfl : args = #[v0] := by cases args; simp_all
  obtain ⟨rfl, rfl⟩ := trodVars_none hV
  have k0 := h0
  have lt0 : ∀ x ∈ p0, x.block < W.heap.size := by obtain ⟨m, hm⟩ := k0; exact DataW.trod_lt m _ _ _ hm
  obtain ⟨A0, n0, c0, rfl⟩ := okWide_slice Try.underlying40 (hval 0 40 v0 rfl rfl)
  obtain ⟨A0', c0', l0, e0, hc0, hr0, o0⟩ := slice_of (opens_slice Try.underlying40 opens23 (by kernel_rfl)) rfl h0
  simp only [Value.slice.injEq] at e0
  obtain ⟨rfl, rfl, rfl⟩ := e0
  clear hA0 hval0
  obtain ⟨k, hk⟩ := Pure.FnExactChanges l0 o0
  refine (laws_FnExactChanges.calls k _ _ l0 true W hr0 hc0 hk).mono fun e W' ⟨he, bel0⟩ => ?_
  have bel : Below W.heap.size W W' := bel0
  subst he
  exact ⟨_, rfl, _, _, _, [], _, [], hW', trodAll_mk1 (shut_bool Try.underlying4 _), (trodAll_cons_mk (Below.trod laidOut (by kernel_rfl) (of_decide_eq_true (by kernel_rfl)) k0 bel lt0) trodAll_mk0), rfl, bel.frame _, fun h => by cases h⟩
theorem over : Rows.fnExactChangesRow.holds Try.pinned (OpenSpec.ofChange Rows.fnExactChangesSpec) :=
  OpenClaim.holds_of_wide 5 Try.f5 rfl rfl rfl rfl rfl rfl rfl ⟨rfl, rfl, rfl, rfl, rfl⟩ rfl rfl rfl rfl rfl (by kernel_rfl) Try.func5 (by kernel_rfl)
    (of_decide_eq_true (by kernel_rfl)) (by unfold Func.isWrapper; first | (rw [if_pos (by decide +kernel)]; kernel_rfl) | (rw [if_neg (by decide +kernel)]; exact ⟨rfl, rfl⟩))
    (fun os started H enc _ => lifted os started H enc)
end Go.Proofs.Ytdodiflcmjbfdaa.fnExactChanges
namespace Go.Proofs.Ytdodiflcmjbfdaa
/-- The row, under a short name, for the claim. -/
theorem fnExactChanges_holds : Rows.FnExactChangesSaid := fnExactChanges.over
end Go.Proofs.Ytdodiflcmjbfdaa
