/- The row of the law FnExactTicks: for every input it returns true, and its arguments read behind the call as they read before; no condition. -/
import Derived.Test.YtdodiflcmjbfdaaRows
import Derived.Test.YtdodiflcmjbfdaaPFnExactTicksx13
import Derived.Test.YtdodiflcmjbfdaaAskFnExactTicks
import Derived.Test.YtdodiflcmjbfdaaPureFnExactTicks
import Derived.Test.YtdodiflcmjbfdaaOpen
import Derived.WalkKit
import Derived.ProofKit
import Derived.OpenShut
import Derived.ShutString
import Derived.ChangeOld
import Derived.Below
import Derived.SizedLaws
namespace Go.Proofs.Ytdodiflcmjbfdaa.fnExactTicks
open Go.ChangeShapes Go.WideShapes Go.ChangeAt Go.RowKit Go.Proofs.YtdodiflcmjbfdaaW.PrintWords Go.Proofs.Ytdodiflcmjbfdaa.PFnExactTicks Go.Proofs.Ytdodiflcmjbfdaa.Opening
open Go.ChangeMaps (open_string shut_string)
set_option linter.unusedVariables false
theorem own : ownKnob Try.prog.godebug = none := by kernel_rfl
theorem laidOut : laidOutB Try.prog = true := by kernel_rfl
theorem parts9 (cs : Array Value) (h : cs.toList.length = 9) : ∃ c0 c1 c2 c3 c4 c5 c6 c7 c8, cs = #[c0, c1, c2, c3, c4, c5, c6, c7, c8] := by
  match cs, h with
  | ⟨[c0, c1, c2, c3, c4, c5, c6, c7, c8]⟩, _ => exact ⟨c0, c1, c2, c3, c4, c5, c6, c7, c8, rfl⟩
set_option maxRecDepth 100000 in
theorem lifted (os : Os) (started : os.Started) (H : Type) (enc : TypeId × Value → H) :
    ReturnsInHanded {} Try.checked os 8 .any (Rows.fnExactTicksSpec.pre6 enc Try.prog Try.f8 Rows.fnExactTicksRow.domain false) (Rows.fnExactTicksSpec.post enc Try.prog Try.f8 false true false false) := by
  refine returnsInHanded_of_change_sized (C := Try.checked) own started (by kernel_rfl) Try.func8
    (ChangeSpec.witness6 (enc := enc) (C := Try.checked) false ⟨#[], #[.agg #[.int .i64 0, .int .i64 0, .int .i64 0, .int .i64 0, .int .i64 0, .int .i64 0, .int .i64 0, .int .i64 0, .bool false], .slice none 0 0], []⟩ 8 (by kernel_rfl) (by kernel_rfl) (by kernel_rfl) (by kernel_rfl)) ?_
  intro W base args ds gs before hval0 hW hcnd hsz0 _
  have hval : ∀ (j : Nat) t v, Try.f8.params[j]? = some t → args[j]? = some v → Value.okWide Try.prog W .any base t v := hval0
  have hW' := hW
  obtain ⟨p, q, hA0, hV, rfl, hfz, hnd⟩ := hW
  have hA : DataW.TrodAll enc Try.prog W 0 (fun _ => true) true Try.f8.params.toList args.toList ds p := hA0
  rw [Try.params8] at hA hval
  obtain ⟨v0, vs0, d0, ds0, p0, q0, hargs, rfl, rfl, h0, r0⟩ := trodAll_cons hA
  obtain ⟨v1, vs1, d1, ds1, p1, q1, rfl, rfl, rfl, h1, r1⟩ := trodAll_cons r0
  obtain ⟨rfl, rfl, rfl⟩ := trodAll_nil r1
  obtain rfl : args = #[v0, v1] := by cases args; simp_all
  obtain ⟨rfl, rfl⟩ := trodVars_none hV
  have k0 := h0
  have lt0 : ∀ x ∈ p0, x.block < W.heap.size := by obtain ⟨m, hm⟩ := k0; exact DataW.trod_lt m _ _ _ hm
  obtain ⟨cs0, rfl, _⟩ := okWide_struct Try.underlying23 (hval 0 23 v0 rfl rfl)
  obtain ⟨fuel0, hf0⟩ := h0
  have hl0 : cs0.toList.length = 9 := (struct_len Try.underlying23 hf0).trans (by kernel_rfl)
  obtain ⟨a0_0, hx0_0, o0_0⟩ := field_at Try.underlying23 hf0 0 rfl (opens_int Try.underlying3) (o := 0) rfl (n := 1) (by kernel_rfl)
  obtain ⟨a0_1, hx0_1, o0_1⟩ := field_at Try.underlying23 hf0 1 rfl (opens_int Try.underlying3) (o := 1) rfl (n := 1) (by kernel_rfl)
  obtain ⟨a0_2, hx0_2, o0_2⟩ := field_at Try.underlying23 hf0 2 rfl (opens_int Try.underlying3) (o := 2) rfl (n := 1) (by kernel_rfl)
  obtain ⟨a0_3, hx0_3, o0_3⟩ := field_at Try.underlying23 hf0 3 rfl (opens_int Try.underlying3) (o := 3) rfl (n := 1) (by kernel_rfl)
  obtain ⟨a0_4, hx0_4, o0_4⟩ := field_at Try.underlying23 hf0 4 rfl (opens_int Try.underlying3) (o := 4) rfl (n := 1) (by kernel_rfl)
  obtain ⟨a0_5, hx0_5, o0_5⟩ := field_at Try.underlying23 hf0 5 rfl (opens_int Try.underlying3) (o := 5) rfl (n := 1) (by kernel_rfl)
  obtain ⟨a0_6, hx0_6, o0_6⟩ := field_at Try.underlying23 hf0 6 rfl (opens_int Try.underlying3) (o := 6) rfl (n := 1) (by kernel_rfl)
  obtain ⟨a0_7, hx0_7, o0_7⟩ := field_at Try.underlying23 hf0 7 rfl (opens_int Try.underlying3) (o := 7) rfl (n := 1) (by kernel_rfl)
  obtain ⟨a0_8, hx0_8, o0_8⟩ := field_at Try.underlying23 hf0 8 rfl (opens_bool Try.underlying4) (o := 8) rfl (n := 1) (by kernel_rfl)
  obtain ⟨c0_0', c0_1', c0_2', c0_3', c0_4', c0_5', c0_6', c0_7', c0_8', rfl⟩ : ∃ c0_0' c0_1' c0_2' c0_3' c0_4' c0_5' c0_6' c0_7' c0_8', cs0 = #[c0_0', c0_1', c0_2', c0_3', c0_4', c0_5', c0_6', c0_7', c0_8'] := by
    exact parts9 cs0 hl0
  have e0_0 : [c0_0'] = [Value.int .i64 a0_0] := hx0_0
  obtain rfl := List.singleton_inj.1 e0_0
  have e0_1 : [c0_1'] = [Value.int .i64 a0_1] := hx0_1
  obtain rfl := List.singleton_inj.1 e0_1
  have e0_2 : [c0_2'] = [Value.int .i64 a0_2] := hx0_2
  obtain rfl := List.singleton_inj.1 e0_2
  have e0_3 : [c0_3'] = [Value.int .i64 a0_3] := hx0_3
  obtain rfl := List.singleton_inj.1 e0_3
  have e0_4 : [c0_4'] = [Value.int .i64 a0_4] := hx0_4
  obtain rfl := List.singleton_inj.1 e0_4
  have e0_5 : [c0_5'] = [Value.int .i64 a0_5] := hx0_5
  obtain rfl := List.singleton_inj.1 e0_5
  have e0_6 : [c0_6'] = [Value.int .i64 a0_6] := hx0_6
  obtain rfl := List.singleton_inj.1 e0_6
  have e0_7 : [c0_7'] = [Value.int .i64 a0_7] := hx0_7
  obtain rfl := List.singleton_inj.1 e0_7
  have e0_8 : [c0_8'] = [Value.bool a0_8] := hx0_8
  obtain rfl := List.singleton_inj.1 e0_8
  have k1 := h1
  have lt1 : ∀ x ∈ p1, x.block < W.heap.size := by obtain ⟨m, hm⟩ := k1; exact DataW.trod_lt m _ _ _ hm
  obtain ⟨A1, n1, c1, rfl⟩ := okWide_slice Try.underlying36 (hval 1 36 v1 rfl rfl)
  obtain ⟨A1', c1', l1, e1, hc1, hr1, o1⟩ := slice_of (opens_slice Try.underlying36 (opens_int Try.underlying3) (by kernel_rfl)) rfl h1
  simp only [Value.slice.injEq] at e1
  obtain ⟨rfl, rfl, rfl⟩ := e1
  clear hA0 hval0
  obtain ⟨k, hk⟩ := Pure.FnExactTicks a0_0 a0_1 a0_2 a0_3 a0_4 a0_5 a0_6 a0_7 a0_8 l1 o0_0 o0_1 o0_2 o0_3 o0_4 o0_5 o0_6 o0_7 o1
  refine (laws_FnExactTicks.calls k a0_0 a0_1 a0_2 a0_3 a0_4 a0_5 a0_6 a0_7 a0_8 _ _ l1 true W hr1 hc1 hk).mono fun e W' ⟨he, bel0⟩ => ?_
  have bel : Below W.heap.size W W' := bel0
  subst he
  exact ⟨_, rfl, _, _, _, [], _, [], hW', trodAll_mk1 (shut_bool Try.underlying4 _), (trodAll_cons_mk (Below.trod laidOut (by kernel_rfl) (of_decide_eq_true (by kernel_rfl)) k0 bel lt0) (trodAll_cons_mk (Below.trod laidOut (by kernel_rfl) (of_decide_eq_true (by kernel_rfl)) k1 bel lt1) trodAll_mk0)), rfl, bel.frame _, fun h => by cases h⟩
theorem over : Rows.fnExactTicksRow.holds Try.pinned (OpenSpec.ofChange Rows.fnExactTicksSpec) :=
  OpenClaim.holds_of_wide 8 Try.f8 rfl rfl rfl rfl rfl rfl rfl ⟨rfl, rfl, rfl, rfl, rfl⟩ rfl rfl rfl rfl rfl (by kernel_rfl) Try.func8 (by kernel_rfl)
    (of_decide_eq_true (by kernel_rfl)) (by unfold Func.isWrapper; first | (rw [if_pos (by decide +kernel)]; kernel_rfl) | (rw [if_neg (by decide +kernel)]; exact ⟨rfl, rfl⟩))
    (fun os started H enc _ => lifted os started H enc)
end Go.Proofs.Ytdodiflcmjbfdaa.fnExactTicks
namespace Go.Proofs.Ytdodiflcmjbfdaa
/-- The row, under a short name, for the claim. -/
theorem fnExactTicks_holds : Rows.FnExactTicksSaid := fnExactTicks.over
end Go.Proofs.Ytdodiflcmjbfdaa
