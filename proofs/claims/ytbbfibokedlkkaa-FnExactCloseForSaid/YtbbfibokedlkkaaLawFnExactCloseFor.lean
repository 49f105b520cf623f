/- The row of the law FnExactCloseFor: for every input it returns true, and its arguments read behind the call as they read before; no condition. -/
import Derived.Test.YtbbfibokedlkkaaRows
import Derived.Test.YtbbfibokedlkkaaPFnExactCloseForx16
import Derived.Test.YtbbfibokedlkkaaAskFnExactCloseFor
import Derived.Test.YtbbfibokedlkkaaPureFnExactCloseFor
import Derived.Test.YtbbfibokedlkkaaOpen
import Derived.WalkKit
import Derived.ProofKit
import Derived.OpenShut
import Derived.ShutString
import Derived.ChangeOld
import Derived.Below
import Derived.SizedLaws
namespace Go.Proofs.Ytbbfibokedlkkaa.fnExactCloseFor
open Go.ChangeShapes Go.WideShapes Go.ChangeAt Go.RowKit Go.Proofs.YtbbfibokedlkkaaW.PrintWords Go.Proofs.Ytbbfibokedlkkaa.PFnExactCloseFor Go.Proofs.Ytbbfibokedlkkaa.Opening
open Go.ChangeMaps (open_string shut_string)
set_option linter.unusedVariables false
theorem own : ownKnob Try.prog.godebug = none := by kernel_rfl
theorem laidOut : laidOutB Try.prog = true := by kernel_rfl
theorem opens96 : Opens Try.prog 96 k96 ok96 := by
  intro H enc W base spare held fuel cs x h
  have hl : cs.length = 3 := (struct_len Try.underlying96 h).trans (by kernel_rfl)
  obtain ⟨x0, h0, w0⟩ := field_at Try.underlying96 h 0 rfl (opens_int Try.underlying3) (o := 0) rfl (n := 1) (by kernel_rfl)
  obtain ⟨x1, h1, w1⟩ := field_at Try.underlying96 h 1 rfl (opens_int Try.underlying3) (o := 1) rfl (n := 1) (by kernel_rfl)
  obtain ⟨x2, h2, w2⟩ := field_at Try.underlying96 h 2 rfl (opens_bool Try.underlying4) (o := 2) rfl (n := 1) (by kernel_rfl)
  obtain ⟨c0, c1, c2, rfl⟩ : ∃ c0 c1 c2, cs = [c0, c1, c2] := by
    match cs, hl with
    | [c0, c1, c2], _ => exact ⟨c0, c1, c2, rfl⟩
  have h0 : (Kd.int .i64).K W x0 [c0] := h0
  have h1 : (Kd.int .i64).K W x1 [c1] := h1
  have h2 : Kd.bool.K W x2 [c2] := h2
  exact ⟨⟨x0, x1, x2⟩, ⟨[c0], [c1, c2], rfl, h0, ⟨[c1], [c2], rfl, h1, h2⟩⟩, ⟨w0, w1, w2⟩⟩
theorem opens98 : Opens Try.prog 98 k98 ok98 := by
  intro H enc W base spare held fuel cs x h
  have hl : cs.length = 3 := (struct_len Try.underlying98 h).trans (by kernel_rfl)
  obtain ⟨x0, h0, w0⟩ := field_at Try.underlying98 h 0 rfl (opens_int Try.underlying3) (o := 0) rfl (n := 1) (by kernel_rfl)
  obtain ⟨x1, h1, w1⟩ := field_at Try.underlying98 h 1 rfl (opens_int Try.underlying3) (o := 1) rfl (n := 1) (by kernel_rfl)
  obtain ⟨x2, h2, w2⟩ := field_at Try.underlying98 h 2 rfl (opens_bool Try.underlying4) (o := 2) rfl (n := 1) (by kernel_rfl)
  obtain ⟨c0, c1, c2, rfl⟩ : ∃ c0 c1 c2, cs = [c0, c1, c2] := by
    match cs, hl with
    | [c0, c1, c2], _ => exact ⟨c0, c1, c2, rfl⟩
  have h0 : (Kd.int .i64).K W x0 [c0] := h0
  have h1 : (Kd.int .i64).K W x1 [c1] := h1
  have h2 : Kd.bool.K W x2 [c2] := h2
  exact ⟨⟨x0, x1, x2⟩, ⟨[c0], [c1, c2], rfl, h0, ⟨[c1], [c2], rfl, h1, h2⟩⟩, ⟨w0, w1, w2⟩⟩
theorem opens100 : Opens Try.prog 100 k100 ok100 := by
  intro H enc W base spare held fuel cs x h
  have hl : cs.length = 3 := (struct_len Try.underlying100 h).trans (by kernel_rfl)
  obtain ⟨x0, h0, w0⟩ := field_at Try.underlying100 h 0 rfl (opens_int Try.underlying3) (o := 0) rfl (n := 1) (by kernel_rfl)
  obtain ⟨x1, h1, w1⟩ := field_at Try.underlying100 h 1 rfl (opens_int Try.underlying3) (o := 1) rfl (n := 1) (by kernel_rfl)
  obtain ⟨x2, h2, w2⟩ := field_at Try.underlying100 h 2 rfl (opens_int Try.underlying3) (o := 2) rfl (n := 1) (by kernel_rfl)
  obtain ⟨c0, c1, c2, rfl⟩ : ∃ c0 c1 c2, cs = [c0, c1, c2] := by
    match cs, hl with
    | [c0, c1, c2], _ => exact ⟨c0, c1, c2, rfl⟩
  have h0 : (Kd.int .i64).K W x0 [c0] := h0
  have h1 : (Kd.int .i64).K W x1 [c1] := h1
  have h2 : (Kd.int .i64).K W x2 [c2] := h2
  exact ⟨⟨x0, x1, x2⟩, ⟨[c0], [c1, c2], rfl, h0, ⟨[c1], [c2], rfl, h1, h2⟩⟩, ⟨w0, w1, w2⟩⟩
theorem parts4 (cs : Array Value) (h : cs.toList.length = 4) : ∃ c0 c1 c2 c3, cs = #[c0, c1, c2, c3] := by
  match cs, h with
  | ⟨[c0, c1, c2, c3]⟩, _ => exact ⟨c0, c1, c2, c3, rfl⟩
set_option maxRecDepth 100000 in
theorem lifted (os : Os) (started : os.Started) (H : Type) (enc : TypeId × Value → H) :
    ReturnsInHanded {} Try.checked os 9 .any (Rows.fnExactCloseForSpec.pre6 enc Try.prog Try.f9 Rows.fnExactCloseForRow.domain false) (Rows.fnExactCloseForSpec.post enc Try.prog Try.f9 false true false false) := by
  refine returnsInHanded_of_change_sized (C := Try.checked) own started (by kernel_rfl) Try.func9
    (ChangeSpec.witness6 (enc := enc) (C := Try.checked) false ⟨#[], #[.agg #[.int .i64 0, .slice none 0 0, .slice none 0 0, .slice none 0 0], .int .i64 0], []⟩ 8 (by kernel_rfl) (by kernel_rfl) (by kernel_rfl) (by kernel_rfl)) ?_
  intro W base args ds gs before hval0 hW hcnd hsz0 _
  have hval : ∀ (j : Nat) t v, Try.f9.params[j]? = some t → args[j]? = some v → Value.okWide Try.prog W .any base t v := hval0
  have hW' := hW
  obtain ⟨p, q, hA0, hV, rfl, hfz, hnd⟩ := hW
  have hA : DataW.TrodAll enc Try.prog W 0 (fun _ => true) true Try.f9.params.toList args.toList ds p := hA0
  rw [Try.params9] at hA hval
  obtain ⟨v0, vs0, d0, ds0, p0, q0, hargs, rfl, rfl, h0, r0⟩ := trodAll_cons hA
  obtain ⟨v1, vs1, d1, ds1, p1, q1, rfl, rfl, rfl, h1, r1⟩ := trodAll_cons r0
  obtain ⟨rfl, rfl, rfl⟩ := trodAll_nil r1
  obtain rfl : args = #[v0, v1] := by cases args; simp_all
  obtain ⟨rfl, rfl⟩ := trodVars_none hV
  have k0 := h0
  have lt0 : ∀ x ∈ p0, x.block < W.heap.size := by obtain ⟨m, hm⟩ := k0; exact DataW.trod_lt m _ _ _ hm
  obtain ⟨cs0, rfl, _⟩ := okWide_struct Try.underlying34 (hval 0 34 v0 rfl rfl)
  obtain ⟨fuel0, hf0⟩ := h0
  have hl0 : cs0.toList.length = 4 := (struct_len Try.underlying34 hf0).trans (by kernel_rfl)
  obtain ⟨a0_0, hx0_0, o0_0⟩ := field_at Try.underlying34 hf0 0 rfl (opens_int Try.underlying3) (o := 0) rfl (n := 1) (by kernel_rfl)
  obtain ⟨l0_1, hx0_1, o0_1⟩ := field_at Try.underlying34 hf0 1 rfl (opens_slice Try.underlying30 opens96 (by kernel_rfl)) (o := 1) rfl (n := 1) (by kernel_rfl)
  obtain ⟨l0_2, hx0_2, o0_2⟩ := field_at Try.underlying34 hf0 2 rfl (opens_slice Try.underlying31 opens98 (by kernel_rfl)) (o := 2) rfl (n := 1) (by kernel_rfl)
  obtain ⟨l0_3, hx0_3, o0_3⟩ := field_at Try.underlying34 hf0 3 rfl (opens_slice Try.underlying32 opens100 (by kernel_rfl)) (o := 3) rfl (n := 1) (by kernel_rfl)
  obtain ⟨c0_0', c0_1', c0_2', c0_3', rfl⟩ : ∃ c0_0' c0_1' c0_2' c0_3', cs0 = #[c0_0', c0_1', c0_2', c0_3'] := by
    exact parts4 cs0 hl0
  have e0_0 : [c0_0'] = [Value.int .i64 a0_0] := hx0_0
  obtain rfl := List.singleton_inj.1 e0_0
  obtain ⟨A0_1, c0_1, e0_1, hc0_1, hr0_1⟩ : ∃ A c, [c0_1'] = [.slice A l0_1.length c] ∧ l0_1.length ≤ c ∧ Kd.C k96 W A l0_1.length l0_1 := hx0_1
  obtain rfl := List.singleton_inj.1 e0_1
  obtain ⟨A0_2, c0_2, e0_2, hc0_2, hr0_2⟩ : ∃ A c, [c0_2'] = [.slice A l0_2.length c] ∧ l0_2.length ≤ c ∧ Kd.C k98 W A l0_2.length l0_2 := hx0_2
  obtain rfl := List.singleton_inj.1 e0_2
  obtain ⟨A0_3, c0_3, e0_3, hc0_3, hr0_3⟩ : ∃ A c, [c0_3'] = [.slice A l0_3.length c] ∧ l0_3.length ≤ c ∧ Kd.C k100 W A l0_3.length l0_3 := hx0_3
  obtain rfl := List.singleton_inj.1 e0_3
  have k1 := h1
  have lt1 : ∀ x ∈ p1, x.block < W.heap.size := by obtain ⟨m, hm⟩ := k1; exact DataW.trod_lt m _ _ _ hm
  obtain ⟨a1, rfl, _, _, o1⟩ := open_int Try.underlying3 (hval 1 3 v1 rfl rfl) h1
  clear hA0 hval0
  obtain ⟨k, hk⟩ := Pure.FnExactCloseFor a0_0 l0_1 l0_2 l0_3 a1 o0_0 o0_1 o0_2 o0_3 o1
  refine (laws_FnExactCloseFor.calls k a0_0 _ _ l0_1 _ _ l0_2 _ _ l0_3 a1 true W hr0_1 hc0_1 hr0_2 hc0_2 hr0_3 hc0_3 hk).mono fun e W' ⟨he, bel0⟩ => ?_
  have bel : Below W.heap.size W W' := bel0
  subst he
  exact ⟨_, rfl, _, _, _, [], _, [], hW', trodAll_mk1 (shut_bool Try.underlying4 _), (trodAll_cons_mk (Below.trod laidOut (by kernel_rfl) (of_decide_eq_true (by kernel_rfl)) k0 bel lt0) (trodAll_cons_mk (Below.trod laidOut (by kernel_rfl) (of_decide_eq_true (by kernel_rfl)) k1 bel lt1) trodAll_mk0)), rfl, bel.frame _, fun h => by cases h⟩
theorem over : Rows.fnExactCloseForRow.holds Try.pinned (OpenSpec.ofChange Rows.fnExactCloseForSpec) :=
  OpenClaim.holds_of_wide 9 Try.f9 rfl rfl rfl rfl rfl rfl rfl ⟨rfl, rfl, rfl, rfl, rfl⟩ rfl rfl rfl rfl rfl (by kernel_rfl) Try.func9 (by kernel_rfl)
    (of_decide_eq_true (by kernel_rfl)) (by unfold Func.isWrapper; first | (rw [if_pos (by decide +kernel)]; kernel_rfl) | (rw [if_neg (by decide +kernel)]; exact ⟨rfl, rfl⟩))
    (fun os started H enc _ => lifted os started H enc)
end Go.Proofs.Ytbbfibokedlkkaa.fnExactCloseFor
namespace Go.Proofs.Ytbbfibokedlkkaa
/-- The row, under a short name, for the claim. -/
theorem fnExactCloseFor_holds : Rows.FnExactCloseForSaid := fnExactCloseFor.over
end Go.Proofs.Ytbbfibokedlkkaa
