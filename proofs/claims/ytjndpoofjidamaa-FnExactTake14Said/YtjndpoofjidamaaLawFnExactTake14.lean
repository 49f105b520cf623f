/- The row of the law FnExactTake14: for every input it returns true, and its arguments read behind the call as they read before; no condition. -/
import Derived.Test.YtjndpoofjidamaaRows
import Derived.Test.YtjndpoofjidamaaPFnExactTake14x14
import Derived.Test.YtjndpoofjidamaaAskFnExactTake14
import Derived.Test.YtjndpoofjidamaaPureFnExactTake14
import Derived.Test.YtjndpoofjidamaaOpen
import Derived.WalkKit
import Derived.ProofKit
import Derived.OpenShut
import Derived.ShutString
import Derived.ChangeOld
import Derived.Below
import Derived.SizedLaws
namespace Go.Proofs.Ytjndpoofjidamaa.fnExactTake14
open Go.ChangeShapes Go.WideShapes Go.ChangeAt Go.RowKit Go.Proofs.YtjndpoofjidamaaW.PrintWords Go.Proofs.Ytjndpoofjidamaa.PFnExactTake14 Go.Proofs.Ytjndpoofjidamaa.Opening
open Go.ChangeMaps (open_string shut_string)
set_option linter.unusedVariables false
theorem own : ownKnob Try.prog.godebug = none := by kernel_rfl
theorem laidOut : laidOutB Try.prog = true := by kernel_rfl
theorem opens62 : Opens Try.prog 62 k62 ok62 := by
  intro H enc W base spare held fuel cs x h
  have hl : cs.length = 5 := (struct_len Try.underlying62 h).trans (by kernel_rfl)
  obtain ⟨x0, h0, w0⟩ := field_at Try.underlying62 h 0 rfl (opens_string Try.underlying9) (o := 0) rfl (n := 1) (by kernel_rfl)
  obtain ⟨x1, h1, w1⟩ := field_at Try.underlying62 h 1 rfl (opens_int Try.underlying3) (o := 1) rfl (n := 1) (by kernel_rfl)
  obtain ⟨x2, h2, w2⟩ := field_at Try.underlying62 h 2 rfl (opens_slice Try.underlying42 (opens_int Try.underlying3) (by kernel_rfl)) (o := 2) rfl (n := 1) (by kernel_rfl)
  obtain ⟨x3, h3, w3⟩ := field_at Try.underlying62 h 3 rfl (opens_bool Try.underlying4) (o := 3) rfl (n := 1) (by kernel_rfl)
  obtain ⟨x4, h4, w4⟩ := field_at Try.underlying62 h 4 rfl (opens_string Try.underlying9) (o := 4) rfl (n := 1) (by kernel_rfl)
  obtain ⟨c0, c1, c2, c3, c4, rfl⟩ : ∃ c0 c1 c2 c3 c4, cs = [c0, c1, c2, c3, c4] := by
    match cs, hl with
    | [c0, c1, c2, c3, c4], _ => exact ⟨c0, c1, c2, c3, c4, rfl⟩
  have h0 : Kd.string.K W x0 [c0] := h0
  have h1 : (Kd.int .i64).K W x1 [c1] := h1
  have h2 : (Kd.slice 3 (Kd.int .i64)).K W x2 [c2] := h2
  have h3 : Kd.bool.K W x3 [c3] := h3
  have h4 : Kd.string.K W x4 [c4] := h4
  exact ⟨⟨x0, x1, x2, x3, x4⟩, ⟨[c0], [c1, c2, c3, c4], rfl, h0, ⟨[c1], [c2, c3, c4], rfl, h1, ⟨[c2], [c3, c4], rfl, h2, ⟨[c3], [c4], rfl, h3, h4⟩⟩⟩⟩, ⟨w0, w1, w2, w3, w4⟩⟩
theorem parts3 (cs : Array Value) (h : cs.toList.length = 3) : ∃ c0 c1 c2, cs = #[c0, c1, c2] := by
  match cs, h with
  | ⟨[c0, c1, c2]⟩, _ => exact ⟨c0, c1, c2, rfl⟩
set_option maxRecDepth 100000 in
theorem lifted (os : Os) (started : os.Started) (H : Type) (enc : TypeId × Value → H) :
    ReturnsInHanded {} Try.checked os 7 .any (Rows.fnExactTake14Spec.pre6 enc Try.prog Try.f7 Rows.fnExactTake14Row.domain false) (Rows.fnExactTake14Spec.post enc Try.prog Try.f7 false true false false) := by
  refine returnsInHanded_of_change_sized (C := Try.checked) own started (by kernel_rfl) Try.func7
    (ChangeSpec.witness6 (enc := enc) (C := Try.checked) false ⟨#[], #[.slice none 0 0, .agg #[.slice none 0 0, .slice none 0 0, .slice none 0 0], .string ByteArray.empty], []⟩ 8 (by kernel_rfl) (by kernel_rfl) (by kernel_rfl) (by kernel_rfl)) ?_
  intro W base args ds gs before hval0 hW hcnd hsz0 _
  have hval : ∀ (j : Nat) t v, Try.f7.params[j]? = some t → args[j]? = some v → Value.okWide Try.prog W .any base t v := hval0
  have hW' := hW
  obtain ⟨p, q, hA0, hV, rfl, hfz, hnd⟩ := hW
  have hA : DataW.TrodAll enc Try.prog W 0 (fun _ => true) true Try.f7.params.toList args.toList ds p := hA0
  rw [Try.params7] at hA hval
  obtain ⟨v0, vs0, d0, ds0, p0, q0, hargs, rfl, rfl, h0, r0⟩ := trodAll_cons hA
  obtain ⟨v1, vs1, d1, ds1, p1, q1, rfl, rfl, rfl, h1, r1⟩ := trodAll_cons r0
  obtain ⟨v2, vs2, d2, ds2, p2, q2, rfl, rfl, rfl, h2, r2⟩ := trodAll_cons r1
  obtain ⟨rfl, rfl, rfl⟩ := trodAll_nil r2
  obtain rfl : args = #[v0, v1, v2] := by cases args; simp_all
  obtain ⟨rfl, rfl⟩ := trodVars_none hV
  have k0 := h0
  have lt0 : ∀ x ∈ p0, x.block < W.heap.size := by obtain ⟨m, hm⟩ := k0; exact DataW.trod_lt m _ _ _ hm
  obtain ⟨A0, n0, c0, rfl⟩ := okWide_slice Try.underlying22 (hval 0 22 v0 rfl rfl)
  obtain ⟨A0', c0', l0, e0, hc0, hr0, o0⟩ := slice_of (opens_slice Try.underlying22 opens62 (by kernel_rfl)) rfl h0
  simp only [Value.slice.injEq] at e0
  obtain ⟨rfl, rfl, rfl⟩ := e0
  have k1 := h1
  have lt1 : ∀ x ∈ p1, x.block < W.heap.size := by obtain ⟨m, hm⟩ := k1; exact DataW.trod_lt m _ _ _ hm
  obtain ⟨cs1, rfl, _⟩ := okWide_struct Try.underlying53 (hval 1 53 v1 rfl rfl)
  obtain ⟨fuel1, hf1⟩ := h1
  have hl1 : cs1.toList.length = 3 := (struct_len Try.underlying53 hf1).trans (by kernel_rfl)
  obtain ⟨l1_0, hx1_0, o1_0⟩ := field_at Try.underlying53 hf1 0 rfl (opens_slice Try.underlying29 (opens_string Try.underlying9) (by kernel_rfl)) (o := 0) rfl (n := 1) (by kernel_rfl)
  obtain ⟨l1_1, hx1_1, o1_1⟩ := field_at Try.underlying53 hf1 1 rfl (opens_slice Try.underlying29 (opens_string Try.underlying9) (by kernel_rfl)) (o := 1) rfl (n := 1) (by kernel_rfl)
  obtain ⟨l1_2, hx1_2, o1_2⟩ := field_at Try.underlying53 hf1 2 rfl (opens_slice Try.underlying29 (opens_string Try.underlying9) (by kernel_rfl)) (o := 2) rfl (n := 1) (by kernel_rfl)
  obtain ⟨c1_0', c1_1', c1_2', rfl⟩ : ∃ c1_0' c1_1' c1_2', cs1 = #[c1_0', c1_1', c1_2'] := by
    exact parts3 cs1 hl1
  obtain ⟨A1_0, c1_0, e1_0, hc1_0, hr1_0⟩ : ∃ A c, [c1_0'] = [.slice A l1_0.length c] ∧ l1_0.length ≤ c ∧ Kd.C Kd.string W A l1_0.length l1_0 := hx1_0
  obtain rfl := List.singleton_inj.1 e1_0
  obtain ⟨A1_1, c1_1, e1_1, hc1_1, hr1_1⟩ : ∃ A c, [c1_1'] = [.slice A l1_1.length c] ∧ l1_1.length ≤ c ∧ Kd.C Kd.string W A l1_1.length l1_1 := hx1_1
  obtain rfl := List.singleton_inj.1 e1_1
  obtain ⟨A1_2, c1_2, e1_2, hc1_2, hr1_2⟩ : ∃ A c, [c1_2'] = [.slice A l1_2.length c] ∧ l1_2.length ≤ c ∧ Kd.C Kd.string W A l1_2.length l1_2 := hx1_2
  obtain rfl := List.singleton_inj.1 e1_2
  have k2 := h2
  have lt2 : ∀ x ∈ p2, x.block < W.heap.size := by obtain ⟨m, hm⟩ := k2; exact DataW.trod_lt m _ _ _ hm
  obtain ⟨a2, rfl, _, _, o2⟩ := open_string Try.underlying9 (hval 2 9 v2 rfl rfl) h2
  clear hA0 hval0
  obtain ⟨k, hk⟩ := Pure.FnExactTake14 l0 l1_0 l1_1 l1_2 a2 o0 o1_0 o1_1 o1_2 o2
  refine (laws_FnExactTake14.calls k _ _ l0 _ _ l1_0 _ _ l1_1 _ _ l1_2 a2 true W hr0 hc0 hr1_0 hc1_0 hr1_1 hc1_1 hr1_2 hc1_2 hk).mono fun e W' ⟨he, bel0⟩ => ?_
  have bel : Below W.heap.size W W' := bel0
  subst he
  exact ⟨_, rfl, _, _, _, [], _, [], hW', trodAll_mk1 (shut_bool Try.underlying4 _), (trodAll_cons_mk (Below.trod laidOut (by kernel_rfl) (of_decide_eq_true (by kernel_rfl)) k0 bel lt0) (trodAll_cons_mk (Below.trod laidOut (by kernel_rfl) (of_decide_eq_true (by kernel_rfl)) k1 bel lt1) (trodAll_cons_mk (Below.trod laidOut (by kernel_rfl) (of_decide_eq_true (by kernel_rfl)) k2 bel lt2) trodAll_mk0))), rfl, bel.frame _, fun h => by cases h⟩
theorem over : Rows.fnExactTake14Row.holds Try.pinned (OpenSpec.ofChange Rows.fnExactTake14Spec) :=
  OpenClaim.holds_of_wide 7 Try.f7 rfl rfl rfl rfl rfl rfl rfl ⟨rfl, rfl, rfl, rfl, rfl⟩ rfl rfl rfl rfl rfl (by kernel_rfl) Try.func7 (by kernel_rfl)
    (of_decide_eq_true (by kernel_rfl)) (by unfold Func.isWrapper; first | (rw [if_pos (by decide +kernel)]; kernel_rfl) | (rw [if_neg (by decide +kernel)]; exact ⟨rfl, rfl⟩))
    (fun os started H enc _ => lifted os started H enc)
end Go.Proofs.Ytjndpoofjidamaa.fnExactTake14
namespace Go.Proofs.Ytjndpoofjidamaa
/-- The row, under a short name, for the claim. -/
theorem fnExactTake14_holds : Rows.FnExactTake14Said := fnExactTake14.over
end Go.Proofs.Ytjndpoofjidamaa
