/- The row of the law FnExactLegText: for every input it returns true, and its arguments read behind the call as they read before; no condition. -/
import Derived.Test.YtadnhfdodcmlaaaDoorRows
import Derived.Test.YtadnhfdodcmlaaaDoorPFnExactLegTextx5
import Derived.Test.YtadnhfdodcmlaaaDoorAskFnExactLegText
import Derived.Test.YtadnhfdodcmlaaaDoorPureFnExactLegText
import Derived.Test.YtadnhfdodcmlaaaDoorOpen
import Derived.WalkKit
import Derived.ProofKit
import Derived.OpenShut
import Derived.ShutString
import Derived.ChangeOld
import Derived.Below
import Derived.SizedLaws
import Derived.LaidMore
import Derived.LaidSub
import Derived.Lib.LaidTab
import Derived.Stop.Joined
import Derived.SevenTiedAt
import Derived.Test.YtadnhfdodcmlaaaDoorCards
import Derived.Test.YtadnhfdodcmlaaaDoorTie
namespace Go.Proofs.YtadnhfdodcmlaaaDoor.fnExactLegText
open Go.ChangeShapes Go.WideShapes Go.ChangeAt Go.RowKit Go.Proofs.YtadnhfdodcmlaaaDoorW.PrintWords Go.Proofs.YtadnhfdodcmlaaaDoor.PFnExactLegText Go.Proofs.YtadnhfdodcmlaaaDoor.Opening
open Go.ChangeMaps (open_string shut_string)
set_option linter.unusedVariables false
theorem own : ownKnob Tryd.prog.godebug = none := by kernel_rfl
theorem laidOut : laidOutB Tryd.prog = true := by kernel_rfl
theorem parts4 (cs : Array Value) (h : cs.toList.length = 4) : ∃ c0 c1 c2 c3, cs = #[c0, c1, c2, c3] := by
  match cs, h with
  | ⟨[c0, c1, c2, c3]⟩, _ => exact ⟨c0, c1, c2, c3, rfl⟩
/-- The door's own heap meets the condition. -/
theorem door_met (os : Os) (args : Array Value) : laidMetH Tryd.prog Rows.fnExactLegTextRow.laid ((World.doorLaid Tryd.prog 400 os).forCall (fun _ _ => 0) ⟨#[], args, []⟩).memory :=
  laidMetH_of_parts3 (fuel := 8) (laidMet_of_run' 8 (by kernel_rfl) (by kernel_rfl)) (by kernel_rfl) (by kernel_rfl)
/-- What the condition gives the walk: the table of the powers of ten. -/
theorem tab_of {W : World} (h : laidMetH Tryd.prog Rows.fnExactLegTextRow.laid W) : Lib.TabIs Tryd.prog W "internal/strconv.uint64pow10" .u64 Lib.pow10Tab := by
  rw [MakeChecks.laidMetH_plain _ _ _ (by kernel_rfl)] at h
  have h2 := h.filter (fun x => x.1 == "internal/strconv.uint64pow10")
  have e : (Rows.fnExactLegTextRow.laid.filter fun x => x.1 == "internal/strconv.uint64pow10") = [("internal/strconv.uint64pow10", Lib.tabData .u64 Lib.pow10Tab)] := by kernel_rfl
  rw [e] at h2
  exact Lib.tabIs_of_head (g := 3) (t := 111) (e := 99) (n := 20) (by kernel_rfl) (by kernel_rfl) Tryd.underlying111 Tryd.underlying99 (by kernel_rfl) (by kernel_rfl) h2
set_option maxRecDepth 100000 in
theorem lifted (os : Os) (started : os.Started) (H : Type) (enc : TypeId × Value → H) :
    ReturnsInHanded {} Tryd.checked os 4 .any (fun w args => (Rows.fnExactLegTextSpec.pre enc Tryd.prog Tryd.f4 [] false w args ∧ laidMetH Tryd.prog Rows.fnExactLegTextRow.laid w) ∧ sizedMet enc Tryd.prog Tryd.f4 (OpenSpec.ofChange Rows.fnExactLegTextSpec) false w args) (Rows.fnExactLegTextSpec.post enc Tryd.prog Tryd.f4 false true false false) := by
  refine returnsInHanded_of_change_and (C := Tryd.checked) (X := fun w _ => laidMetH Tryd.prog Rows.fnExactLegTextRow.laid w) (fun _ _ _ hh h => h.of_heap hh) own started (by kernel_rfl) Tryd.func4
    (ChangeSpec.witness_shaped (enc := enc) (C := Tryd.checked) (os := os) (X := fun w _ => laidMetH Tryd.prog Rows.fnExactLegTextRow.laid w) false (World.doorLaid Tryd.prog 400 os) #[.agg #[.int .i64 0, .int .i64 0, .int .i64 0, .int .i64 0]] 8 rfl (World.shaped_of_RefB (by kernel_rfl) (by kernel_rfl)) (by kernel_rfl) (by kernel_rfl) (by kernel_rfl) (door_met os _)) ?_
  intro W base args ds gs before hval0 hW _ _ hL _
  have htab := tab_of hL
  have hval : ∀ (j : Nat) t v, Tryd.f4.params[j]? = some t → args[j]? = some v → Value.okWide Tryd.prog W .any base t v := hval0
  have hW' := hW
  obtain ⟨p, q, hA0, hV, rfl, hfz, hnd⟩ := hW
  have hA : DataW.TrodAll enc Tryd.prog W 0 (fun _ => true) true Tryd.f4.params.toList args.toList ds p := hA0
  rw [Tryd.params4] at hA hval
  obtain ⟨v0, vs0, d0, ds0, p0, q0, hargs, rfl, rfl, h0, r0⟩ := trodAll_cons hA
  obtain ⟨rfl, rfl, rfl⟩ := trodAll_nil r0
  obtain rfl : args = #[v0] := by cases args; simp_all
  obtain ⟨rfl, rfl⟩ := trodVars_none hV
  have k0 := h0
  have lt0 : ∀ x ∈ p0, x.block < W.heap.size := by obtain ⟨m, hm⟩ := k0; exact DataW.trod_lt m _ _ _ hm
  obtain ⟨cs0, rfl, _⟩ := okWide_struct Tryd.underlying42 (hval 0 42 v0 rfl rfl)
  obtain ⟨fuel0, hf0⟩ := h0
  have hl0 : cs0.toList.length = 4 := (struct_len Tryd.underlying42 hf0).trans (by kernel_rfl)
  obtain ⟨a0_0, hx0_0, o0_0⟩ := field_at Tryd.underlying42 hf0 0 rfl (opens_int Tryd.underlying3) (o := 0) rfl (n := 1) (by kernel_rfl)
  obtain ⟨a0_1, hx0_1, o0_1⟩ := field_at Tryd.underlying42 hf0 1 rfl (opens_int Tryd.underlying3) (o := 1) rfl (n := 1) (by kernel_rfl)
  obtain ⟨a0_2, hx0_2, o0_2⟩ := field_at Tryd.underlying42 hf0 2 rfl (opens_int Tryd.underlying3) (o := 2) rfl (n := 1) (by kernel_rfl)
  obtain ⟨a0_3, hx0_3, o0_3⟩ := field_at Tryd.underlying42 hf0 3 rfl (opens_int Tryd.underlying3) (o := 3) rfl (n := 1) (by kernel_rfl)
  obtain ⟨c0_0', c0_1', c0_2', c0_3', rfl⟩ : ∃ c0_0' c0_1' c0_2' c0_3', cs0 = #[c0_0', c0_1', c0_2', c0_3'] := by
    exact parts4 cs0 hl0
  have e0_0 : [c0_0'] = [Value.int .i64 a0_0] := hx0_0
  obtain rfl := List.singleton_inj.1 e0_0
  have e0_1 : [c0_1'] = [Value.int .i64 a0_1] := hx0_1
  obtain rfl := List.singleton_inj.1 e0_1
  have e0_2 : [c0_2'] = [Value.int .i64 a0_2] := hx0_2
  obtain rfl := List.singleton_inj.1 e0_2
  have e0_3 : [c0_3'] = [Value.int .i64 a0_3] := hx0_3
  obtain rfl := List.singleton_inj.1 e0_3
  clear hA0 hval0
  obtain ⟨k, hk⟩ := Pure.FnExactLegText a0_0 a0_1 a0_2 a0_3 o0_0 o0_1 o0_2 o0_3
  refine (laws_FnExactLegText.calls k a0_0 a0_1 a0_2 a0_3 true W  hk htab).mono fun e W' ⟨he, bel0⟩ => ?_
  have bel : Below W.heap.size W W' := bel0
  subst he
  exact ⟨_, rfl, _, _, _, [], _, [], hW', trodAll_mk1 (shut_bool Tryd.underlying4 _), (trodAll_cons_mk (Below.trod laidOut (by kernel_rfl) (of_decide_eq_true (by kernel_rfl)) k0 bel lt0) trodAll_mk0), rfl, bel.frame _, fun h => by cases h⟩
theorem over : Rows.fnExactLegTextRow.holds Tryd.pinned (OpenSpec.ofChange Rows.fnExactLegTextSpec) :=
  OpenClaim.holds_of_wide 4 Tryd.f4 rfl rfl rfl rfl rfl rfl rfl ⟨rfl, rfl, rfl, rfl, rfl⟩ rfl rfl rfl rfl rfl (by kernel_rfl) Tryd.func4 (by kernel_rfl)
    (of_decide_eq_true (by kernel_rfl)) (by unfold Func.isWrapper; first | (rw [if_pos (by decide +kernel)]; kernel_rfl) | (rw [if_neg (by decide +kernel)]; exact ⟨rfl, rfl⟩))
    (fun os started H enc _ => lifted os started H enc)
end Go.Proofs.YtadnhfdodcmlaaaDoor.fnExactLegText
namespace Go.Proofs.YtadnhfdodcmlaaaDoor
/-- The row, under a short name, for the claim. -/
theorem fnExactLegText_holds : Rows.FnExactLegTextSaid := fnExactLegText.over
/-- THE TIED CARD. -/
theorem fnExactLegText_card_holds : Rows.FnExactLegTextCardSaid :=
  Claim7.holds_tied_plain_at .later [] [.data, .data, .data] true (true, "d9b68c03e074ea90b56543f153ec8ec689ec4c7ebcc57d3afc05297dc84d5788") true
    fnExactLegText_holds (fun _ h => by cases h) (by kernel_rfl) (fun _ h => by cases h) fnExactLegText_row_tie rfl ⟨rfl, rfl⟩ (by kernel_rfl) rfl
    (fun f fn hf hfn => by
      obtain rfl : f = 4 := Option.some.inj ((show Tryd.prog.funcNamed "loop.example/g00063/laws.FnExactLegText" = some 4 by kernel_rfl).symm.trans hf) |>.symm
      obtain rfl : fn = Tryd.f4 := (Option.some.inj (Tryd.func4.symm.trans hfn)).symm
      exact ⟨by kernel_rfl, fun j t ht => by
        rw [Tryd.params4] at ht
        have hm : t ∈ [42] := by simpa using Array.mem_of_getElem? ht
        have hall : ([42].all fun u => !Tryd.prog.wantsStandIn u) = true := by kernel_rfl
        exact (show Tryd.prog.wantsStandIn t = false by simpa using List.all_eq_true.1 hall t hm)⟩)
    (by kernel_rfl)
end Go.Proofs.YtadnhfdodcmlaaaDoor
