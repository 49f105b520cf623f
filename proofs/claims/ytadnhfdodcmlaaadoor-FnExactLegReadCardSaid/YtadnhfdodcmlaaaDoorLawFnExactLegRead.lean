/- Walks of the functions named below, by a program of the session over the kit's printer. -/
import Derived.Test.YtadnhfdodcmlaaaDoorRows
import Derived.Test.YtadnhfdodcmlaaaDoorPFnExactLegReadx10
import Derived.Test.YtadnhfdodcmlaaaDoorPureFnExactLegRead
import Derived.WalkKit
import Derived.ProofKit
import Derived.OpenShut
import Derived.ShutString
import Derived.ChangeOld
import Derived.Below
import Derived.SizedLaws
import Derived.LaidMore
import Derived.Shelf.Vars
import Derived.Lay
import Derived.Handed
import Derived.LaidSub
import Derived.Lib.LaidTab
import Derived.Stop.Joined
import Derived.SevenTiedAt
import Derived.Test.YtadnhfdodcmlaaaDoorCards
import Derived.Test.YtadnhfdodcmlaaaDoorTie
namespace Go.Proofs.YtadnhfdodcmlaaaDoor.fnExactLegRead
open Go.ChangeShapes Go.WideShapes Go.ChangeAt Go.RowKit
open Go.ChangeMaps (open_string shut_string)
set_option linter.unusedVariables false
theorem own : ownKnob Tryd.prog.godebug = none := by kernel_rfl
/-- The door's own heap meets the condition. -/
theorem door_met (os : Os) (args : Array Value) : laidMetH Tryd.prog Rows.fnExactLegReadRow.laid ((World.laidAll Tryd.prog os Rows.fnExactLegReadRow.laid).forCall (fun _ _ => 0) ⟨#[], args, []⟩).memory :=
  by rw [MakeChecks.laidMetH_plain _ _ _ (by kernel_rfl)]; exact laidMet_laidAll _ (by kernel_rfl) (by kernel_rfl)
/-- What the condition gives the walk: the table of the powers of ten. -/
theorem tab_of {W : World} (h : laidMetH Tryd.prog Rows.fnExactLegReadRow.laid W) : Lib.TabIs Tryd.prog W "internal/strconv.uint64pow10" .u64 Lib.pow10Tab := by
  rw [MakeChecks.laidMetH_plain _ _ _ (by kernel_rfl)] at h
  have h2 := h.filter (fun x => x.1 == "internal/strconv.uint64pow10")
  have e : (Rows.fnExactLegReadRow.laid.filter fun x => x.1 == "internal/strconv.uint64pow10") = [("internal/strconv.uint64pow10", Lib.tabData .u64 Lib.pow10Tab)] := by kernel_rfl
  rw [e] at h2
  exact Lib.tabIs_of_head (g := 3) (t := 111) (e := 99) (n := 20) (by kernel_rfl) (by kernel_rfl) Tryd.underlying111 Tryd.underlying99 (by kernel_rfl) (by kernel_rfl) h2
/-- A listed error value's cell holds an interface value. -/
theorem ifc {W : World} {g ti : Nat} {ms : Array (String × TypeId)} {nm nn : String} {d : DataW Unit} (hg : Tryd.prog.globalNamed nm = some g) (hty : (Tryd.prog.globals[g]?).map (·.type) = some ti) (hi : Tryd.prog.underlying ti = some (.interface ms))
    (h : laidMet Tryd.prog [(nm, .iface nn d)] W) : ∃ t p, W.cell? ⟨g, 0, none⟩ = some (.iface t p) := by
  obtain ⟨ps, ⟨g', t', cs, fuel, p, q, hg', ht', hvar, hd, _, _⟩, _⟩ := h
  obtain rfl := Option.some.inj (hg.symm.trans hg')
  obtain rfl := Option.some.inj (hty.symm.trans ht')
  obtain ⟨_, u, v, e, _, _⟩ := iface_of_trod hi hd
  have h0 := World.var?_cell hg hvar 0
  refine ⟨u, v, ?_⟩
  rw [h0, ← Array.getElem?_toList, e]
  rfl
theorem ground_of {W : World} (h : laidMetH Tryd.prog Rows.fnExactLegReadRow.laid W) (hS : W.ShapedOpen Tryd.prog) : PFnExactLegRead.Ground W := by
  refine ⟨tab_of h, ?_, ?_, ?_⟩
  · exact cell_of_shapedOpen_int (zero := #[.int .i64 0]) (t := 3) hS (of_decide_eq_true (by kernel_rfl)) (by kernel_rfl) rfl (by kernel_rfl) (by kernel_rfl) Tryd.underlying3
  · rw [MakeChecks.laidMetH_plain _ _ _ (by kernel_rfl)] at h
    have h2 := h.filter (fun x => x.1 == "strconv.ErrSyntax")
    have e : (Rows.fnExactLegReadRow.laid.filter fun x => x.1 == "strconv.ErrSyntax") = [("strconv.ErrSyntax", Rows.laid_strconv_ErrSyntax)] := by kernel_rfl
    rw [e] at h2
    exact ifc (by kernel_rfl) (by kernel_rfl) Tryd.underlying71 h2
  · rw [MakeChecks.laidMetH_plain _ _ _ (by kernel_rfl)] at h
    have h2 := h.filter (fun x => x.1 == "strconv.ErrRange")
    have e : (Rows.fnExactLegReadRow.laid.filter fun x => x.1 == "strconv.ErrRange") = [("strconv.ErrRange", Rows.laid_strconv_ErrRange)] := by kernel_rfl
    rw [e] at h2
    exact ifc (by kernel_rfl) (by kernel_rfl) Tryd.underlying71 h2
set_option maxRecDepth 100000 in
theorem lifted (os : Os) (started : os.Started) (H : Type) (enc : TypeId × Value → H) :
    ReturnsInHanded {} Tryd.checked os 5 .any (fun w args => (Rows.fnExactLegReadSpec.pre enc Tryd.prog Tryd.f5 [] false w args ∧ laidMetH Tryd.prog Rows.fnExactLegReadRow.laid w) ∧ sizedMet enc Tryd.prog Tryd.f5 (OpenSpec.ofChange Rows.fnExactLegReadSpec) false w args) (Rows.fnExactLegReadSpec.post enc Tryd.prog Tryd.f5 false true false false) := by
  refine returnsInHanded_of_calls (C := Tryd.checked) own started (by kernel_rfl) (ChangeSpec.witness_shaped (enc := enc) (C := Tryd.checked) (os := os) (X := fun w _ => laidMetH Tryd.prog Rows.fnExactLegReadRow.laid w) false (World.laidAll Tryd.prog os Rows.fnExactLegReadRow.laid) #[.string ByteArray.empty] 8 (World.laidAll_os _ _ _) (World.shaped_of_ZipB (by kernel_rfl) (by kernel_rfl)) (by kernel_rfl) (by kernel_rfl) (by kernel_rfl) (door_met os _)) ?_
  intro w_ tape_ inp_ _ hsh_ _ hok_ hpre_ _
  obtain ⟨_, _, _, fn_, hfn_, _, _, _, _, hval_⟩ := hok_
  obtain rfl : fn_ = Tryd.f5 := Option.some.inj (hfn_.symm.trans Tryd.func5)
  obtain ⟨⟨⟨ds, gs, before, hw_, hc_⟩, hx_⟩, hz_⟩ := hpre_
  have hW_ := DataW.Whole.of_heap (w' := w_.forCall tape_ inp_) (by rfl) hw_
  have hG_ := ground_of (laidMetH.of_heap (by rfl) hx_) hsh_
  have hsz_ := hz_.weights hw_
  suffices hs_ : Calls Tryd.prog 5 inp_.args (w_.forCall tape_ inp_) fun e W' => ∃ v, e = .returned v ∧ Rows.fnExactLegReadSpec.post enc Tryd.prog Tryd.f5 false true false false (w_.forCall tape_ inp_) inp_.args v W' from hs_.mono fun e W' ⟨v, he, hp⟩ => by
    subst he
    exact ChangeSpec.post_blind hp
  revert hG_ hW_ hval_ hsz_
  generalize w_.forCall tape_ inp_ = W
  generalize inp_.args = args
  intro hval0 hW htab hsz0
  have hsz : (DataW.weightsEach Tryd.prog (Tryd.f5.params.toList ++ Rows.fnExactLegReadSpec.plain.varTypes Tryd.prog) (ds ++ gs)).all (· ≤ reachBytes) = true := hsz0
  have hval := hval0
  have hW' := hW
  obtain ⟨p, q, hA0, hV, rfl, hfz, hnd⟩ := hW
  have hA : DataW.TrodAll enc Tryd.prog W 0 (fun _ => true) true Tryd.f5.params.toList args.toList ds p := hA0
  rw [Tryd.params5] at hA hval hsz
  obtain ⟨v0, vs0, d0, ds0, p0, q0, hargs, rfl, rfl, h0, r0⟩ := trodAll_cons hA
  obtain ⟨rfl, rfl, rfl⟩ := trodAll_nil r0
  obtain rfl : args = #[v0] := by cases args; simp_all
  obtain ⟨rfl, rfl⟩ := trodVars_none hV
  obtain ⟨a0, rfl, rfl, rfl, y0⟩ := open_string Tryd.underlying9 (hval 0 9 v0 rfl rfl) h0
  have w0 : a0.size ≤ 140737488351232 := by
    have z := sized_string hsz (j := 0) (t := 9) rfl rfl
    rw [Array.length_toList] at z
    exact z
  clear hA0 hval0 hsz0 hsz
  refine (PFnExactLegRead.laws_FnExactLegRead.walk Pure.FnExactLegRead a0 W w0 htab).mono fun e W' ⟨he, bel⟩ => ?_
  subst he
  exact ⟨_, rfl, _, _, _, [], _, [], hW', trodAll_mk1 (shut_bool Tryd.underlying4 _), (trodAll_cons_mk (shut_string Tryd.underlying9 y0) trodAll_mk0), rfl, bel.frame _, fun h => by cases h⟩
theorem over : Rows.fnExactLegReadRow.holds Tryd.pinned (OpenSpec.ofChange Rows.fnExactLegReadSpec) :=
  OpenClaim.holds_of_wide 5 Tryd.f5 rfl rfl rfl rfl rfl rfl rfl ⟨rfl, rfl, rfl, rfl, rfl⟩ rfl rfl rfl rfl rfl (by kernel_rfl) Tryd.func5 (by kernel_rfl)
    (of_decide_eq_true (by kernel_rfl)) (by unfold Func.isWrapper; first | (rw [if_pos (by decide +kernel)]; kernel_rfl) | (rw [if_neg (by decide +kernel)]; exact ⟨rfl, rfl⟩))
    (fun os started H enc _ => lifted os started H enc)
theorem proved : Rows.FnExactLegReadSaid := over
end Go.Proofs.YtadnhfdodcmlaaaDoor.fnExactLegRead
namespace Go.Proofs.YtadnhfdodcmlaaaDoor
/-- The row, under a short name, for the claim. -/
theorem fnExactLegRead_holds : Rows.FnExactLegReadSaid := fnExactLegRead.proved
/-- THE TIED CARD. -/
theorem fnExactLegRead_card_holds : Rows.FnExactLegReadCardSaid :=
  Claim7.holds_tied_plain_at .later [] [.data, .data, .data, .data, .sentinel, .sentinel, .pinned] true (true, "d9b68c03e074ea90b56543f153ec8ec689ec4c7ebcc57d3afc05297dc84d5788") true
    fnExactLegRead_holds (fun _ h => by cases h) (by kernel_rfl) (fun _ h => by cases h) fnExactLegRead_row_tie rfl ⟨rfl, rfl⟩ (by kernel_rfl) rfl
    (fun f fn hf hfn => by
      obtain rfl : f = 5 := Option.some.inj ((show Tryd.prog.funcNamed "loop.example/g00063/laws.FnExactLegRead" = some 5 by kernel_rfl).symm.trans hf) |>.symm
      obtain rfl : fn = Tryd.f5 := (Option.some.inj (Tryd.func5.symm.trans hfn)).symm
      exact ⟨by kernel_rfl, fun j t ht => by
        rw [Tryd.params5] at ht
        have hm : t ∈ [9] := by simpa using Array.mem_of_getElem? ht
        have hall : ([9].all fun u => !Tryd.prog.wantsStandIn u) = true := by kernel_rfl
        exact (show Tryd.prog.wantsStandIn t = false by simpa using List.all_eq_true.1 hall t hm)⟩)
    (by kernel_rfl)
end Go.Proofs.YtadnhfdodcmlaaaDoor
