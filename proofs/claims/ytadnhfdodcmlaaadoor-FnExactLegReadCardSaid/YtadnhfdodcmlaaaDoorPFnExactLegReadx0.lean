/- Walks of the functions named below, by a program of the session over the kit's printer. -/
import Derived.Test.YtadnhfdodcmlaaaDoorProg
import Derived.Shelf.Strconv.Itoa3
import Derived.Lib.AppendIntMem
import Derived.Lib.LaidTab
import Derived.Shelf.Strings.SplitShaped
import Derived.Shelf.Strconv.AtoiAll
import Derived.Lib.SplitLaws
import Derived.Below
import Derived.Lib.SliceRun
import Derived.Deep.Draws
import Derived.Deep.AppendLies
import Derived.Maps.AppendAt
import Derived.OwnWalk
import Derived.Laws.BytesArg
import Derived.Laws.MakeOwn
import Derived.Laws.OwnMore
import Derived.Deep.OwnRows
import Derived.Tactics
import Derived.Lib.ConvBytes
import Derived.Laws.Slices
import Derived.WalkKit
import Derived.KernelRfl
import Derived.RowKit3
import Derived.Deep.LoopGhost
import Derived.Deep.QuietTactic
import Derived.BigQuiet
import Derived.WideLaws
import Derived.Deep.DeepCutAuto
import Derived.Deep.CutBlock
import Derived.Deep.RegionHeld3
import Derived.Laws.Rows
import Derived.Lib.AppendStr
import Derived.ArgAppend
import Derived.Laws.IdiomCopy
import Derived.OrdersHeld
import Derived.Laws.BitsLemmas
import Derived.RowKit
import Derived.Test.YtadnhfdodcmlaaaDoorWWords
import Derived.Test.YtadnhfdodcmlaaaDoorWLast
import Derived.Test.YtadnhfdodcmlaaaDoorWTab
import Derived.Test.YtadnhfdodcmlaaaDoorWFour
import Derived.Test.YtadnhfdodcmlaaaDoorWQPut
import Derived.Test.YtadnhfdodcmlaaaDoorWApart
import Derived.Test.YtadnhfdodcmlaaaDoorWArr
import Derived.Test.YtadnhfdodcmlaaaDoorWZeros
import Derived.Test.YtadnhfdodcmlaaaDoorWFoot
import Derived.Test.YtadnhfdodcmlaaaDoorWKept
import Derived.Test.YtadnhfdodcmlaaaDoorWShare
import Derived.Test.YtadnhfdodcmlaaaDoorWN
import Derived.Test.YtadnhfdodcmlaaaDoorWFootNe
import Derived.Test.YtadnhfdodcmlaaaDoorWAt
import Derived.Test.YtadnhfdodcmlaaaDoorWEqStruct
import Derived.Test.YtadnhfdodcmlaaaDoorWRepsOne
import Derived.Test.YtadnhfdodcmlaaaDoorWInv
import Derived.Test.YtadnhfdodcmlaaaDoorWInvWords
import Derived.Test.YtadnhfdodcmlaaaDoorWGuard
import Derived.Test.YtadnhfdodcmlaaaDoorWNEv
import Derived.Test.YtadnhfdodcmlaaaDoorWMore
import Derived.Test.YtadnhfdodcmlaaaDoorTwo
namespace Go.Proofs.YtadnhfdodcmlaaaDoor.PFnExactLegRead
open Go.RowKit Go.Proofs.YtadnhfdodcmlaaaDoorW.PrintWords Go.Proofs.YtadnhfdodcmlaaaDoorW.PrintLast Go.Proofs.YtadnhfdodcmlaaaDoorW.PrintMore
attribute [local go_sem] max2_int min2_int max_two min_two max_three min_three max_four min_four   -- for this text's walks alone
set_option linter.unusedVariables false
set_option linter.unusedSimpArgs false



def errW : Option Int → Value
  | none => .nilIface
  | some c => .iface 0 (.int .i64 c)
theorem errW_none : errW none = .nilIface := rfl
theorem errW_some (c : Int) : errW (some c) = .iface 0 (.int .i64 c) := rfl

theorem info5 : (Tryd.prog.info? 5).map (fun i => (i.zero, i.size, i.bytes)) = some (some (.int .u8 0), 1, 1) := by kernel_rfl
theorem info9 : (Tryd.prog.info? 9).map (fun i => (i.zero, i.size, i.bytes)) = some (some (.string ⟨#[]⟩), 1, 16) := by kernel_rfl
-- the values' own types

/-- What the row's condition and the world's shape say of the library's own variables: the table of the powers of ten, internal/bytealg.MaxLen, strconv.ErrSyntax, strconv.ErrRange. -/
def Ground (w : World) : Prop :=
  Lib.TabIs Tryd.prog w "internal/strconv.uint64pow10" .u64 Lib.pow10Tab ∧ (∃ m, w.cell? ⟨2, 0, none⟩ = some (.int .i64 m)) ∧
    (∃ t p, w.cell? ⟨0, 0, none⟩ = some (.iface t p)) ∧ (∃ t p, w.cell? ⟨1, 0, none⟩ = some (.iface t p))
theorem Ground.on {w w' : World} (h : Ground w) (hb : Below w.heap.size w w') : Ground w' := by
  obtain ⟨h1, ⟨m, h2⟩, ⟨t, p, h3⟩, ⟨t', p', h4⟩⟩ := h
  exact ⟨Lib.tabBelow_of_tabIs h1 w' hb, ⟨m, (hb.cell (World.block_lt_of_cell? w _ h2)).trans h2⟩, ⟨t, p, (hb.cell (World.block_lt_of_cell? w _ h3)).trans h3⟩, ⟨t', p', (hb.cell (World.block_lt_of_cell? w _ h4)).trans h4⟩⟩
theorem Ground.tab {w : World} (h : Ground w) : Lib.TabIs Tryd.prog w "internal/strconv.uint64pow10" .u64 Lib.pow10Tab := h.1

/-- More is held from here on: what holds now, and what each step keeps. -/
theorem widen_ {P : Program} {ops : Array Oper} {Q : Exit → Act → World → Prop} {md : Region.Mode} {S S' : World → Prop} (hSS : ∀ w, S' w → S w) :
    ∀ {fuel : Nat} {l : Array Bool} {a : Act} {w : World}, S' w → (S' w → wpAnyLast P md ops Q S' [] fuel l a w) → wpAnyLast P md ops Q S [] fuel l a w
  | 0, _, _, _, h, k => k h
  | fuel + 1, l, a, w, h, k => ⟨(k h).1, fun i hi => wpOp_mono (fun a' w' h3 => ⟨fun hn _ => hSS w' (h3.1 hn h), by
      have h4 : S' w' := h3.1 (by simp) h
      exact widen_ hSS h4 (fun _ => h3.2)⟩) ((k h).2 i hi)⟩

end Go.Proofs.YtadnhfdodcmlaaaDoor.PFnExactLegRead
