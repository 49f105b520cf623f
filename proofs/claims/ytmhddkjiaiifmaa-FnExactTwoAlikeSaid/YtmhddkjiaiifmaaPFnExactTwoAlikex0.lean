/- Walks of the functions named below, by a program of the session over the kit's printer. -/
import Derived.Test.YtmhddkjiaiifmaaProg
import Derived.Shelf.SortM.Plain
import Derived.Shelf.SortM.SortNone
import Derived.Sort.OwnSortedInts
import Derived.Below
import Derived.Lib.SliceRun
import Derived.Deep.Draws
import Derived.Deep.AppendLies
import Derived.Maps.AppendAt
import Derived.OwnWalk
import Derived.Laws.BytesArg
import Derived.Laws.MakeOwn
import Derived.Laws.OwnMore
import Derived.Deep.OwnRows
import Derived.Tactics
import Derived.Lib.ConvBytes
import Derived.Laws.Slices
import Derived.WalkKit
import Derived.KernelRfl
import Derived.RowKit3
import Derived.Deep.LoopGhost
import Derived.Deep.QuietTactic
import Derived.BigQuiet
import Derived.WideLaws
import Derived.Deep.DeepCutAuto
import Derived.Deep.CutBlock
import Derived.Deep.RegionHeld3
import Derived.Laws.Rows
import Derived.Lib.AppendStr
import Derived.ArgAppend
import Derived.Laws.IdiomCopy
import Derived.OrdersHeld
import Derived.Laws.BitsLemmas
import Derived.RowKit
import Derived.Test.YtmhddkjiaiifmaaWWords
import Derived.Test.YtmhddkjiaiifmaaWLast
import Derived.Test.YtmhddkjiaiifmaaWTab
import Derived.Test.YtmhddkjiaiifmaaWFour
import Derived.Test.YtmhddkjiaiifmaaWQPut
import Derived.Test.YtmhddkjiaiifmaaWApart
import Derived.Test.YtmhddkjiaiifmaaWArr
import Derived.Test.YtmhddkjiaiifmaaWZeros
import Derived.Test.YtmhddkjiaiifmaaWFoot
import Derived.Test.YtmhddkjiaiifmaaWKept
import Derived.Test.YtmhddkjiaiifmaaWShare
import Derived.Test.YtmhddkjiaiifmaaWN
import Derived.Test.YtmhddkjiaiifmaaWFootNe
import Derived.Test.YtmhddkjiaiifmaaWAt
import Derived.Test.YtmhddkjiaiifmaaWEqStruct
import Derived.Test.YtmhddkjiaiifmaaWRepsOne
import Derived.Test.YtmhddkjiaiifmaaWInv
import Derived.Test.YtmhddkjiaiifmaaWInvWords
import Derived.Test.YtmhddkjiaiifmaaWGuard
import Derived.Test.YtmhddkjiaiifmaaWNEv
import Derived.Test.YtmhddkjiaiifmaaWMore
import Derived.Test.YtmhddkjiaiifmaaTwo
namespace Go.Proofs.Ytmhddkjiaiifmaa.PFnExactTwoAlike
open Go.RowKit Go.Proofs.YtmhddkjiaiifmaaW.PrintWords Go.Proofs.YtmhddkjiaiifmaaW.PrintLast Go.Proofs.YtmhddkjiaiifmaaW.PrintMore
attribute [local go_sem] max2_int min2_int max_two min_two max_three min_three max_four min_four   -- for this text's walks alone
set_option linter.unusedVariables false
set_option linter.unusedSimpArgs false



def errW : Option Int → Value
  | none => .nilIface
  | some c => .iface 0 (.int .i64 c)
theorem errW_none : errW none = .nilIface := rfl
theorem errW_some (c : Int) : errW (some c) = .iface 0 (.int .i64 c) := rfl

theorem info3 : (Try.prog.info? 3).map (fun i => (i.zero, i.size, i.bytes)) = some (some (.int .i64 0), 1, 8) := by kernel_rfl
theorem info4 : (Try.prog.info? 4).map (fun i => (i.zero, i.size, i.bytes)) = some (some (.bool false), 1, 1) := by kernel_rfl
-- the values' own types

end Go.Proofs.Ytmhddkjiaiifmaa.PFnExactTwoAlike
