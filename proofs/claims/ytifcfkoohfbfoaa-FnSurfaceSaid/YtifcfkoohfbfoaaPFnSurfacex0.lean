/- Walks of the functions named below, by a program of the session over the kit's printer. -/
import Derived.Test.YtifcfkoohfbfoaaProg
import Derived.Below
import Derived.Lib.SliceRun
import Derived.Deep.Draws
import Derived.Deep.AppendLies
import Derived.Maps.AppendAt
import Derived.OwnWalk
import Derived.Laws.BytesArg
import Derived.Laws.MakeOwn
import Derived.Laws.OwnMore
import Derived.Deep.OwnRows
import Derived.Tactics
import Derived.Lib.ConvBytes
import Derived.Laws.Slices
import Derived.WalkKit
import Derived.KernelRfl
import Derived.RowKit3
import Derived.Deep.LoopGhost
import Derived.Deep.QuietTactic
import Derived.BigQuiet
import Derived.WideLaws
import Derived.Deep.DeepCutAuto
import Derived.Deep.CutBlock
import Derived.Deep.RegionHeld3
import Derived.Laws.Rows
import Derived.Lib.AppendStr
import Derived.ArgAppend
import Derived.Laws.IdiomCopy
import Derived.OrdersHeld
import Derived.Laws.BitsLemmas
import Derived.RowKit
import Derived.Test.YtifcfkoohfbfoaaWWords
import Derived.Test.YtifcfkoohfbfoaaWLast
import Derived.Test.YtifcfkoohfbfoaaWTab
import Derived.Test.YtifcfkoohfbfoaaWFour
import Derived.Test.YtifcfkoohfbfoaaWQPut
import Derived.Test.YtifcfkoohfbfoaaWApart
import Derived.Test.YtifcfkoohfbfoaaWArr
import Derived.Test.YtifcfkoohfbfoaaWZeros
import Derived.Test.YtifcfkoohfbfoaaWFoot
import Derived.Test.YtifcfkoohfbfoaaWKept
import Derived.Test.YtifcfkoohfbfoaaWShare
import Derived.Test.YtifcfkoohfbfoaaWN
import Derived.Test.YtifcfkoohfbfoaaWFootNe
import Derived.Test.YtifcfkoohfbfoaaWAt
import Derived.Test.YtifcfkoohfbfoaaWEqStruct
import Derived.Test.YtifcfkoohfbfoaaWRepsOne
import Derived.Test.YtifcfkoohfbfoaaWInv
import Derived.Test.YtifcfkoohfbfoaaWInvWords
import Derived.Test.YtifcfkoohfbfoaaWGuard
import Derived.Test.YtifcfkoohfbfoaaWNEv
import Derived.Test.YtifcfkoohfbfoaaWMore
import Derived.Test.YtifcfkoohfbfoaaTwo
namespace Go.Proofs.Ytifcfkoohfbfoaa.PFnSurface
open Go.RowKit Go.Proofs.YtifcfkoohfbfoaaW.PrintWords Go.Proofs.YtifcfkoohfbfoaaW.PrintLast Go.Proofs.YtifcfkoohfbfoaaW.PrintMore
attribute [local go_sem] max2_int min2_int max_two min_two max_three min_three max_four min_four   -- for this text's walks alone
set_option linter.unusedVariables false
set_option linter.unusedSimpArgs false



def errW : Option Int → Value
  | none => .nilIface
  | some c => .iface 0 (.int .i64 c)
theorem errW_none : errW none = .nilIface := rfl
theorem errW_some (c : Int) : errW (some c) = .iface 0 (.int .i64 c) := rfl

theorem info3 : (Try.prog.info? 3).map (fun i => (i.zero, i.size, i.bytes)) = some (some (.int .i64 0), 1, 8) := by kernel_rfl
-- the values' own types

end Go.Proofs.Ytifcfkoohfbfoaa.PFnSurface
