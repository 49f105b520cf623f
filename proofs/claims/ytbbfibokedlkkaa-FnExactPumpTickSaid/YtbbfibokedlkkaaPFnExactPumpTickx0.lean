/- Walks of the functions named below, by a program of the session over the kit's printer. -/
import Derived.Test.YtbbfibokedlkkaaProg
import Derived.Below
import Derived.Deep.Draws
import Derived.Deep.AppendLies
import Derived.Maps.AppendAt
import Derived.OwnWalk
import Derived.Laws.BytesArg
import Derived.Laws.MakeOwn
import Derived.Laws.OwnMore
import Derived.Deep.OwnRows
import Derived.Tactics
import Derived.Lib.ConvBytes
import Derived.Laws.Slices
import Derived.WalkKit
import Derived.KernelRfl
import Derived.RowKit3
import Derived.Deep.LoopGhost
import Derived.Deep.QuietTactic
import Derived.BigQuiet
import Derived.WideLaws
import Derived.Deep.DeepCutAuto
import Derived.Deep.CutBlock
import Derived.Deep.RegionHeld3
import Derived.Laws.Rows
import Derived.Lib.AppendStr
import Derived.ArgAppend
import Derived.Laws.IdiomCopy
import Derived.OrdersHeld
import Derived.Laws.BitsLemmas
import Derived.RowKit
import Derived.Test.YtbbfibokedlkkaaWWords
import Derived.Test.YtbbfibokedlkkaaWLast
import Derived.Test.YtbbfibokedlkkaaWTab
import Derived.Test.YtbbfibokedlkkaaWFour
import Derived.Test.YtbbfibokedlkkaaWQPut
import Derived.Test.YtbbfibokedlkkaaWApart
import Derived.Test.YtbbfibokedlkkaaWArr
import Derived.Test.YtbbfibokedlkkaaWZeros
import Derived.Test.YtbbfibokedlkkaaWFoot
import Derived.Test.YtbbfibokedlkkaaWKept
import Derived.Test.YtbbfibokedlkkaaWShare
import Derived.Test.YtbbfibokedlkkaaWN
import Derived.Test.YtbbfibokedlkkaaWFootNe
import Derived.Test.YtbbfibokedlkkaaWAt
import Derived.Test.YtbbfibokedlkkaaWEqStruct
import Derived.Test.YtbbfibokedlkkaaWRepsOne
import Derived.Test.YtbbfibokedlkkaaWInv
import Derived.Test.YtbbfibokedlkkaaWInvWords
import Derived.Test.YtbbfibokedlkkaaWGuard
import Derived.Test.YtbbfibokedlkkaaWNEv
import Derived.Test.YtbbfibokedlkkaaWMore
import Derived.Test.YtbbfibokedlkkaaTwo
namespace Go.Proofs.Ytbbfibokedlkkaa.PFnExactPumpTick
open Go.RowKit Go.Proofs.YtbbfibokedlkkaaW.PrintWords Go.Proofs.YtbbfibokedlkkaaW.PrintLast Go.Proofs.YtbbfibokedlkkaaW.PrintMore
attribute [local go_sem] max2_int min2_int max_two min_two max_three min_three max_four min_four   -- for this text's walks alone
set_option linter.unusedVariables false
set_option linter.unusedSimpArgs false



def errW : Option Int → Value
  | none => .nilIface
  | some c => .iface 0 (.int .i64 c)
theorem errW_none : errW none = .nilIface := rfl
theorem errW_some (c : Int) : errW (some c) = .iface 0 (.int .i64 c) := rfl

-- the values' own types

end Go.Proofs.Ytbbfibokedlkkaa.PFnExactPumpTick
