/- Walks of the functions named below, by a program of the session over the kit's printer. -/
import Derived.Test.YtdodiflcmjbfdaaProg
import Derived.Below
import Derived.Lib.SliceRun
import Derived.Deep.Draws
import Derived.Deep.AppendLies
import Derived.Maps.AppendAt
import Derived.OwnWalk
import Derived.Laws.BytesArg
import Derived.Laws.MakeOwn
import Derived.Laws.OwnMore
import Derived.Deep.OwnRows
import Derived.Tactics
import Derived.Lib.ConvBytes
import Derived.Laws.Slices
import Derived.WalkKit
import Derived.KernelRfl
import Derived.RowKit3
import Derived.Deep.LoopGhost
import Derived.Deep.QuietTactic
import Derived.BigQuiet
import Derived.WideLaws
import Derived.Deep.DeepCutAuto
import Derived.Deep.CutBlock
import Derived.Deep.RegionHeld3
import Derived.Laws.Rows
import Derived.Lib.AppendStr
import Derived.ArgAppend
import Derived.Laws.IdiomCopy
import Derived.OrdersHeld
import Derived.Laws.BitsLemmas
import Derived.RowKit
import Derived.Test.YtdodiflcmjbfdaaWWords
import Derived.Test.YtdodiflcmjbfdaaWLast
import Derived.Test.YtdodiflcmjbfdaaWTab
import Derived.Test.YtdodiflcmjbfdaaWFour
import Derived.Test.YtdodiflcmjbfdaaWQPut
import Derived.Test.YtdodiflcmjbfdaaWApart
import Derived.Test.YtdodiflcmjbfdaaWArr
import Derived.Test.YtdodiflcmjbfdaaWZeros
import Derived.Test.YtdodiflcmjbfdaaWFoot
import Derived.Test.YtdodiflcmjbfdaaWKept
import Derived.Test.YtdodiflcmjbfdaaWShare
import Derived.Test.YtdodiflcmjbfdaaWN
import Derived.Test.YtdodiflcmjbfdaaWFootNe
import Derived.Test.YtdodiflcmjbfdaaWAt
import Derived.Test.YtdodiflcmjbfdaaWEqStruct
import Derived.Test.YtdodiflcmjbfdaaWRepsOne
import Derived.Test.YtdodiflcmjbfdaaWInv
import Derived.Test.YtdodiflcmjbfdaaWInvWords
import Derived.Test.YtdodiflcmjbfdaaWGuard
import Derived.Test.YtdodiflcmjbfdaaWNEv
import Derived.Test.YtdodiflcmjbfdaaWMore
import Derived.Test.YtdodiflcmjbfdaaTwo
namespace Go.Proofs.Ytdodiflcmjbfdaa.PFnExactPilotTick
open Go.RowKit Go.Proofs.YtdodiflcmjbfdaaW.PrintWords Go.Proofs.YtdodiflcmjbfdaaW.PrintLast Go.Proofs.YtdodiflcmjbfdaaW.PrintMore
attribute [local go_sem] max2_int min2_int max_two min_two max_three min_three max_four min_four   -- for this text's walks alone
set_option linter.unusedVariables false
set_option linter.unusedSimpArgs false



def errW : Option Int → Value
  | none => .nilIface
  | some c => .iface 0 (.int .i64 c)
theorem errW_none : errW none = .nilIface := rfl
theorem errW_some (c : Int) : errW (some c) = .iface 0 (.int .i64 c) := rfl

-- the values' own types

end Go.Proofs.Ytdodiflcmjbfdaa.PFnExactPilotTick
