/- Walks of the functions named below, by a program of the session over the kit's printer. -/
import Derived.Test.YtfjpmakmgcngiaaProg
import Derived.Below
import Derived.Deep.Draws
import Derived.Deep.AppendLies
import Derived.Maps.AppendAt
import Derived.OwnWalk
import Derived.Laws.BytesArg
import Derived.Laws.MakeOwn
import Derived.Laws.OwnMore
import Derived.Deep.OwnRows
import Derived.Tactics
import Derived.Lib.ConvBytes
import Derived.Laws.Slices
import Derived.WalkKit
import Derived.KernelRfl
import Derived.RowKit3
import Derived.Deep.LoopGhost
import Derived.Deep.QuietTactic
import Derived.BigQuiet
import Derived.WideLaws
import Derived.Deep.DeepCutAuto
import Derived.Deep.CutBlock
import Derived.Deep.RegionHeld3
import Derived.Laws.Rows
import Derived.Lib.AppendStr
import Derived.ArgAppend
import Derived.Laws.IdiomCopy
import Derived.OrdersHeld
import Derived.Laws.BitsLemmas
import Derived.RowKit
import Derived.Test.YtfjpmakmgcngiaaWWords
import Derived.Test.YtfjpmakmgcngiaaWLast
import Derived.Test.YtfjpmakmgcngiaaWTab
import Derived.Test.YtfjpmakmgcngiaaWFour
import Derived.Test.YtfjpmakmgcngiaaWQPut
import Derived.Test.YtfjpmakmgcngiaaWApart
import Derived.Test.YtfjpmakmgcngiaaWArr
import Derived.Test.YtfjpmakmgcngiaaWZeros
import Derived.Test.YtfjpmakmgcngiaaWFoot
import Derived.Test.YtfjpmakmgcngiaaWKept
import Derived.Test.YtfjpmakmgcngiaaWShare
import Derived.Test.YtfjpmakmgcngiaaWN
import Derived.Test.YtfjpmakmgcngiaaWFootNe
import Derived.Test.YtfjpmakmgcngiaaWAt
import Derived.Test.YtfjpmakmgcngiaaWEqStruct
import Derived.Test.YtfjpmakmgcngiaaWRepsOne
import Derived.Test.YtfjpmakmgcngiaaWInv
import Derived.Test.YtfjpmakmgcngiaaWInvWords
import Derived.Test.YtfjpmakmgcngiaaWGuard
import Derived.Test.YtfjpmakmgcngiaaWNEv
import Derived.Test.YtfjpmakmgcngiaaWMore
import Derived.Test.YtfjpmakmgcngiaaTwo
namespace Go.Proofs.Ytfjpmakmgcngiaa.PFnExactBlend
open Go.RowKit Go.Proofs.YtfjpmakmgcngiaaW.PrintWords Go.Proofs.YtfjpmakmgcngiaaW.PrintLast Go.Proofs.YtfjpmakmgcngiaaW.PrintMore
attribute [local go_sem] max2_int min2_int max_two min_two max_three min_three max_four min_four   -- for this text's walks alone
set_option linter.unusedVariables false
set_option linter.unusedSimpArgs false



def errW : Option Int → Value
  | none => .nilIface
  | some c => .iface 0 (.int .i64 c)
theorem errW_none : errW none = .nilIface := rfl
theorem errW_some (c : Int) : errW (some c) = .iface 0 (.int .i64 c) := rfl

theorem info3 : (Try.prog.info? 3).map (fun i => (i.zero, i.size, i.bytes)) = some (some (.int .i64 0), 1, 8) := by kernel_rfl
-- the values' own types

end Go.Proofs.Ytfjpmakmgcngiaa.PFnExactBlend
