/- Walks of the functions named below, by a program of the session over the kit's printer. -/
import Derived.Test.YtadnhfdodcmlaaaProg
import Derived.Below
import Derived.Lib.SliceRun
import Derived.Deep.Draws
import Derived.Deep.AppendLies
import Derived.Maps.AppendAt
import Derived.OwnWalk
import Derived.Laws.BytesArg
import Derived.Laws.MakeOwn
import Derived.Laws.OwnMore
import Derived.Deep.OwnRows
import Derived.Tactics
import Derived.Lib.ConvBytes
import Derived.Laws.Slices
import Derived.WalkKit
import Derived.KernelRfl
import Derived.RowKit3
import Derived.Deep.LoopGhost
import Derived.Deep.QuietTactic
import Derived.BigQuiet
import Derived.WideLaws
import Derived.Deep.DeepCutAuto
import Derived.Deep.CutBlock
import Derived.Deep.RegionHeld3
import Derived.Laws.Rows
import Derived.Lib.AppendStr
import Derived.ArgAppend
import Derived.Laws.IdiomCopy
import Derived.OrdersHeld
import Derived.Laws.BitsLemmas
import Derived.RowKit
import Derived.Test.YtadnhfdodcmlaaaWWords
import Derived.Test.YtadnhfdodcmlaaaWLast
import Derived.Test.YtadnhfdodcmlaaaWTab
import Derived.Test.YtadnhfdodcmlaaaWFour
import Derived.Test.YtadnhfdodcmlaaaWQPut
import Derived.Test.YtadnhfdodcmlaaaWApart
import Derived.Test.YtadnhfdodcmlaaaWArr
import Derived.Test.YtadnhfdodcmlaaaWZeros
import Derived.Test.YtadnhfdodcmlaaaWFoot
import Derived.Test.YtadnhfdodcmlaaaWKept
import Derived.Test.YtadnhfdodcmlaaaWShare
import Derived.Test.YtadnhfdodcmlaaaWN
import Derived.Test.YtadnhfdodcmlaaaWFootNe
import Derived.Test.YtadnhfdodcmlaaaWAt
import Derived.Test.YtadnhfdodcmlaaaWEqStruct
import Derived.Test.YtadnhfdodcmlaaaWRepsOne
import Derived.Test.YtadnhfdodcmlaaaWInv
import Derived.Test.YtadnhfdodcmlaaaWInvWords
import Derived.Test.YtadnhfdodcmlaaaWGuard
import Derived.Test.YtadnhfdodcmlaaaWNEv
import Derived.Test.YtadnhfdodcmlaaaWMore
import Derived.Test.YtadnhfdodcmlaaaTwo
namespace Go.Proofs.Ytadnhfdodcmlaaa.PFnExactFlyLeg
open Go.RowKit Go.Proofs.YtadnhfdodcmlaaaW.PrintWords Go.Proofs.YtadnhfdodcmlaaaW.PrintLast Go.Proofs.YtadnhfdodcmlaaaW.PrintMore
attribute [local go_sem] max2_int min2_int max_two min_two max_three min_three max_four min_four   -- for this text's walks alone
set_option linter.unusedVariables false
set_option linter.unusedSimpArgs false



def errW : Option Int → Value
  | none => .nilIface
  | some c => .iface 0 (.int .i64 c)
theorem errW_none : errW none = .nilIface := rfl
theorem errW_some (c : Int) : errW (some c) = .iface 0 (.int .i64 c) := rfl

theorem info3 : (Try.prog.info? 3).map (fun i => (i.zero, i.size, i.bytes)) = some (some (.int .i64 0), 1, 8) := by kernel_rfl
-- the values' own types

end Go.Proofs.Ytadnhfdodcmlaaa.PFnExactFlyLeg
