/-
  No cell of these rows narrows 'for every input' (looked for: loops, veiled, ifaces, maps, wideKeys, modest, calm, conditions, laid).
  DERIVED. THE GIVEN ROWS OF THIS SEAT. 6 by the template 'for every input the law returns true; each argument reads behind the call as it read before'; 0 by the template 'total and deterministic' (their statements: YtdodiflcmjbfdaaTotals.lean).
  GIVEN WITH THE SEED: the statements are not yours to turn. If you find one false, say at which input.
  Laid BY PROGRAM, IN A SANDBOX (cutbox-rows.mjs): the forced cells as the released guide's own fill.sh prints them over the translation 27fb5d09ec93ce4c… (all of the seat's roots in one cut). By AI agents, Wed Nov 11 2026. No macro, syntax, notation, axiom, sorry.
-/
import Derived.Test.YtdodiflcmjbfdaaChecked
import GoSem.Claim
import GoSem.ClaimJoined
import GoSem.ClaimMapViews
import Derived.JoinedTies
import Derived.KernelRfl
namespace Go.Proofs.Ytdodiflcmjbfdaa
/- THE CELL 'sum', in the pinned program and in every row, IS THE sha256 OF THE DUMP (.gsa) THAT YtdodiflcmjbfdaaProg.lean LOADS. Nothing in Lean hashes anything: it is a label: what it is worth is what the hold of that sum in a sandbox is worth. -/
noncomputable def Try.pinned : Pinned := { name := "ytdodiflcmjbfdaa", sum := "27fb5d09ec93ce4c361f5bdc87b8c3d9d2f03b51b5c81d38c6060e5369c61e40", checked := Try.checked }
namespace Rows
def none {H : Type} : Left H := { results := [], args := [] }

/-- 'laws.FnExactPilotOk': WHATEVER THE INPUT: true; the input reads as it did. -/
def fnExactPilotOkSpec : ChangeSpec := { name := "fnExactPilotOk", fn := fun _ => fun
  | [d] => { results := [.lit (.bool true)], args := [d] }
  | _ => none }
def fnExactPilotOkRow : OpenClaim := { program := "ytdodiflcmjbfdaa", sum := "27fb5d09ec93ce4c361f5bdc87b8c3d9d2f03b51b5c81d38c6060e5369c61e40", func := "loop.example/g00063/laws.FnExactPilotOk", spec := "fnExactPilotOk", apart := false }
def FnExactPilotOkSaid : Prop := fnExactPilotOkRow.holds Try.pinned (OpenSpec.ofChange fnExactPilotOkSpec)

/-- ITS FALSE NEIGHBOUR: 'it returns false'. Refute it at one input. -/
def fnExactPilotOkWrong : ChangeSpec := { name := "fnExactPilotOk", fn := fun _ => fun
  | [d] => { results := [.lit (.bool false)], args := [d] }
  | _ => none }
def FnExactPilotOkWrongFalsely : Prop := fnExactPilotOkRow.holds Try.pinned (OpenSpec.ofChange fnExactPilotOkWrong)

/-- 'laws.FnCaptured': WHATEVER THE INPUT: true; the input reads as it did. -/
def fnCapturedSpec : ChangeSpec := { name := "fnCaptured", fn := fun _ => fun
  | [d] => { results := [.lit (.bool true)], args := [d] }
  | _ => none }
def fnCapturedRow : OpenClaim := { program := "ytdodiflcmjbfdaa", sum := "27fb5d09ec93ce4c361f5bdc87b8c3d9d2f03b51b5c81d38c6060e5369c61e40", func := "loop.example/g00063/laws.FnCaptured", spec := "fnCaptured", apart := false }
def FnCapturedSaid : Prop := fnCapturedRow.holds Try.pinned (OpenSpec.ofChange fnCapturedSpec)

/-- ITS FALSE NEIGHBOUR: 'it returns false'. Refute it at one input. -/
def fnCapturedWrong : ChangeSpec := { name := "fnCaptured", fn := fun _ => fun
  | [d] => { results := [.lit (.bool false)], args := [d] }
  | _ => none }
def FnCapturedWrongFalsely : Prop := fnCapturedRow.holds Try.pinned (OpenSpec.ofChange fnCapturedWrong)

/-- 'laws.FnExactChanges': WHATEVER THE INPUT: true; the input reads as it did. -/
def fnExactChangesSpec : ChangeSpec := { name := "fnExactChanges", fn := fun _ => fun
  | [d] => { results := [.lit (.bool true)], args := [d] }
  | _ => none }
def fnExactChangesRow : OpenClaim := { program := "ytdodiflcmjbfdaa", sum := "27fb5d09ec93ce4c361f5bdc87b8c3d9d2f03b51b5c81d38c6060e5369c61e40", func := "loop.example/g00063/laws.FnExactChanges", spec := "fnExactChanges", apart := false }
def FnExactChangesSaid : Prop := fnExactChangesRow.holds Try.pinned (OpenSpec.ofChange fnExactChangesSpec)

/-- ITS FALSE NEIGHBOUR: 'it returns false'. Refute it at one input. -/
def fnExactChangesWrong : ChangeSpec := { name := "fnExactChanges", fn := fun _ => fun
  | [d] => { results := [.lit (.bool false)], args := [d] }
  | _ => none }
def FnExactChangesWrongFalsely : Prop := fnExactChangesRow.holds Try.pinned (OpenSpec.ofChange fnExactChangesWrong)

/-- 'laws.FnTurned': WHATEVER THE INPUT: true; the input reads as it did. -/
def fnTurnedSpec : ChangeSpec := { name := "fnTurned", fn := fun _ => fun
  | [d] => { results := [.lit (.bool true)], args := [d] }
  | _ => none }
def fnTurnedRow : OpenClaim := { program := "ytdodiflcmjbfdaa", sum := "27fb5d09ec93ce4c361f5bdc87b8c3d9d2f03b51b5c81d38c6060e5369c61e40", func := "loop.example/g00063/laws.FnTurned", spec := "fnTurned", apart := false }
def FnTurnedSaid : Prop := fnTurnedRow.holds Try.pinned (OpenSpec.ofChange fnTurnedSpec)

/-- ITS FALSE NEIGHBOUR: 'it returns false'. Refute it at one input. -/
def fnTurnedWrong : ChangeSpec := { name := "fnTurned", fn := fun _ => fun
  | [d] => { results := [.lit (.bool false)], args := [d] }
  | _ => none }
def FnTurnedWrongFalsely : Prop := fnTurnedRow.holds Try.pinned (OpenSpec.ofChange fnTurnedWrong)

/-- 'laws.FnExactPilotTick': WHATEVER THE INPUT: true; the input reads as it did. -/
def fnExactPilotTickSpec : ChangeSpec := { name := "fnExactPilotTick", fn := fun _ => fun
  | [d1, d2] => { results := [.lit (.bool true)], args := [d1, d2] }
  | _ => none }
def fnExactPilotTickRow : OpenClaim := { program := "ytdodiflcmjbfdaa", sum := "27fb5d09ec93ce4c361f5bdc87b8c3d9d2f03b51b5c81d38c6060e5369c61e40", func := "loop.example/g00063/laws.FnExactPilotTick", spec := "fnExactPilotTick", apart := false }
def FnExactPilotTickSaid : Prop := fnExactPilotTickRow.holds Try.pinned (OpenSpec.ofChange fnExactPilotTickSpec)

/-- ITS FALSE NEIGHBOUR: 'it returns false'. Refute it at one input. -/
def fnExactPilotTickWrong : ChangeSpec := { name := "fnExactPilotTick", fn := fun _ => fun
  | [d1, d2] => { results := [.lit (.bool false)], args := [d1, d2] }
  | _ => none }
def FnExactPilotTickWrongFalsely : Prop := fnExactPilotTickRow.holds Try.pinned (OpenSpec.ofChange fnExactPilotTickWrong)

/-- 'laws.FnExactTicks': WHATEVER THE INPUT: true; the input reads as it did. -/
def fnExactTicksSpec : ChangeSpec := { name := "fnExactTicks", fn := fun _ => fun
  | [d1, d2] => { results := [.lit (.bool true)], args := [d1, d2] }
  | _ => none }
def fnExactTicksRow : OpenClaim := { program := "ytdodiflcmjbfdaa", sum := "27fb5d09ec93ce4c361f5bdc87b8c3d9d2f03b51b5c81d38c6060e5369c61e40", func := "loop.example/g00063/laws.FnExactTicks", spec := "fnExactTicks", apart := false }
def FnExactTicksSaid : Prop := fnExactTicksRow.holds Try.pinned (OpenSpec.ofChange fnExactTicksSpec)

/-- ITS FALSE NEIGHBOUR: 'it returns false'. Refute it at one input. -/
def fnExactTicksWrong : ChangeSpec := { name := "fnExactTicks", fn := fun _ => fun
  | [d1, d2] => { results := [.lit (.bool false)], args := [d1, d2] }
  | _ => none }
def FnExactTicksWrongFalsely : Prop := fnExactTicksRow.holds Try.pinned (OpenSpec.ofChange fnExactTicksWrong)

/- THE SECOND FORM. 'bulk': how many values and letters a reading holds, each counted each time it is reached (what is shared counts as often as it is met; a slice's spare places count too). A statement '..UptoSaid' is the law's where the arguments, and the package variables that the reading takes, are together of bulk at most 1048576: NARROWER than '..Said'. Prove '..Said' where nothing that the law and all that it calls make is longer than what came in: it says more and counts as full. Else prove '..UptoSaid'. A law counts once. -/
mutual
def uptoBulk {H : Type} : DataW H → Nat
  | .lit (.string bytes) => bytes.length + 1
  | .lit _ => 1
  | .nil => 1
  | .ptr d => uptoBulk d + 1
  | .slice elems spare => uptoBulkAll elems + uptoBulkAll spare + 1
  | .agg parts => uptoBulkAll parts + 1
  | .iface _ d => uptoBulk d + 1
  | .map entries => uptoBulkEntries entries + 1
  | .held _ => 1
def uptoBulkAll {H : Type} : List (DataW H) → Nat
  | [] => 0
  | d :: r => uptoBulk d + uptoBulkAll r
def uptoBulkEntries {H : Type} : List (Lit × DataW H) → Nat
  | [] => 0
  | x :: r => uptoBulkEntry x + uptoBulkEntries r
def uptoBulkEntry {H : Type} : Lit × DataW H → Nat
  | (.string bytes, d) => bytes.length + uptoBulk d + 1
  | (_, d) => uptoBulk d + 1
 end
def uptoSmall : (H : Type) → List (DataW H) → Bool := fun _ ds => decide (uptoBulkAll ds ≤ 1048576)
def OpenSpec.upto (s : _root_.Go.ChangeSpec) : _root_.Go.OpenSpec := { _root_.Go.OpenSpec.ofChange s with cond := some uptoSmall }

/-- 'laws.FnExactPilotOk', WHERE WHAT IT READS IS OF BULK AT MOST 1048576: true; the input reads as it did. -/
def fnExactPilotOkUptoRow : OpenClaim := { program := "ytdodiflcmjbfdaa", sum := "27fb5d09ec93ce4c361f5bdc87b8c3d9d2f03b51b5c81d38c6060e5369c61e40", func := "loop.example/g00063/laws.FnExactPilotOk", spec := "fnExactPilotOk", apart := false, narrowed := true }
def FnExactPilotOkUptoSaid : Prop := fnExactPilotOkUptoRow.holds Try.pinned (OpenSpec.upto fnExactPilotOkSpec)

/-- 'laws.FnCaptured', WHERE WHAT IT READS IS OF BULK AT MOST 1048576: true; the input reads as it did. -/
def fnCapturedUptoRow : OpenClaim := { program := "ytdodiflcmjbfdaa", sum := "27fb5d09ec93ce4c361f5bdc87b8c3d9d2f03b51b5c81d38c6060e5369c61e40", func := "loop.example/g00063/laws.FnCaptured", spec := "fnCaptured", apart := false, narrowed := true }
def FnCapturedUptoSaid : Prop := fnCapturedUptoRow.holds Try.pinned (OpenSpec.upto fnCapturedSpec)

/-- 'laws.FnExactChanges', WHERE WHAT IT READS IS OF BULK AT MOST 1048576: true; the input reads as it did. -/
def fnExactChangesUptoRow : OpenClaim := { program := "ytdodiflcmjbfdaa", sum := "27fb5d09ec93ce4c361f5bdc87b8c3d9d2f03b51b5c81d38c6060e5369c61e40", func := "loop.example/g00063/laws.FnExactChanges", spec := "fnExactChanges", apart := false, narrowed := true }
def FnExactChangesUptoSaid : Prop := fnExactChangesUptoRow.holds Try.pinned (OpenSpec.upto fnExactChangesSpec)

/-- 'laws.FnTurned', WHERE WHAT IT READS IS OF BULK AT MOST 1048576: true; the input reads as it did. -/
def fnTurnedUptoRow : OpenClaim := { program := "ytdodiflcmjbfdaa", sum := "27fb5d09ec93ce4c361f5bdc87b8c3d9d2f03b51b5c81d38c6060e5369c61e40", func := "loop.example/g00063/laws.FnTurned", spec := "fnTurned", apart := false, narrowed := true }
def FnTurnedUptoSaid : Prop := fnTurnedUptoRow.holds Try.pinned (OpenSpec.upto fnTurnedSpec)

/-- 'laws.FnExactPilotTick', WHERE WHAT IT READS IS OF BULK AT MOST 1048576: true; the input reads as it did. -/
def fnExactPilotTickUptoRow : OpenClaim := { program := "ytdodiflcmjbfdaa", sum := "27fb5d09ec93ce4c361f5bdc87b8c3d9d2f03b51b5c81d38c6060e5369c61e40", func := "loop.example/g00063/laws.FnExactPilotTick", spec := "fnExactPilotTick", apart := false, narrowed := true }
def FnExactPilotTickUptoSaid : Prop := fnExactPilotTickUptoRow.holds Try.pinned (OpenSpec.upto fnExactPilotTickSpec)

/-- 'laws.FnExactTicks', WHERE WHAT IT READS IS OF BULK AT MOST 1048576: true; the input reads as it did. -/
def fnExactTicksUptoRow : OpenClaim := { program := "ytdodiflcmjbfdaa", sum := "27fb5d09ec93ce4c361f5bdc87b8c3d9d2f03b51b5c81d38c6060e5369c61e40", func := "loop.example/g00063/laws.FnExactTicks", spec := "fnExactTicks", apart := false, narrowed := true }
def FnExactTicksUptoSaid : Prop := fnExactTicksUptoRow.holds Try.pinned (OpenSpec.upto fnExactTicksSpec)

end Rows
end Go.Proofs.Ytdodiflcmjbfdaa
