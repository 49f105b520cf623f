/-
  No cell of these rows narrows 'for every input' (looked for: loops, veiled, ifaces, maps, wideKeys, modest, calm, conditions, laid).
  DERIVED. THE GIVEN ROWS OF THIS SEAT. 3 by the template 'for every input the law returns true; each argument reads behind the call as it read before'; 0 by the template 'total and deterministic' (their statements: YtagfchjddknboaaTotals.lean).
  GIVEN WITH THE SEED: the statements are not yours to turn. If you find one false, say at which input.
  Laid BY PROGRAM, IN A SANDBOX (cutbox-rows.mjs): the forced cells as the released guide's own fill.sh prints them over the translation 5410f1dd0a1c95fd… (all of the seat's roots in one cut). By AI agents, Wed Nov 11 2026. No macro, syntax, notation, axiom, sorry.
-/
import Derived.Test.YtagfchjddknboaaChecked
import GoSem.Claim
import GoSem.ClaimJoined
import GoSem.ClaimMapViews
import Derived.JoinedTies
import Derived.KernelRfl
namespace Go.Proofs.Ytagfchjddknboaa
/- THE CELL 'sum', in the pinned program and in every row, IS THE sha256 OF THE DUMP (.gsa) THAT YtagfchjddknboaaProg.lean LOADS. Nothing in Lean hashes anything: it is a label: what it is worth is what the hold of that sum in a sandbox is worth. -/
noncomputable def Try.pinned : Pinned := { name := "ytagfchjddknboaa", sum := "5410f1dd0a1c95fd5033a1152bd7a53d874ce36d5d2e7cfc959241dfec49d368", checked := Try.checked }
namespace Rows
def none {H : Type} : Left H := { results := [], args := [] }

/-- 'laws.FnExactOwnOk': WHATEVER THE INPUT: true; the input reads as it did. -/
def fnExactOwnOkSpec : ChangeSpec := { name := "fnExactOwnOk", fn := fun _ => fun
  | [d] => { results := [.lit (.bool true)], args := [d] }
  | _ => none }
def fnExactOwnOkRow : OpenClaim := { program := "ytagfchjddknboaa", sum := "5410f1dd0a1c95fd5033a1152bd7a53d874ce36d5d2e7cfc959241dfec49d368", func := "loop.example/g00063/laws.FnExactOwnOk", spec := "fnExactOwnOk", apart := false }
def FnExactOwnOkSaid : Prop := fnExactOwnOkRow.holds Try.pinned (OpenSpec.ofChange fnExactOwnOkSpec)

/-- ITS FALSE NEIGHBOUR: 'it returns false'. Refute it at one input. -/
def fnExactOwnOkWrong : ChangeSpec := { name := "fnExactOwnOk", fn := fun _ => fun
  | [d] => { results := [.lit (.bool false)], args := [d] }
  | _ => none }
def FnExactOwnOkWrongFalsely : Prop := fnExactOwnOkRow.holds Try.pinned (OpenSpec.ofChange fnExactOwnOkWrong)

/-- 'laws.FnExactTrackOk': WHATEVER THE INPUT: true; the input reads as it did. -/
def fnExactTrackOkSpec : ChangeSpec := { name := "fnExactTrackOk", fn := fun _ => fun
  | [d] => { results := [.lit (.bool true)], args := [d] }
  | _ => none }
def fnExactTrackOkRow : OpenClaim := { program := "ytagfchjddknboaa", sum := "5410f1dd0a1c95fd5033a1152bd7a53d874ce36d5d2e7cfc959241dfec49d368", func := "loop.example/g00063/laws.FnExactTrackOk", spec := "fnExactTrackOk", apart := false }
def FnExactTrackOkSaid : Prop := fnExactTrackOkRow.holds Try.pinned (OpenSpec.ofChange fnExactTrackOkSpec)

/-- ITS FALSE NEIGHBOUR: 'it returns false'. Refute it at one input. -/
def fnExactTrackOkWrong : ChangeSpec := { name := "fnExactTrackOk", fn := fun _ => fun
  | [d] => { results := [.lit (.bool false)], args := [d] }
  | _ => none }
def FnExactTrackOkWrongFalsely : Prop := fnExactTrackOkRow.holds Try.pinned (OpenSpec.ofChange fnExactTrackOkWrong)

/-- 'laws.FnExactTicksTo': WHATEVER THE INPUT: true; the input reads as it did. -/
def fnExactTicksToSpec : ChangeSpec := { name := "fnExactTicksTo", fn := fun _ => fun
  | [d] => { results := [.lit (.bool true)], args := [d] }
  | _ => none }
def fnExactTicksToRow : OpenClaim := { program := "ytagfchjddknboaa", sum := "5410f1dd0a1c95fd5033a1152bd7a53d874ce36d5d2e7cfc959241dfec49d368", func := "loop.example/g00063/laws.FnExactTicksTo", spec := "fnExactTicksTo", apart := false }
def FnExactTicksToSaid : Prop := fnExactTicksToRow.holds Try.pinned (OpenSpec.ofChange fnExactTicksToSpec)

/-- ITS FALSE NEIGHBOUR: 'it returns false'. Refute it at one input. -/
def fnExactTicksToWrong : ChangeSpec := { name := "fnExactTicksTo", fn := fun _ => fun
  | [d] => { results := [.lit (.bool false)], args := [d] }
  | _ => none }
def FnExactTicksToWrongFalsely : Prop := fnExactTicksToRow.holds Try.pinned (OpenSpec.ofChange fnExactTicksToWrong)

/- THE SECOND FORM. 'bulk': how many values and letters a reading holds, each counted each time it is reached (what is shared counts as often as it is met; a slice's spare places count too). A statement '..UptoSaid' is the law's where the arguments, and the package variables that the reading takes, are together of bulk at most 1048576: NARROWER than '..Said'. Prove '..Said' where nothing that the law and all that it calls make is longer than what came in: it says more and counts as full. Else prove '..UptoSaid'. A law counts once. -/
mutual
def uptoBulk {H : Type} : DataW H → Nat
  | .lit (.string bytes) => bytes.length + 1
  | .lit _ => 1
  | .nil => 1
  | .ptr d => uptoBulk d + 1
  | .slice elems spare => uptoBulkAll elems + uptoBulkAll spare + 1
  | .agg parts => uptoBulkAll parts + 1
  | .iface _ d => uptoBulk d + 1
  | .map entries => uptoBulkEntries entries + 1
  | .held _ => 1
def uptoBulkAll {H : Type} : List (DataW H) → Nat
  | [] => 0
  | d :: r => uptoBulk d + uptoBulkAll r
def uptoBulkEntries {H : Type} : List (Lit × DataW H) → Nat
  | [] => 0
  | x :: r => uptoBulkEntry x + uptoBulkEntries r
def uptoBulkEntry {H : Type} : Lit × DataW H → Nat
  | (.string bytes, d) => bytes.length + uptoBulk d + 1
  | (_, d) => uptoBulk d + 1
 end
def uptoSmall : (H : Type) → List (DataW H) → Bool := fun _ ds => decide (uptoBulkAll ds ≤ 1048576)
def OpenSpec.upto (s : _root_.Go.ChangeSpec) : _root_.Go.OpenSpec := { _root_.Go.OpenSpec.ofChange s with cond := some uptoSmall }

/-- 'laws.FnExactOwnOk', WHERE WHAT IT READS IS OF BULK AT MOST 1048576: true; the input reads as it did. -/
def fnExactOwnOkUptoRow : OpenClaim := { program := "ytagfchjddknboaa", sum := "5410f1dd0a1c95fd5033a1152bd7a53d874ce36d5d2e7cfc959241dfec49d368", func := "loop.example/g00063/laws.FnExactOwnOk", spec := "fnExactOwnOk", apart := false, narrowed := true }
def FnExactOwnOkUptoSaid : Prop := fnExactOwnOkUptoRow.holds Try.pinned (OpenSpec.upto fnExactOwnOkSpec)

/-- 'laws.FnExactTrackOk', WHERE WHAT IT READS IS OF BULK AT MOST 1048576: true; the input reads as it did. -/
def fnExactTrackOkUptoRow : OpenClaim := { program := "ytagfchjddknboaa", sum := "5410f1dd0a1c95fd5033a1152bd7a53d874ce36d5d2e7cfc959241dfec49d368", func := "loop.example/g00063/laws.FnExactTrackOk", spec := "fnExactTrackOk", apart := false, narrowed := true }
def FnExactTrackOkUptoSaid : Prop := fnExactTrackOkUptoRow.holds Try.pinned (OpenSpec.upto fnExactTrackOkSpec)

/-- 'laws.FnExactTicksTo', WHERE WHAT IT READS IS OF BULK AT MOST 1048576: true; the input reads as it did. -/
def fnExactTicksToUptoRow : OpenClaim := { program := "ytagfchjddknboaa", sum := "5410f1dd0a1c95fd5033a1152bd7a53d874ce36d5d2e7cfc959241dfec49d368", func := "loop.example/g00063/laws.FnExactTicksTo", spec := "fnExactTicksTo", apart := false, narrowed := true }
def FnExactTicksToUptoSaid : Prop := fnExactTicksToUptoRow.holds Try.pinned (OpenSpec.upto fnExactTicksToSpec)

end Rows
end Go.Proofs.Ytagfchjddknboaa
