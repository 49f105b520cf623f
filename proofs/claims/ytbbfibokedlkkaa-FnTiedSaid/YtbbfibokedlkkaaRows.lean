/-
  No cell of these rows narrows 'for every input' (looked for: loops, veiled, ifaces, maps, wideKeys, modest, calm, conditions, laid).
  DERIVED. THE GIVEN ROWS OF THIS SEAT. 7 by the template 'for every input the law returns true; each argument reads behind the call as it read before'; 0 by the template 'total and deterministic' (their statements: YtbbfibokedlkkaaTotals.lean).
  GIVEN WITH THE SEED: the statements are not yours to turn. If you find one false, say at which input.
  Laid BY PROGRAM, IN A SANDBOX (cutbox-rows.mjs): the forced cells as the released guide's own fill.sh prints them over the translation fa09667d1717990b… (all of the seat's roots in one cut). By AI agents, Wed Nov 11 2026. No macro, syntax, notation, axiom, sorry.
-/
import Derived.Test.YtbbfibokedlkkaaChecked
import GoSem.Claim
import GoSem.ClaimJoined
import GoSem.ClaimMapViews
import Derived.JoinedTies
import Derived.KernelRfl
namespace Go.Proofs.Ytbbfibokedlkkaa
/- THE CELL 'sum', in the pinned program and in every row, IS THE sha256 OF THE DUMP (.gsa) THAT YtbbfibokedlkkaaProg.lean LOADS. Nothing in Lean hashes anything: it is a label: what it is worth is what the hold of that sum in a sandbox is worth. -/
noncomputable def Try.pinned : Pinned := { name := "ytbbfibokedlkkaa", sum := "fa09667d1717990b5b5b3c4382d09e0e0a8e1cddc2b7d696b1fb54ad5f3a017f", checked := Try.checked }
namespace Rows
def none {H : Type} : Left H := { results := [], args := [] }

/-- 'laws.FnExactPumpTick': WHATEVER THE INPUT: true; the input reads as it did. -/
def fnExactPumpTickSpec : ChangeSpec := { name := "fnExactPumpTick", fn := fun _ => fun
  | [d1, d2, d3] => { results := [.lit (.bool true)], args := [d1, d2, d3] }
  | _ => none }
def fnExactPumpTickRow : OpenClaim := { program := "ytbbfibokedlkkaa", sum := "fa09667d1717990b5b5b3c4382d09e0e0a8e1cddc2b7d696b1fb54ad5f3a017f", func := "loop.example/g00063/laws.FnExactPumpTick", spec := "fnExactPumpTick", apart := false }
def FnExactPumpTickSaid : Prop := fnExactPumpTickRow.holds Try.pinned (OpenSpec.ofChange fnExactPumpTickSpec)

/-- ITS FALSE NEIGHBOUR: 'it returns false'. Refute it at one input. -/
def fnExactPumpTickWrong : ChangeSpec := { name := "fnExactPumpTick", fn := fun _ => fun
  | [d1, d2, d3] => { results := [.lit (.bool false)], args := [d1, d2, d3] }
  | _ => none }
def FnExactPumpTickWrongFalsely : Prop := fnExactPumpTickRow.holds Try.pinned (OpenSpec.ofChange fnExactPumpTickWrong)

/-- 'laws.FnExactNetOk': WHATEVER THE INPUT: true; the input reads as it did. -/
def fnExactNetOkSpec : ChangeSpec := { name := "fnExactNetOk", fn := fun _ => fun
  | [d] => { results := [.lit (.bool true)], args := [d] }
  | _ => none }
def fnExactNetOkRow : OpenClaim := { program := "ytbbfibokedlkkaa", sum := "fa09667d1717990b5b5b3c4382d09e0e0a8e1cddc2b7d696b1fb54ad5f3a017f", func := "loop.example/g00063/laws.FnExactNetOk", spec := "fnExactNetOk", unfollowed := true, recurses := true, apart := false }
def FnExactNetOkSaid : Prop := fnExactNetOkRow.holds Try.pinned (OpenSpec.ofChange fnExactNetOkSpec)

/-- ITS FALSE NEIGHBOUR: 'it returns false'. Refute it at one input. -/
def fnExactNetOkWrong : ChangeSpec := { name := "fnExactNetOk", fn := fun _ => fun
  | [d] => { results := [.lit (.bool false)], args := [d] }
  | _ => none }
def FnExactNetOkWrongFalsely : Prop := fnExactNetOkRow.holds Try.pinned (OpenSpec.ofChange fnExactNetOkWrong)

/-- 'laws.FnExactIslands': WHATEVER THE INPUT: true; the input reads as it did. -/
def fnExactIslandsSpec : ChangeSpec := { name := "fnExactIslands", fn := fun _ => fun
  | [d] => { results := [.lit (.bool true)], args := [d] }
  | _ => none }
def fnExactIslandsRow : OpenClaim := { program := "ytbbfibokedlkkaa", sum := "fa09667d1717990b5b5b3c4382d09e0e0a8e1cddc2b7d696b1fb54ad5f3a017f", func := "loop.example/g00063/laws.FnExactIslands", spec := "fnExactIslands", unfollowed := true, recurses := true, apart := false }
def FnExactIslandsSaid : Prop := fnExactIslandsRow.holds Try.pinned (OpenSpec.ofChange fnExactIslandsSpec)

/-- ITS FALSE NEIGHBOUR: 'it returns false'. Refute it at one input. -/
def fnExactIslandsWrong : ChangeSpec := { name := "fnExactIslands", fn := fun _ => fun
  | [d] => { results := [.lit (.bool false)], args := [d] }
  | _ => none }
def FnExactIslandsWrongFalsely : Prop := fnExactIslandsRow.holds Try.pinned (OpenSpec.ofChange fnExactIslandsWrong)

/-- 'laws.FnPower': WHATEVER THE INPUT: true; the input reads as it did. -/
def fnPowerSpec : ChangeSpec := { name := "fnPower", fn := fun _ => fun
  | [d] => { results := [.lit (.bool true)], args := [d] }
  | _ => none }
def fnPowerRow : OpenClaim := { program := "ytbbfibokedlkkaa", sum := "fa09667d1717990b5b5b3c4382d09e0e0a8e1cddc2b7d696b1fb54ad5f3a017f", func := "loop.example/g00063/laws.FnPower", spec := "fnPower", unfollowed := true, recurses := true, apart := false }
def FnPowerSaid : Prop := fnPowerRow.holds Try.pinned (OpenSpec.ofChange fnPowerSpec)

/-- ITS FALSE NEIGHBOUR: 'it returns false'. Refute it at one input. -/
def fnPowerWrong : ChangeSpec := { name := "fnPower", fn := fun _ => fun
  | [d] => { results := [.lit (.bool false)], args := [d] }
  | _ => none }
def FnPowerWrongFalsely : Prop := fnPowerRow.holds Try.pinned (OpenSpec.ofChange fnPowerWrong)

/-- 'laws.FnTied': WHATEVER THE INPUT: true; the input reads as it did. -/
def fnTiedSpec : ChangeSpec := { name := "fnTied", fn := fun _ => fun
  | [d] => { results := [.lit (.bool true)], args := [d] }
  | _ => none }
def fnTiedRow : OpenClaim := { program := "ytbbfibokedlkkaa", sum := "fa09667d1717990b5b5b3c4382d09e0e0a8e1cddc2b7d696b1fb54ad5f3a017f", func := "loop.example/g00063/laws.FnTied", spec := "fnTied", unfollowed := true, recurses := true, apart := false }
def FnTiedSaid : Prop := fnTiedRow.holds Try.pinned (OpenSpec.ofChange fnTiedSpec)

/-- ITS FALSE NEIGHBOUR: 'it returns false'. Refute it at one input. -/
def fnTiedWrong : ChangeSpec := { name := "fnTied", fn := fun _ => fun
  | [d] => { results := [.lit (.bool false)], args := [d] }
  | _ => none }
def FnTiedWrongFalsely : Prop := fnTiedRow.holds Try.pinned (OpenSpec.ofChange fnTiedWrong)

/-- 'laws.FnExactShed': WHATEVER THE INPUT: true; the input reads as it did. -/
def fnExactShedSpec : ChangeSpec := { name := "fnExactShed", fn := fun _ => fun
  | [d] => { results := [.lit (.bool true)], args := [d] }
  | _ => none }
def fnExactShedRow : OpenClaim := { program := "ytbbfibokedlkkaa", sum := "fa09667d1717990b5b5b3c4382d09e0e0a8e1cddc2b7d696b1fb54ad5f3a017f", func := "loop.example/g00063/laws.FnExactShed", spec := "fnExactShed", unfollowed := true, recurses := true, apart := false }
def FnExactShedSaid : Prop := fnExactShedRow.holds Try.pinned (OpenSpec.ofChange fnExactShedSpec)

/-- ITS FALSE NEIGHBOUR: 'it returns false'. Refute it at one input. -/
def fnExactShedWrong : ChangeSpec := { name := "fnExactShed", fn := fun _ => fun
  | [d] => { results := [.lit (.bool false)], args := [d] }
  | _ => none }
def FnExactShedWrongFalsely : Prop := fnExactShedRow.holds Try.pinned (OpenSpec.ofChange fnExactShedWrong)

/-- 'laws.FnExactCloseFor': WHATEVER THE INPUT: true; the input reads as it did. -/
def fnExactCloseForSpec : ChangeSpec := { name := "fnExactCloseFor", fn := fun _ => fun
  | [d1, d2] => { results := [.lit (.bool true)], args := [d1, d2] }
  | _ => none }
def fnExactCloseForRow : OpenClaim := { program := "ytbbfibokedlkkaa", sum := "fa09667d1717990b5b5b3c4382d09e0e0a8e1cddc2b7d696b1fb54ad5f3a017f", func := "loop.example/g00063/laws.FnExactCloseFor", spec := "fnExactCloseFor", unfollowed := true, recurses := true, apart := false }
def FnExactCloseForSaid : Prop := fnExactCloseForRow.holds Try.pinned (OpenSpec.ofChange fnExactCloseForSpec)

/-- ITS FALSE NEIGHBOUR: 'it returns false'. Refute it at one input. -/
def fnExactCloseForWrong : ChangeSpec := { name := "fnExactCloseFor", fn := fun _ => fun
  | [d1, d2] => { results := [.lit (.bool false)], args := [d1, d2] }
  | _ => none }
def FnExactCloseForWrongFalsely : Prop := fnExactCloseForRow.holds Try.pinned (OpenSpec.ofChange fnExactCloseForWrong)

/- THE SECOND FORM. 'bulk': how many values and letters a reading holds, each counted each time it is reached (what is shared counts as often as it is met; a slice's spare places count too). A statement '..UptoSaid' is the law's where the arguments, and the package variables that the reading takes, are together of bulk at most 1048576: NARROWER than '..Said'. Prove '..Said' where nothing that the law and all that it calls make is longer than what came in: it says more and counts as full. Else prove '..UptoSaid'. A law counts once. -/
mutual
def uptoBulk {H : Type} : DataW H → Nat
  | .lit (.string bytes) => bytes.length + 1
  | .lit _ => 1
  | .nil => 1
  | .ptr d => uptoBulk d + 1
  | .slice elems spare => uptoBulkAll elems + uptoBulkAll spare + 1
  | .agg parts => uptoBulkAll parts + 1
  | .iface _ d => uptoBulk d + 1
  | .map entries => uptoBulkEntries entries + 1
  | .held _ => 1
def uptoBulkAll {H : Type} : List (DataW H) → Nat
  | [] => 0
  | d :: r => uptoBulk d + uptoBulkAll r
def uptoBulkEntries {H : Type} : List (Lit × DataW H) → Nat
  | [] => 0
  | x :: r => uptoBulkEntry x + uptoBulkEntries r
def uptoBulkEntry {H : Type} : Lit × DataW H → Nat
  | (.string bytes, d) => bytes.length + uptoBulk d + 1
  | (_, d) => uptoBulk d + 1
 end
def uptoSmall : (H : Type) → List (DataW H) → Bool := fun _ ds => decide (uptoBulkAll ds ≤ 1048576)
def OpenSpec.upto (s : _root_.Go.ChangeSpec) : _root_.Go.OpenSpec := { _root_.Go.OpenSpec.ofChange s with cond := some uptoSmall }

/-- 'laws.FnExactPumpTick', WHERE WHAT IT READS IS OF BULK AT MOST 1048576: true; the input reads as it did. -/
def fnExactPumpTickUptoRow : OpenClaim := { program := "ytbbfibokedlkkaa", sum := "fa09667d1717990b5b5b3c4382d09e0e0a8e1cddc2b7d696b1fb54ad5f3a017f", func := "loop.example/g00063/laws.FnExactPumpTick", spec := "fnExactPumpTick", apart := false, narrowed := true }
def FnExactPumpTickUptoSaid : Prop := fnExactPumpTickUptoRow.holds Try.pinned (OpenSpec.upto fnExactPumpTickSpec)

/-- 'laws.FnExactNetOk', WHERE WHAT IT READS IS OF BULK AT MOST 1048576: true; the input reads as it did. -/
def fnExactNetOkUptoRow : OpenClaim := { program := "ytbbfibokedlkkaa", sum := "fa09667d1717990b5b5b3c4382d09e0e0a8e1cddc2b7d696b1fb54ad5f3a017f", func := "loop.example/g00063/laws.FnExactNetOk", spec := "fnExactNetOk", unfollowed := true, recurses := true, apart := false, narrowed := true }
def FnExactNetOkUptoSaid : Prop := fnExactNetOkUptoRow.holds Try.pinned (OpenSpec.upto fnExactNetOkSpec)

/-- 'laws.FnExactIslands', WHERE WHAT IT READS IS OF BULK AT MOST 1048576: true; the input reads as it did. -/
def fnExactIslandsUptoRow : OpenClaim := { program := "ytbbfibokedlkkaa", sum := "fa09667d1717990b5b5b3c4382d09e0e0a8e1cddc2b7d696b1fb54ad5f3a017f", func := "loop.example/g00063/laws.FnExactIslands", spec := "fnExactIslands", unfollowed := true, recurses := true, apart := false, narrowed := true }
def FnExactIslandsUptoSaid : Prop := fnExactIslandsUptoRow.holds Try.pinned (OpenSpec.upto fnExactIslandsSpec)

/-- 'laws.FnPower', WHERE WHAT IT READS IS OF BULK AT MOST 1048576: true; the input reads as it did. -/
def fnPowerUptoRow : OpenClaim := { program := "ytbbfibokedlkkaa", sum := "fa09667d1717990b5b5b3c4382d09e0e0a8e1cddc2b7d696b1fb54ad5f3a017f", func := "loop.example/g00063/laws.FnPower", spec := "fnPower", unfollowed := true, recurses := true, apart := false, narrowed := true }
def FnPowerUptoSaid : Prop := fnPowerUptoRow.holds Try.pinned (OpenSpec.upto fnPowerSpec)

/-- 'laws.FnTied', WHERE WHAT IT READS IS OF BULK AT MOST 1048576: true; the input reads as it did. -/
def fnTiedUptoRow : OpenClaim := { program := "ytbbfibokedlkkaa", sum := "fa09667d1717990b5b5b3c4382d09e0e0a8e1cddc2b7d696b1fb54ad5f3a017f", func := "loop.example/g00063/laws.FnTied", spec := "fnTied", unfollowed := true, recurses := true, apart := false, narrowed := true }
def FnTiedUptoSaid : Prop := fnTiedUptoRow.holds Try.pinned (OpenSpec.upto fnTiedSpec)

/-- 'laws.FnExactShed', WHERE WHAT IT READS IS OF BULK AT MOST 1048576: true; the input reads as it did. -/
def fnExactShedUptoRow : OpenClaim := { program := "ytbbfibokedlkkaa", sum := "fa09667d1717990b5b5b3c4382d09e0e0a8e1cddc2b7d696b1fb54ad5f3a017f", func := "loop.example/g00063/laws.FnExactShed", spec := "fnExactShed", unfollowed := true, recurses := true, apart := false, narrowed := true }
def FnExactShedUptoSaid : Prop := fnExactShedUptoRow.holds Try.pinned (OpenSpec.upto fnExactShedSpec)

/-- 'laws.FnExactCloseFor', WHERE WHAT IT READS IS OF BULK AT MOST 1048576: true; the input reads as it did. -/
def fnExactCloseForUptoRow : OpenClaim := { program := "ytbbfibokedlkkaa", sum := "fa09667d1717990b5b5b3c4382d09e0e0a8e1cddc2b7d696b1fb54ad5f3a017f", func := "loop.example/g00063/laws.FnExactCloseFor", spec := "fnExactCloseFor", unfollowed := true, recurses := true, apart := false, narrowed := true }
def FnExactCloseForUptoSaid : Prop := fnExactCloseForUptoRow.holds Try.pinned (OpenSpec.upto fnExactCloseForSpec)

end Rows
end Go.Proofs.Ytbbfibokedlkkaa
