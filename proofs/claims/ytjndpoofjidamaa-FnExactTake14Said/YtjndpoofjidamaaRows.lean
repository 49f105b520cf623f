/-
  No cell of these rows narrows 'for every input' (looked for: loops, veiled, ifaces, maps, wideKeys, modest, calm, conditions, laid).
  DERIVED. THE GIVEN ROWS OF THIS SEAT. 6 by the template 'for every input the law returns true; each argument reads behind the call as it read before'; 0 by the template 'total and deterministic' (their statements: YtjndpoofjidamaaTotals.lean).
  GIVEN WITH THE SEED: the statements are not yours to turn. If you find one false, say at which input.
  Laid BY PROGRAM, IN A SANDBOX (cutbox-rows.mjs): the forced cells as the released guide's own fill.sh prints them over the translation 05be5193c50e472b… (all of the seat's roots in one cut). By AI agents, Wed Nov 11 2026. No macro, syntax, notation, axiom, sorry.
-/
import Derived.Test.YtjndpoofjidamaaChecked
import GoSem.Claim
import GoSem.ClaimJoined
import GoSem.ClaimMapViews
import Derived.JoinedTies
import Derived.KernelRfl
namespace Go.Proofs.Ytjndpoofjidamaa
/- THE CELL 'sum', in the pinned program and in every row, IS THE sha256 OF THE DUMP (.gsa) THAT YtjndpoofjidamaaProg.lean LOADS. Nothing in Lean hashes anything: it is a label: what it is worth is what the hold of that sum in a sandbox is worth. -/
noncomputable def Try.pinned : Pinned := { name := "ytjndpoofjidamaa", sum := "05be5193c50e472bf237d16328ea494300bddac6edb8bf10407ce9d2d0412924", checked := Try.checked }
namespace Rows
def none {H : Type} : Left H := { results := [], args := [] }

/-- 'laws.FnExactRulesOk': WHATEVER THE INPUT: true; the input reads as it did. -/
def fnExactRulesOkSpec : ChangeSpec := { name := "fnExactRulesOk", fn := fun _ => fun
  | [d] => { results := [.lit (.bool true)], args := [d] }
  | _ => none }
def fnExactRulesOkRow : OpenClaim := { program := "ytjndpoofjidamaa", sum := "05be5193c50e472bf237d16328ea494300bddac6edb8bf10407ce9d2d0412924", func := "loop.example/g00063/laws.FnExactRulesOk", spec := "fnExactRulesOk", unfollowed := true, recurses := true, apart := false }
def FnExactRulesOkSaid : Prop := fnExactRulesOkRow.holds Try.pinned (OpenSpec.ofChange fnExactRulesOkSpec)

/-- ITS FALSE NEIGHBOUR: 'it returns false'. Refute it at one input. -/
def fnExactRulesOkWrong : ChangeSpec := { name := "fnExactRulesOk", fn := fun _ => fun
  | [d] => { results := [.lit (.bool false)], args := [d] }
  | _ => none }
def FnExactRulesOkWrongFalsely : Prop := fnExactRulesOkRow.holds Try.pinned (OpenSpec.ofChange fnExactRulesOkWrong)

/-- 'laws.FnExactLoudest': WHATEVER THE INPUT: true; the input reads as it did. -/
def fnExactLoudestSpec : ChangeSpec := { name := "fnExactLoudest", fn := fun _ => fun
  | [d1, d2] => { results := [.lit (.bool true)], args := [d1, d2] }
  | _ => none }
def fnExactLoudestRow : OpenClaim := { program := "ytjndpoofjidamaa", sum := "05be5193c50e472bf237d16328ea494300bddac6edb8bf10407ce9d2d0412924", func := "loop.example/g00063/laws.FnExactLoudest", spec := "fnExactLoudest", unfollowed := true, recurses := true, apart := false }
def FnExactLoudestSaid : Prop := fnExactLoudestRow.holds Try.pinned (OpenSpec.ofChange fnExactLoudestSpec)

/-- ITS FALSE NEIGHBOUR: 'it returns false'. Refute it at one input. -/
def fnExactLoudestWrong : ChangeSpec := { name := "fnExactLoudest", fn := fun _ => fun
  | [d1, d2] => { results := [.lit (.bool false)], args := [d1, d2] }
  | _ => none }
def FnExactLoudestWrongFalsely : Prop := fnExactLoudestRow.holds Try.pinned (OpenSpec.ofChange fnExactLoudestWrong)

/-- 'laws.FnExactInhibited': WHATEVER THE INPUT: true; the input reads as it did. -/
def fnExactInhibitedSpec : ChangeSpec := { name := "fnExactInhibited", fn := fun _ => fun
  | [d1, d2] => { results := [.lit (.bool true)], args := [d1, d2] }
  | _ => none }
def fnExactInhibitedRow : OpenClaim := { program := "ytjndpoofjidamaa", sum := "05be5193c50e472bf237d16328ea494300bddac6edb8bf10407ce9d2d0412924", func := "loop.example/g00063/laws.FnExactInhibited", spec := "fnExactInhibited", unfollowed := true, recurses := true, apart := false }
def FnExactInhibitedSaid : Prop := fnExactInhibitedRow.holds Try.pinned (OpenSpec.ofChange fnExactInhibitedSpec)

/-- ITS FALSE NEIGHBOUR: 'it returns false'. Refute it at one input. -/
def fnExactInhibitedWrong : ChangeSpec := { name := "fnExactInhibited", fn := fun _ => fun
  | [d1, d2] => { results := [.lit (.bool false)], args := [d1, d2] }
  | _ => none }
def FnExactInhibitedWrongFalsely : Prop := fnExactInhibitedRow.holds Try.pinned (OpenSpec.ofChange fnExactInhibitedWrong)

/-- 'laws.FnWarned': WHATEVER THE INPUT: true; the input reads as it did. -/
def fnWarnedSpec : ChangeSpec := { name := "fnWarned", fn := fun _ => fun
  | [d] => { results := [.lit (.bool true)], args := [d] }
  | _ => none }
def fnWarnedRow : OpenClaim := { program := "ytjndpoofjidamaa", sum := "05be5193c50e472bf237d16328ea494300bddac6edb8bf10407ce9d2d0412924", func := "loop.example/g00063/laws.FnWarned", spec := "fnWarned", inPlace := ["internal/bytealg.abigen_runtime_cmpstring", "slices.overlaps[string]"], unfollowed := true, recurses := true, apart := false }
def FnWarnedSaid : Prop := fnWarnedRow.holds Try.pinned (OpenSpec.ofChange fnWarnedSpec)

/-- ITS FALSE NEIGHBOUR: 'it returns false'. Refute it at one input. -/
def fnWarnedWrong : ChangeSpec := { name := "fnWarned", fn := fun _ => fun
  | [d] => { results := [.lit (.bool false)], args := [d] }
  | _ => none }
def FnWarnedWrongFalsely : Prop := fnWarnedRow.holds Try.pinned (OpenSpec.ofChange fnWarnedWrong)

/-- 'laws.FnExactTake14': WHATEVER THE INPUT: true; the input reads as it did. -/
def fnExactTake14Spec : ChangeSpec := { name := "fnExactTake14", fn := fun _ => fun
  | [d1, d2, d3] => { results := [.lit (.bool true)], args := [d1, d2, d3] }
  | _ => none }
def fnExactTake14Row : OpenClaim := { program := "ytjndpoofjidamaa", sum := "05be5193c50e472bf237d16328ea494300bddac6edb8bf10407ce9d2d0412924", func := "loop.example/g00063/laws.FnExactTake14", spec := "fnExactTake14", inPlace := ["slices.overlaps[string]"], unfollowed := true, recurses := true, apart := false }
def FnExactTake14Said : Prop := fnExactTake14Row.holds Try.pinned (OpenSpec.ofChange fnExactTake14Spec)

/-- ITS FALSE NEIGHBOUR: 'it returns false'. Refute it at one input. -/
def fnExactTake14Wrong : ChangeSpec := { name := "fnExactTake14", fn := fun _ => fun
  | [d1, d2, d3] => { results := [.lit (.bool false)], args := [d1, d2, d3] }
  | _ => none }
def FnExactTake14WrongFalsely : Prop := fnExactTake14Row.holds Try.pinned (OpenSpec.ofChange fnExactTake14Wrong)

/-- 'laws.FnExactUpdate14': WHATEVER THE INPUT: true; the input reads as it did. -/
def fnExactUpdate14Spec : ChangeSpec := { name := "fnExactUpdate14", fn := fun _ => fun
  | [d1, d2, d3, d4] => { results := [.lit (.bool true)], args := [d1, d2, d3, d4] }
  | _ => none }
def fnExactUpdate14Row : OpenClaim := { program := "ytjndpoofjidamaa", sum := "05be5193c50e472bf237d16328ea494300bddac6edb8bf10407ce9d2d0412924", func := "loop.example/g00063/laws.FnExactUpdate14", spec := "fnExactUpdate14", inPlace := ["internal/bytealg.abigen_runtime_cmpstring", "slices.overlaps[string]"], unfollowed := true, recurses := true, apart := false }
def FnExactUpdate14Said : Prop := fnExactUpdate14Row.holds Try.pinned (OpenSpec.ofChange fnExactUpdate14Spec)

/-- ITS FALSE NEIGHBOUR: 'it returns false'. Refute it at one input. -/
def fnExactUpdate14Wrong : ChangeSpec := { name := "fnExactUpdate14", fn := fun _ => fun
  | [d1, d2, d3, d4] => { results := [.lit (.bool false)], args := [d1, d2, d3, d4] }
  | _ => none }
def FnExactUpdate14WrongFalsely : Prop := fnExactUpdate14Row.holds Try.pinned (OpenSpec.ofChange fnExactUpdate14Wrong)

/- THE SECOND FORM. 'bulk': how many values and letters a reading holds, each counted each time it is reached (what is shared counts as often as it is met; a slice's spare places count too). A statement '..UptoSaid' is the law's where the arguments, and the package variables that the reading takes, are together of bulk at most 1048576: NARROWER than '..Said'. Prove '..Said' where nothing that the law and all that it calls make is longer than what came in: it says more and counts as full. Else prove '..UptoSaid'. A law counts once. -/
mutual
def uptoBulk {H : Type} : DataW H → Nat
  | .lit (.string bytes) => bytes.length + 1
  | .lit _ => 1
  | .nil => 1
  | .ptr d => uptoBulk d + 1
  | .slice elems spare => uptoBulkAll elems + uptoBulkAll spare + 1
  | .agg parts => uptoBulkAll parts + 1
  | .iface _ d => uptoBulk d + 1
  | .map entries => uptoBulkEntries entries + 1
  | .held _ => 1
def uptoBulkAll {H : Type} : List (DataW H) → Nat
  | [] => 0
  | d :: r => uptoBulk d + uptoBulkAll r
def uptoBulkEntries {H : Type} : List (Lit × DataW H) → Nat
  | [] => 0
  | x :: r => uptoBulkEntry x + uptoBulkEntries r
def uptoBulkEntry {H : Type} : Lit × DataW H → Nat
  | (.string bytes, d) => bytes.length + uptoBulk d + 1
  | (_, d) => uptoBulk d + 1
 end
def uptoSmall : (H : Type) → List (DataW H) → Bool := fun _ ds => decide (uptoBulkAll ds ≤ 1048576)
def OpenSpec.upto (s : _root_.Go.ChangeSpec) : _root_.Go.OpenSpec := { _root_.Go.OpenSpec.ofChange s with cond := some uptoSmall }

/-- 'laws.FnExactRulesOk', WHERE WHAT IT READS IS OF BULK AT MOST 1048576: true; the input reads as it did. -/
def fnExactRulesOkUptoRow : OpenClaim := { program := "ytjndpoofjidamaa", sum := "05be5193c50e472bf237d16328ea494300bddac6edb8bf10407ce9d2d0412924", func := "loop.example/g00063/laws.FnExactRulesOk", spec := "fnExactRulesOk", unfollowed := true, recurses := true, apart := false, narrowed := true }
def FnExactRulesOkUptoSaid : Prop := fnExactRulesOkUptoRow.holds Try.pinned (OpenSpec.upto fnExactRulesOkSpec)

/-- 'laws.FnExactLoudest', WHERE WHAT IT READS IS OF BULK AT MOST 1048576: true; the input reads as it did. -/
def fnExactLoudestUptoRow : OpenClaim := { program := "ytjndpoofjidamaa", sum := "05be5193c50e472bf237d16328ea494300bddac6edb8bf10407ce9d2d0412924", func := "loop.example/g00063/laws.FnExactLoudest", spec := "fnExactLoudest", unfollowed := true, recurses := true, apart := false, narrowed := true }
def FnExactLoudestUptoSaid : Prop := fnExactLoudestUptoRow.holds Try.pinned (OpenSpec.upto fnExactLoudestSpec)

/-- 'laws.FnExactInhibited', WHERE WHAT IT READS IS OF BULK AT MOST 1048576: true; the input reads as it did. -/
def fnExactInhibitedUptoRow : OpenClaim := { program := "ytjndpoofjidamaa", sum := "05be5193c50e472bf237d16328ea494300bddac6edb8bf10407ce9d2d0412924", func := "loop.example/g00063/laws.FnExactInhibited", spec := "fnExactInhibited", unfollowed := true, recurses := true, apart := false, narrowed := true }
def FnExactInhibitedUptoSaid : Prop := fnExactInhibitedUptoRow.holds Try.pinned (OpenSpec.upto fnExactInhibitedSpec)

/-- 'laws.FnWarned', WHERE WHAT IT READS IS OF BULK AT MOST 1048576: true; the input reads as it did. -/
def fnWarnedUptoRow : OpenClaim := { program := "ytjndpoofjidamaa", sum := "05be5193c50e472bf237d16328ea494300bddac6edb8bf10407ce9d2d0412924", func := "loop.example/g00063/laws.FnWarned", spec := "fnWarned", inPlace := ["internal/bytealg.abigen_runtime_cmpstring", "slices.overlaps[string]"], unfollowed := true, recurses := true, apart := false, narrowed := true }
def FnWarnedUptoSaid : Prop := fnWarnedUptoRow.holds Try.pinned (OpenSpec.upto fnWarnedSpec)

/-- 'laws.FnExactTake14', WHERE WHAT IT READS IS OF BULK AT MOST 1048576: true; the input reads as it did. -/
def fnExactTake14UptoRow : OpenClaim := { program := "ytjndpoofjidamaa", sum := "05be5193c50e472bf237d16328ea494300bddac6edb8bf10407ce9d2d0412924", func := "loop.example/g00063/laws.FnExactTake14", spec := "fnExactTake14", inPlace := ["slices.overlaps[string]"], unfollowed := true, recurses := true, apart := false, narrowed := true }
def FnExactTake14UptoSaid : Prop := fnExactTake14UptoRow.holds Try.pinned (OpenSpec.upto fnExactTake14Spec)

/-- 'laws.FnExactUpdate14', WHERE WHAT IT READS IS OF BULK AT MOST 1048576: true; the input reads as it did. -/
def fnExactUpdate14UptoRow : OpenClaim := { program := "ytjndpoofjidamaa", sum := "05be5193c50e472bf237d16328ea494300bddac6edb8bf10407ce9d2d0412924", func := "loop.example/g00063/laws.FnExactUpdate14", spec := "fnExactUpdate14", inPlace := ["internal/bytealg.abigen_runtime_cmpstring", "slices.overlaps[string]"], unfollowed := true, recurses := true, apart := false, narrowed := true }
def FnExactUpdate14UptoSaid : Prop := fnExactUpdate14UptoRow.holds Try.pinned (OpenSpec.upto fnExactUpdate14Spec)

end Rows
end Go.Proofs.Ytjndpoofjidamaa
