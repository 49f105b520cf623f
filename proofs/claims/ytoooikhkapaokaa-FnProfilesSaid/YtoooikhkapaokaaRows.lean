/-
  No cell of these rows narrows 'for every input' (looked for: loops, veiled, ifaces, maps, wideKeys, modest, calm, conditions, laid).
  DERIVED. THE GIVEN ROWS OF THIS SEAT. 6 by the template 'for every input the law returns true; each argument reads behind the call as it read before'; 0 by the template 'total and deterministic' (their statements: YtoooikhkapaokaaTotals.lean).
  GIVEN WITH THE SEED: the statements are not yours to turn. If you find one false, say at which input.
  Laid BY PROGRAM, IN A SANDBOX (cutbox-rows.mjs): the forced cells as the released guide's own fill.sh prints them over the translation 4d16745e944a2998… (all of the seat's roots in one cut). By AI agents, Wed Nov 11 2026. No macro, syntax, notation, axiom, sorry.
-/
import Derived.Test.YtoooikhkapaokaaChecked
import GoSem.Claim
import GoSem.ClaimJoined
import GoSem.ClaimMapViews
import Derived.JoinedTies
import Derived.KernelRfl
namespace Go.Proofs.Ytoooikhkapaokaa
/- THE CELL 'sum', in the pinned program and in every row, IS THE sha256 OF THE DUMP (.gsa) THAT YtoooikhkapaokaaProg.lean LOADS. Nothing in Lean hashes anything: it is a label: what it is worth is what the hold of that sum in a sandbox is worth. -/
noncomputable def Try.pinned : Pinned := { name := "ytoooikhkapaokaa", sum := "4d16745e944a2998f0ff083f196bced6a8c139ef754897571a7d6be35c9b95a7", checked := Try.checked }
namespace Rows
def none {H : Type} : Left H := { results := [], args := [] }

/-- 'laws.FnExactDescent': WHATEVER THE INPUT: true; the input reads as it did. -/
def fnExactDescentSpec : ChangeSpec := { name := "fnExactDescent", fn := fun _ => fun
  | [d1, d2, d3] => { results := [.lit (.bool true)], args := [d1, d2, d3] }
  | _ => none }
def fnExactDescentRow : OpenClaim := { program := "ytoooikhkapaokaa", sum := "4d16745e944a2998f0ff083f196bced6a8c139ef754897571a7d6be35c9b95a7", func := "loop.example/g00063/laws.FnExactDescent", spec := "fnExactDescent", apart := false }
def FnExactDescentSaid : Prop := fnExactDescentRow.holds Try.pinned (OpenSpec.ofChange fnExactDescentSpec)

/-- ITS FALSE NEIGHBOUR: 'it returns false'. Refute it at one input. -/
def fnExactDescentWrong : ChangeSpec := { name := "fnExactDescent", fn := fun _ => fun
  | [d1, d2, d3] => { results := [.lit (.bool false)], args := [d1, d2, d3] }
  | _ => none }
def FnExactDescentWrongFalsely : Prop := fnExactDescentRow.holds Try.pinned (OpenSpec.ofChange fnExactDescentWrong)

/-- 'laws.FnExactPointsOk': WHATEVER THE INPUT: true; the input reads as it did. -/
def fnExactPointsOkSpec : ChangeSpec := { name := "fnExactPointsOk", fn := fun _ => fun
  | [d] => { results := [.lit (.bool true)], args := [d] }
  | _ => none }
def fnExactPointsOkRow : OpenClaim := { program := "ytoooikhkapaokaa", sum := "4d16745e944a2998f0ff083f196bced6a8c139ef754897571a7d6be35c9b95a7", func := "loop.example/g00063/laws.FnExactPointsOk", spec := "fnExactPointsOk", apart := false }
def FnExactPointsOkSaid : Prop := fnExactPointsOkRow.holds Try.pinned (OpenSpec.ofChange fnExactPointsOkSpec)

/-- ITS FALSE NEIGHBOUR: 'it returns false'. Refute it at one input. -/
def fnExactPointsOkWrong : ChangeSpec := { name := "fnExactPointsOk", fn := fun _ => fun
  | [d] => { results := [.lit (.bool false)], args := [d] }
  | _ => none }
def FnExactPointsOkWrongFalsely : Prop := fnExactPointsOkRow.holds Try.pinned (OpenSpec.ofChange fnExactPointsOkWrong)

/-- 'laws.FnExactReach': WHATEVER THE INPUT: true; the input reads as it did. -/
def fnExactReachSpec : ChangeSpec := { name := "fnExactReach", fn := fun _ => fun
  | [d1, d2, d3] => { results := [.lit (.bool true)], args := [d1, d2, d3] }
  | _ => none }
def fnExactReachRow : OpenClaim := { program := "ytoooikhkapaokaa", sum := "4d16745e944a2998f0ff083f196bced6a8c139ef754897571a7d6be35c9b95a7", func := "loop.example/g00063/laws.FnExactReach", spec := "fnExactReach", apart := false }
def FnExactReachSaid : Prop := fnExactReachRow.holds Try.pinned (OpenSpec.ofChange fnExactReachSpec)

/-- ITS FALSE NEIGHBOUR: 'it returns false'. Refute it at one input. -/
def fnExactReachWrong : ChangeSpec := { name := "fnExactReach", fn := fun _ => fun
  | [d1, d2, d3] => { results := [.lit (.bool false)], args := [d1, d2, d3] }
  | _ => none }
def FnExactReachWrongFalsely : Prop := fnExactReachRow.holds Try.pinned (OpenSpec.ofChange fnExactReachWrong)

/-- 'laws.FnProfiles': WHATEVER THE INPUT: true; the input reads as it did. -/
def fnProfilesSpec : ChangeSpec := { name := "fnProfiles", fn := fun _ => fun
  | [d] => { results := [.lit (.bool true)], args := [d] }
  | _ => none }
def fnProfilesRow : OpenClaim := { program := "ytoooikhkapaokaa", sum := "4d16745e944a2998f0ff083f196bced6a8c139ef754897571a7d6be35c9b95a7", func := "loop.example/g00063/laws.FnProfiles", spec := "fnProfiles", apart := false }
def FnProfilesSaid : Prop := fnProfilesRow.holds Try.pinned (OpenSpec.ofChange fnProfilesSpec)

/-- ITS FALSE NEIGHBOUR: 'it returns false'. Refute it at one input. -/
def fnProfilesWrong : ChangeSpec := { name := "fnProfiles", fn := fun _ => fun
  | [d] => { results := [.lit (.bool false)], args := [d] }
  | _ => none }
def FnProfilesWrongFalsely : Prop := fnProfilesRow.holds Try.pinned (OpenSpec.ofChange fnProfilesWrong)

/-- 'laws.FnExactBest': WHATEVER THE INPUT: true; the input reads as it did. -/
def fnExactBestSpec : ChangeSpec := { name := "fnExactBest", fn := fun _ => fun
  | [d1, d2, d3] => { results := [.lit (.bool true)], args := [d1, d2, d3] }
  | _ => none }
def fnExactBestRow : OpenClaim := { program := "ytoooikhkapaokaa", sum := "4d16745e944a2998f0ff083f196bced6a8c139ef754897571a7d6be35c9b95a7", func := "loop.example/g00063/laws.FnExactBest", spec := "fnExactBest", apart := false }
def FnExactBestSaid : Prop := fnExactBestRow.holds Try.pinned (OpenSpec.ofChange fnExactBestSpec)

/-- ITS FALSE NEIGHBOUR: 'it returns false'. Refute it at one input. -/
def fnExactBestWrong : ChangeSpec := { name := "fnExactBest", fn := fun _ => fun
  | [d1, d2, d3] => { results := [.lit (.bool false)], args := [d1, d2, d3] }
  | _ => none }
def FnExactBestWrongFalsely : Prop := fnExactBestRow.holds Try.pinned (OpenSpec.ofChange fnExactBestWrong)

/-- 'laws.FnExactProfile': WHATEVER THE INPUT: true; the input reads as it did. -/
def fnExactProfileSpec : ChangeSpec := { name := "fnExactProfile", fn := fun _ => fun
  | [d1, d2, d3, d4] => { results := [.lit (.bool true)], args := [d1, d2, d3, d4] }
  | _ => none }
def fnExactProfileRow : OpenClaim := { program := "ytoooikhkapaokaa", sum := "4d16745e944a2998f0ff083f196bced6a8c139ef754897571a7d6be35c9b95a7", func := "loop.example/g00063/laws.FnExactProfile", spec := "fnExactProfile", apart := false }
def FnExactProfileSaid : Prop := fnExactProfileRow.holds Try.pinned (OpenSpec.ofChange fnExactProfileSpec)

/-- ITS FALSE NEIGHBOUR: 'it returns false'. Refute it at one input. -/
def fnExactProfileWrong : ChangeSpec := { name := "fnExactProfile", fn := fun _ => fun
  | [d1, d2, d3, d4] => { results := [.lit (.bool false)], args := [d1, d2, d3, d4] }
  | _ => none }
def FnExactProfileWrongFalsely : Prop := fnExactProfileRow.holds Try.pinned (OpenSpec.ofChange fnExactProfileWrong)

/- THE SECOND FORM. 'bulk': how many values and letters a reading holds, each counted each time it is reached (what is shared counts as often as it is met; a slice's spare places count too). A statement '..UptoSaid' is the law's where the arguments, and the package variables that the reading takes, are together of bulk at most 1048576: NARROWER than '..Said'. Prove '..Said' where nothing that the law and all that it calls make is longer than what came in: it says more and counts as full. Else prove '..UptoSaid'. A law counts once. -/
mutual
def uptoBulk {H : Type} : DataW H → Nat
  | .lit (.string bytes) => bytes.length + 1
  | .lit _ => 1
  | .nil => 1
  | .ptr d => uptoBulk d + 1
  | .slice elems spare => uptoBulkAll elems + uptoBulkAll spare + 1
  | .agg parts => uptoBulkAll parts + 1
  | .iface _ d => uptoBulk d + 1
  | .map entries => uptoBulkEntries entries + 1
  | .held _ => 1
def uptoBulkAll {H : Type} : List (DataW H) → Nat
  | [] => 0
  | d :: r => uptoBulk d + uptoBulkAll r
def uptoBulkEntries {H : Type} : List (Lit × DataW H) → Nat
  | [] => 0
  | x :: r => uptoBulkEntry x + uptoBulkEntries r
def uptoBulkEntry {H : Type} : Lit × DataW H → Nat
  | (.string bytes, d) => bytes.length + uptoBulk d + 1
  | (_, d) => uptoBulk d + 1
 end
def uptoSmall : (H : Type) → List (DataW H) → Bool := fun _ ds => decide (uptoBulkAll ds ≤ 1048576)
def OpenSpec.upto (s : _root_.Go.ChangeSpec) : _root_.Go.OpenSpec := { _root_.Go.OpenSpec.ofChange s with cond := some uptoSmall }

/-- 'laws.FnExactDescent', WHERE WHAT IT READS IS OF BULK AT MOST 1048576: true; the input reads as it did. -/
def fnExactDescentUptoRow : OpenClaim := { program := "ytoooikhkapaokaa", sum := "4d16745e944a2998f0ff083f196bced6a8c139ef754897571a7d6be35c9b95a7", func := "loop.example/g00063/laws.FnExactDescent", spec := "fnExactDescent", apart := false, narrowed := true }
def FnExactDescentUptoSaid : Prop := fnExactDescentUptoRow.holds Try.pinned (OpenSpec.upto fnExactDescentSpec)

/-- 'laws.FnExactPointsOk', WHERE WHAT IT READS IS OF BULK AT MOST 1048576: true; the input reads as it did. -/
def fnExactPointsOkUptoRow : OpenClaim := { program := "ytoooikhkapaokaa", sum := "4d16745e944a2998f0ff083f196bced6a8c139ef754897571a7d6be35c9b95a7", func := "loop.example/g00063/laws.FnExactPointsOk", spec := "fnExactPointsOk", apart := false, narrowed := true }
def FnExactPointsOkUptoSaid : Prop := fnExactPointsOkUptoRow.holds Try.pinned (OpenSpec.upto fnExactPointsOkSpec)

/-- 'laws.FnExactReach', WHERE WHAT IT READS IS OF BULK AT MOST 1048576: true; the input reads as it did. -/
def fnExactReachUptoRow : OpenClaim := { program := "ytoooikhkapaokaa", sum := "4d16745e944a2998f0ff083f196bced6a8c139ef754897571a7d6be35c9b95a7", func := "loop.example/g00063/laws.FnExactReach", spec := "fnExactReach", apart := false, narrowed := true }
def FnExactReachUptoSaid : Prop := fnExactReachUptoRow.holds Try.pinned (OpenSpec.upto fnExactReachSpec)

/-- 'laws.FnProfiles', WHERE WHAT IT READS IS OF BULK AT MOST 1048576: true; the input reads as it did. -/
def fnProfilesUptoRow : OpenClaim := { program := "ytoooikhkapaokaa", sum := "4d16745e944a2998f0ff083f196bced6a8c139ef754897571a7d6be35c9b95a7", func := "loop.example/g00063/laws.FnProfiles", spec := "fnProfiles", apart := false, narrowed := true }
def FnProfilesUptoSaid : Prop := fnProfilesUptoRow.holds Try.pinned (OpenSpec.upto fnProfilesSpec)

/-- 'laws.FnExactBest', WHERE WHAT IT READS IS OF BULK AT MOST 1048576: true; the input reads as it did. -/
def fnExactBestUptoRow : OpenClaim := { program := "ytoooikhkapaokaa", sum := "4d16745e944a2998f0ff083f196bced6a8c139ef754897571a7d6be35c9b95a7", func := "loop.example/g00063/laws.FnExactBest", spec := "fnExactBest", apart := false, narrowed := true }
def FnExactBestUptoSaid : Prop := fnExactBestUptoRow.holds Try.pinned (OpenSpec.upto fnExactBestSpec)

/-- 'laws.FnExactProfile', WHERE WHAT IT READS IS OF BULK AT MOST 1048576: true; the input reads as it did. -/
def fnExactProfileUptoRow : OpenClaim := { program := "ytoooikhkapaokaa", sum := "4d16745e944a2998f0ff083f196bced6a8c139ef754897571a7d6be35c9b95a7", func := "loop.example/g00063/laws.FnExactProfile", spec := "fnExactProfile", apart := false, narrowed := true }
def FnExactProfileUptoSaid : Prop := fnExactProfileUptoRow.holds Try.pinned (OpenSpec.upto fnExactProfileSpec)

end Rows
end Go.Proofs.Ytoooikhkapaokaa
