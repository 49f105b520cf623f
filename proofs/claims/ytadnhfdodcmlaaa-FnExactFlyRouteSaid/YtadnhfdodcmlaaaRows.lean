/-
  No cell of these rows narrows 'for every input' (looked for: loops, veiled, ifaces, maps, wideKeys, modest, calm, conditions, laid).
  DERIVED. THE GIVEN ROWS OF THIS SEAT. 4 by the template 'for every input the law returns true; each argument reads behind the call as it read before'; 0 by the template 'total and deterministic' (their statements: YtadnhfdodcmlaaaTotals.lean).
  GIVEN WITH THE SEED: the statements are not yours to turn. If you find one false, say at which input.
  Laid BY PROGRAM, IN A SANDBOX (cutbox-rows.mjs): the forced cells as the released guide's own fill.sh prints them over the translation b2d335f9532496a3… (all of the seat's roots in one cut). By AI agents, Wed Nov 11 2026. No macro, syntax, notation, axiom, sorry.
-/
import Derived.Test.YtadnhfdodcmlaaaChecked
import GoSem.Claim
import GoSem.ClaimJoined
import GoSem.ClaimMapViews
import Derived.JoinedTies
import Derived.KernelRfl
namespace Go.Proofs.Ytadnhfdodcmlaaa
/- THE CELL 'sum', in the pinned program and in every row, IS THE sha256 OF THE DUMP (.gsa) THAT YtadnhfdodcmlaaaProg.lean LOADS. Nothing in Lean hashes anything: it is a label: what it is worth is what the hold of that sum in a sandbox is worth. -/
noncomputable def Try.pinned : Pinned := { name := "ytadnhfdodcmlaaa", sum := "b2d335f9532496a3365144f85c68049654cd34ba3e67b130ca9cdc4e0aa79609", checked := Try.checked }
namespace Rows
def none {H : Type} : Left H := { results := [], args := [] }

/-- 'laws.FnExactCraftOk': WHATEVER THE INPUT: true; the input reads as it did. -/
def fnExactCraftOkSpec : ChangeSpec := { name := "fnExactCraftOk", fn := fun _ => fun
  | [d] => { results := [.lit (.bool true)], args := [d] }
  | _ => none }
def fnExactCraftOkRow : OpenClaim := { program := "ytadnhfdodcmlaaa", sum := "b2d335f9532496a3365144f85c68049654cd34ba3e67b130ca9cdc4e0aa79609", func := "loop.example/g00063/laws.FnExactCraftOk", spec := "fnExactCraftOk", apart := false }
def FnExactCraftOkSaid : Prop := fnExactCraftOkRow.holds Try.pinned (OpenSpec.ofChange fnExactCraftOkSpec)

/-- ITS FALSE NEIGHBOUR: 'it returns false'. Refute it at one input. -/
def fnExactCraftOkWrong : ChangeSpec := { name := "fnExactCraftOk", fn := fun _ => fun
  | [d] => { results := [.lit (.bool false)], args := [d] }
  | _ => none }
def FnExactCraftOkWrongFalsely : Prop := fnExactCraftOkRow.holds Try.pinned (OpenSpec.ofChange fnExactCraftOkWrong)

/-- 'laws.FnExactLegOk': WHATEVER THE INPUT: true; the input reads as it did. -/
def fnExactLegOkSpec : ChangeSpec := { name := "fnExactLegOk", fn := fun _ => fun
  | [d] => { results := [.lit (.bool true)], args := [d] }
  | _ => none }
def fnExactLegOkRow : OpenClaim := { program := "ytadnhfdodcmlaaa", sum := "b2d335f9532496a3365144f85c68049654cd34ba3e67b130ca9cdc4e0aa79609", func := "loop.example/g00063/laws.FnExactLegOk", spec := "fnExactLegOk", apart := false }
def FnExactLegOkSaid : Prop := fnExactLegOkRow.holds Try.pinned (OpenSpec.ofChange fnExactLegOkSpec)

/-- ITS FALSE NEIGHBOUR: 'it returns false'. Refute it at one input. -/
def fnExactLegOkWrong : ChangeSpec := { name := "fnExactLegOk", fn := fun _ => fun
  | [d] => { results := [.lit (.bool false)], args := [d] }
  | _ => none }
def FnExactLegOkWrongFalsely : Prop := fnExactLegOkRow.holds Try.pinned (OpenSpec.ofChange fnExactLegOkWrong)

/-- 'laws.FnExactFlyLeg': WHATEVER THE INPUT: true; the input reads as it did. -/
def fnExactFlyLegSpec : ChangeSpec := { name := "fnExactFlyLeg", fn := fun _ => fun
  | [d1, d2] => { results := [.lit (.bool true)], args := [d1, d2] }
  | _ => none }
def fnExactFlyLegRow : OpenClaim := { program := "ytadnhfdodcmlaaa", sum := "b2d335f9532496a3365144f85c68049654cd34ba3e67b130ca9cdc4e0aa79609", func := "loop.example/g00063/laws.FnExactFlyLeg", spec := "fnExactFlyLeg", apart := false }
def FnExactFlyLegSaid : Prop := fnExactFlyLegRow.holds Try.pinned (OpenSpec.ofChange fnExactFlyLegSpec)

/-- ITS FALSE NEIGHBOUR: 'it returns false'. Refute it at one input. -/
def fnExactFlyLegWrong : ChangeSpec := { name := "fnExactFlyLeg", fn := fun _ => fun
  | [d1, d2] => { results := [.lit (.bool false)], args := [d1, d2] }
  | _ => none }
def FnExactFlyLegWrongFalsely : Prop := fnExactFlyLegRow.holds Try.pinned (OpenSpec.ofChange fnExactFlyLegWrong)

/-- 'laws.FnExactFlyRoute': WHATEVER THE INPUT: true; the input reads as it did. -/
def fnExactFlyRouteSpec : ChangeSpec := { name := "fnExactFlyRoute", fn := fun _ => fun
  | [d1, d2] => { results := [.lit (.bool true)], args := [d1, d2] }
  | _ => none }
def fnExactFlyRouteRow : OpenClaim := { program := "ytadnhfdodcmlaaa", sum := "b2d335f9532496a3365144f85c68049654cd34ba3e67b130ca9cdc4e0aa79609", func := "loop.example/g00063/laws.FnExactFlyRoute", spec := "fnExactFlyRoute", apart := false }
def FnExactFlyRouteSaid : Prop := fnExactFlyRouteRow.holds Try.pinned (OpenSpec.ofChange fnExactFlyRouteSpec)

/-- ITS FALSE NEIGHBOUR: 'it returns false'. Refute it at one input. -/
def fnExactFlyRouteWrong : ChangeSpec := { name := "fnExactFlyRoute", fn := fun _ => fun
  | [d1, d2] => { results := [.lit (.bool false)], args := [d1, d2] }
  | _ => none }
def FnExactFlyRouteWrongFalsely : Prop := fnExactFlyRouteRow.holds Try.pinned (OpenSpec.ofChange fnExactFlyRouteWrong)

/- THE SECOND FORM. 'bulk': how many values and letters a reading holds, each counted each time it is reached (what is shared counts as often as it is met; a slice's spare places count too). A statement '..UptoSaid' is the law's where the arguments, and the package variables that the reading takes, are together of bulk at most 1048576: NARROWER than '..Said'. Prove '..Said' where nothing that the law and all that it calls make is longer than what came in: it says more and counts as full. Else prove '..UptoSaid'. A law counts once. -/
mutual
def uptoBulk {H : Type} : DataW H → Nat
  | .lit (.string bytes) => bytes.length + 1
  | .lit _ => 1
  | .nil => 1
  | .ptr d => uptoBulk d + 1
  | .slice elems spare => uptoBulkAll elems + uptoBulkAll spare + 1
  | .agg parts => uptoBulkAll parts + 1
  | .iface _ d => uptoBulk d + 1
  | .map entries => uptoBulkEntries entries + 1
  | .held _ => 1
def uptoBulkAll {H : Type} : List (DataW H) → Nat
  | [] => 0
  | d :: r => uptoBulk d + uptoBulkAll r
def uptoBulkEntries {H : Type} : List (Lit × DataW H) → Nat
  | [] => 0
  | x :: r => uptoBulkEntry x + uptoBulkEntries r
def uptoBulkEntry {H : Type} : Lit × DataW H → Nat
  | (.string bytes, d) => bytes.length + uptoBulk d + 1
  | (_, d) => uptoBulk d + 1
 end
def uptoSmall : (H : Type) → List (DataW H) → Bool := fun _ ds => decide (uptoBulkAll ds ≤ 1048576)
def OpenSpec.upto (s : _root_.Go.ChangeSpec) : _root_.Go.OpenSpec := { _root_.Go.OpenSpec.ofChange s with cond := some uptoSmall }

/-- 'laws.FnExactCraftOk', WHERE WHAT IT READS IS OF BULK AT MOST 1048576: true; the input reads as it did. -/
def fnExactCraftOkUptoRow : OpenClaim := { program := "ytadnhfdodcmlaaa", sum := "b2d335f9532496a3365144f85c68049654cd34ba3e67b130ca9cdc4e0aa79609", func := "loop.example/g00063/laws.FnExactCraftOk", spec := "fnExactCraftOk", apart := false, narrowed := true }
def FnExactCraftOkUptoSaid : Prop := fnExactCraftOkUptoRow.holds Try.pinned (OpenSpec.upto fnExactCraftOkSpec)

/-- 'laws.FnExactLegOk', WHERE WHAT IT READS IS OF BULK AT MOST 1048576: true; the input reads as it did. -/
def fnExactLegOkUptoRow : OpenClaim := { program := "ytadnhfdodcmlaaa", sum := "b2d335f9532496a3365144f85c68049654cd34ba3e67b130ca9cdc4e0aa79609", func := "loop.example/g00063/laws.FnExactLegOk", spec := "fnExactLegOk", apart := false, narrowed := true }
def FnExactLegOkUptoSaid : Prop := fnExactLegOkUptoRow.holds Try.pinned (OpenSpec.upto fnExactLegOkSpec)

/-- 'laws.FnExactFlyLeg', WHERE WHAT IT READS IS OF BULK AT MOST 1048576: true; the input reads as it did. -/
def fnExactFlyLegUptoRow : OpenClaim := { program := "ytadnhfdodcmlaaa", sum := "b2d335f9532496a3365144f85c68049654cd34ba3e67b130ca9cdc4e0aa79609", func := "loop.example/g00063/laws.FnExactFlyLeg", spec := "fnExactFlyLeg", apart := false, narrowed := true }
def FnExactFlyLegUptoSaid : Prop := fnExactFlyLegUptoRow.holds Try.pinned (OpenSpec.upto fnExactFlyLegSpec)

/-- 'laws.FnExactFlyRoute', WHERE WHAT IT READS IS OF BULK AT MOST 1048576: true; the input reads as it did. -/
def fnExactFlyRouteUptoRow : OpenClaim := { program := "ytadnhfdodcmlaaa", sum := "b2d335f9532496a3365144f85c68049654cd34ba3e67b130ca9cdc4e0aa79609", func := "loop.example/g00063/laws.FnExactFlyRoute", spec := "fnExactFlyRoute", apart := false, narrowed := true }
def FnExactFlyRouteUptoSaid : Prop := fnExactFlyRouteUptoRow.holds Try.pinned (OpenSpec.upto fnExactFlyRouteSpec)

end Rows
end Go.Proofs.Ytadnhfdodcmlaaa
