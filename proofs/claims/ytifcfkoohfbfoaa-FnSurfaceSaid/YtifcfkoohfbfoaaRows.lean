/-
  No cell of these rows narrows 'for every input' (looked for: loops, veiled, ifaces, maps, wideKeys, modest, calm, conditions, laid).
  DERIVED. THE GIVEN ROWS OF THIS SEAT. 8 by the template 'for every input the law returns true; each argument reads behind the call as it read before'; 0 by the template 'total and deterministic' (their statements: YtifcfkoohfbfoaaTotals.lean).
  GIVEN WITH THE SEED: the statements are not yours to turn. If you find one false, say at which input.
  Laid BY PROGRAM, IN A SANDBOX (cutbox-rows.mjs): the forced cells as the released guide's own fill.sh prints them over the translation ad07f2678ae022b8… (all of the seat's roots in one cut). By AI agents, Wed Nov 11 2026. No macro, syntax, notation, axiom, sorry.
-/
import Derived.Test.YtifcfkoohfbfoaaChecked
import GoSem.Claim
import GoSem.ClaimJoined
import GoSem.ClaimMapViews
import Derived.JoinedTies
import Derived.KernelRfl
namespace Go.Proofs.Ytifcfkoohfbfoaa
/- THE CELL 'sum', in the pinned program and in every row, IS THE sha256 OF THE DUMP (.gsa) THAT YtifcfkoohfbfoaaProg.lean LOADS. Nothing in Lean hashes anything: it is a label: what it is worth is what the hold of that sum in a sandbox is worth. -/
noncomputable def Try.pinned : Pinned := { name := "ytifcfkoohfbfoaa", sum := "ad07f2678ae022b8945f968da875d7b9305f8142f7ca8d736ed9752a36bdbdc4", checked := Try.checked }
namespace Rows
def none {H : Type} : Left H := { results := [], args := [] }

/-- 'laws.FnExactModeOf': WHATEVER THE INPUT: true; the input reads as it did. -/
def fnExactModeOfSpec : ChangeSpec := { name := "fnExactModeOf", fn := fun _ => fun
  | [d1, d2, d3] => { results := [.lit (.bool true)], args := [d1, d2, d3] }
  | _ => none }
def fnExactModeOfRow : OpenClaim := { program := "ytifcfkoohfbfoaa", sum := "ad07f2678ae022b8945f968da875d7b9305f8142f7ca8d736ed9752a36bdbdc4", func := "loop.example/g00063/laws.FnExactModeOf", spec := "fnExactModeOf", apart := false }
def FnExactModeOfSaid : Prop := fnExactModeOfRow.holds Try.pinned (OpenSpec.ofChange fnExactModeOfSpec)

/-- ITS FALSE NEIGHBOUR: 'it returns false'. Refute it at one input. -/
def fnExactModeOfWrong : ChangeSpec := { name := "fnExactModeOf", fn := fun _ => fun
  | [d1, d2, d3] => { results := [.lit (.bool false)], args := [d1, d2, d3] }
  | _ => none }
def FnExactModeOfWrongFalsely : Prop := fnExactModeOfRow.holds Try.pinned (OpenSpec.ofChange fnExactModeOfWrong)

/-- 'laws.FnExactTrimTick': WHATEVER THE INPUT: true; the input reads as it did. -/
def fnExactTrimTickSpec : ChangeSpec := { name := "fnExactTrimTick", fn := fun _ => fun
  | [d1, d2, d3] => { results := [.lit (.bool true)], args := [d1, d2, d3] }
  | _ => none }
def fnExactTrimTickRow : OpenClaim := { program := "ytifcfkoohfbfoaa", sum := "ad07f2678ae022b8945f968da875d7b9305f8142f7ca8d736ed9752a36bdbdc4", func := "loop.example/g00063/laws.FnExactTrimTick", spec := "fnExactTrimTick", apart := false }
def FnExactTrimTickSaid : Prop := fnExactTrimTickRow.holds Try.pinned (OpenSpec.ofChange fnExactTrimTickSpec)

/-- ITS FALSE NEIGHBOUR: 'it returns false'. Refute it at one input. -/
def fnExactTrimTickWrong : ChangeSpec := { name := "fnExactTrimTick", fn := fun _ => fun
  | [d1, d2, d3] => { results := [.lit (.bool false)], args := [d1, d2, d3] }
  | _ => none }
def FnExactTrimTickWrongFalsely : Prop := fnExactTrimTickRow.holds Try.pinned (OpenSpec.ofChange fnExactTrimTickWrong)

/-- 'laws.FnMixed': WHATEVER THE INPUT: true; the input reads as it did. -/
def fnMixedSpec : ChangeSpec := { name := "fnMixed", fn := fun _ => fun
  | [d] => { results := [.lit (.bool true)], args := [d] }
  | _ => none }
def fnMixedRow : OpenClaim := { program := "ytifcfkoohfbfoaa", sum := "ad07f2678ae022b8945f968da875d7b9305f8142f7ca8d736ed9752a36bdbdc4", func := "loop.example/g00063/laws.FnMixed", spec := "fnMixed", apart := false }
def FnMixedSaid : Prop := fnMixedRow.holds Try.pinned (OpenSpec.ofChange fnMixedSpec)

/-- ITS FALSE NEIGHBOUR: 'it returns false'. Refute it at one input. -/
def fnMixedWrong : ChangeSpec := { name := "fnMixed", fn := fun _ => fun
  | [d] => { results := [.lit (.bool false)], args := [d] }
  | _ => none }
def FnMixedWrongFalsely : Prop := fnMixedRow.holds Try.pinned (OpenSpec.ofChange fnMixedWrong)

/-- 'laws.FnExactGainOk': WHATEVER THE INPUT: true; the input reads as it did. -/
def fnExactGainOkSpec : ChangeSpec := { name := "fnExactGainOk", fn := fun _ => fun
  | [d] => { results := [.lit (.bool true)], args := [d] }
  | _ => none }
def fnExactGainOkRow : OpenClaim := { program := "ytifcfkoohfbfoaa", sum := "ad07f2678ae022b8945f968da875d7b9305f8142f7ca8d736ed9752a36bdbdc4", func := "loop.example/g00063/laws.FnExactGainOk", spec := "fnExactGainOk", apart := false }
def FnExactGainOkSaid : Prop := fnExactGainOkRow.holds Try.pinned (OpenSpec.ofChange fnExactGainOkSpec)

/-- ITS FALSE NEIGHBOUR: 'it returns false'. Refute it at one input. -/
def fnExactGainOkWrong : ChangeSpec := { name := "fnExactGainOk", fn := fun _ => fun
  | [d] => { results := [.lit (.bool false)], args := [d] }
  | _ => none }
def FnExactGainOkWrongFalsely : Prop := fnExactGainOkRow.holds Try.pinned (OpenSpec.ofChange fnExactGainOkWrong)

/-- 'laws.FnSurface': WHATEVER THE INPUT: true; the input reads as it did. -/
def fnSurfaceSpec : ChangeSpec := { name := "fnSurface", fn := fun _ => fun
  | [d] => { results := [.lit (.bool true)], args := [d] }
  | _ => none }
def fnSurfaceRow : OpenClaim := { program := "ytifcfkoohfbfoaa", sum := "ad07f2678ae022b8945f968da875d7b9305f8142f7ca8d736ed9752a36bdbdc4", func := "loop.example/g00063/laws.FnSurface", spec := "fnSurface", apart := false }
def FnSurfaceSaid : Prop := fnSurfaceRow.holds Try.pinned (OpenSpec.ofChange fnSurfaceSpec)

/-- ITS FALSE NEIGHBOUR: 'it returns false'. Refute it at one input. -/
def fnSurfaceWrong : ChangeSpec := { name := "fnSurface", fn := fun _ => fun
  | [d] => { results := [.lit (.bool false)], args := [d] }
  | _ => none }
def FnSurfaceWrongFalsely : Prop := fnSurfaceRow.holds Try.pinned (OpenSpec.ofChange fnSurfaceWrong)

/-- 'laws.FnExactMix': WHATEVER THE INPUT: true; the input reads as it did. -/
def fnExactMixSpec : ChangeSpec := { name := "fnExactMix", fn := fun _ => fun
  | [d1, d2, d3, d4] => { results := [.lit (.bool true)], args := [d1, d2, d3, d4] }
  | _ => none }
def fnExactMixRow : OpenClaim := { program := "ytifcfkoohfbfoaa", sum := "ad07f2678ae022b8945f968da875d7b9305f8142f7ca8d736ed9752a36bdbdc4", func := "loop.example/g00063/laws.FnExactMix", spec := "fnExactMix", apart := false }
def FnExactMixSaid : Prop := fnExactMixRow.holds Try.pinned (OpenSpec.ofChange fnExactMixSpec)

/-- ITS FALSE NEIGHBOUR: 'it returns false'. Refute it at one input. -/
def fnExactMixWrong : ChangeSpec := { name := "fnExactMix", fn := fun _ => fun
  | [d1, d2, d3, d4] => { results := [.lit (.bool false)], args := [d1, d2, d3, d4] }
  | _ => none }
def FnExactMixWrongFalsely : Prop := fnExactMixRow.holds Try.pinned (OpenSpec.ofChange fnExactMixWrong)

/-- 'laws.FnExactGainAt': WHATEVER THE INPUT: true; the input reads as it did. -/
def fnExactGainAtSpec : ChangeSpec := { name := "fnExactGainAt", fn := fun _ => fun
  | [d1, d2] => { results := [.lit (.bool true)], args := [d1, d2] }
  | _ => none }
def fnExactGainAtRow : OpenClaim := { program := "ytifcfkoohfbfoaa", sum := "ad07f2678ae022b8945f968da875d7b9305f8142f7ca8d736ed9752a36bdbdc4", func := "loop.example/g00063/laws.FnExactGainAt", spec := "fnExactGainAt", apart := false }
def FnExactGainAtSaid : Prop := fnExactGainAtRow.holds Try.pinned (OpenSpec.ofChange fnExactGainAtSpec)

/-- ITS FALSE NEIGHBOUR: 'it returns false'. Refute it at one input. -/
def fnExactGainAtWrong : ChangeSpec := { name := "fnExactGainAt", fn := fun _ => fun
  | [d1, d2] => { results := [.lit (.bool false)], args := [d1, d2] }
  | _ => none }
def FnExactGainAtWrongFalsely : Prop := fnExactGainAtRow.holds Try.pinned (OpenSpec.ofChange fnExactGainAtWrong)

/-- 'laws.FnExactLaw': WHATEVER THE INPUT: true; the input reads as it did. -/
def fnExactLawSpec : ChangeSpec := { name := "fnExactLaw", fn := fun _ => fun
  | [d1, d2, d3, d4, d5] => { results := [.lit (.bool true)], args := [d1, d2, d3, d4, d5] }
  | _ => none }
def fnExactLawRow : OpenClaim := { program := "ytifcfkoohfbfoaa", sum := "ad07f2678ae022b8945f968da875d7b9305f8142f7ca8d736ed9752a36bdbdc4", func := "loop.example/g00063/laws.FnExactLaw", spec := "fnExactLaw", apart := false }
def FnExactLawSaid : Prop := fnExactLawRow.holds Try.pinned (OpenSpec.ofChange fnExactLawSpec)

/-- ITS FALSE NEIGHBOUR: 'it returns false'. Refute it at one input. -/
def fnExactLawWrong : ChangeSpec := { name := "fnExactLaw", fn := fun _ => fun
  | [d1, d2, d3, d4, d5] => { results := [.lit (.bool false)], args := [d1, d2, d3, d4, d5] }
  | _ => none }
def FnExactLawWrongFalsely : Prop := fnExactLawRow.holds Try.pinned (OpenSpec.ofChange fnExactLawWrong)

/- THE SECOND FORM. 'bulk': how many values and letters a reading holds, each counted each time it is reached (what is shared counts as often as it is met; a slice's spare places count too). A statement '..UptoSaid' is the law's where the arguments, and the package variables that the reading takes, are together of bulk at most 1048576: NARROWER than '..Said'. Prove '..Said' where nothing that the law and all that it calls make is longer than what came in: it says more and counts as full. Else prove '..UptoSaid'. A law counts once. -/
mutual
def uptoBulk {H : Type} : DataW H → Nat
  | .lit (.string bytes) => bytes.length + 1
  | .lit _ => 1
  | .nil => 1
  | .ptr d => uptoBulk d + 1
  | .slice elems spare => uptoBulkAll elems + uptoBulkAll spare + 1
  | .agg parts => uptoBulkAll parts + 1
  | .iface _ d => uptoBulk d + 1
  | .map entries => uptoBulkEntries entries + 1
  | .held _ => 1
def uptoBulkAll {H : Type} : List (DataW H) → Nat
  | [] => 0
  | d :: r => uptoBulk d + uptoBulkAll r
def uptoBulkEntries {H : Type} : List (Lit × DataW H) → Nat
  | [] => 0
  | x :: r => uptoBulkEntry x + uptoBulkEntries r
def uptoBulkEntry {H : Type} : Lit × DataW H → Nat
  | (.string bytes, d) => bytes.length + uptoBulk d + 1
  | (_, d) => uptoBulk d + 1
 end
def uptoSmall : (H : Type) → List (DataW H) → Bool := fun _ ds => decide (uptoBulkAll ds ≤ 1048576)
def OpenSpec.upto (s : _root_.Go.ChangeSpec) : _root_.Go.OpenSpec := { _root_.Go.OpenSpec.ofChange s with cond := some uptoSmall }

/-- 'laws.FnExactModeOf', WHERE WHAT IT READS IS OF BULK AT MOST 1048576: true; the input reads as it did. -/
def fnExactModeOfUptoRow : OpenClaim := { program := "ytifcfkoohfbfoaa", sum := "ad07f2678ae022b8945f968da875d7b9305f8142f7ca8d736ed9752a36bdbdc4", func := "loop.example/g00063/laws.FnExactModeOf", spec := "fnExactModeOf", apart := false, narrowed := true }
def FnExactModeOfUptoSaid : Prop := fnExactModeOfUptoRow.holds Try.pinned (OpenSpec.upto fnExactModeOfSpec)

/-- 'laws.FnExactTrimTick', WHERE WHAT IT READS IS OF BULK AT MOST 1048576: true; the input reads as it did. -/
def fnExactTrimTickUptoRow : OpenClaim := { program := "ytifcfkoohfbfoaa", sum := "ad07f2678ae022b8945f968da875d7b9305f8142f7ca8d736ed9752a36bdbdc4", func := "loop.example/g00063/laws.FnExactTrimTick", spec := "fnExactTrimTick", apart := false, narrowed := true }
def FnExactTrimTickUptoSaid : Prop := fnExactTrimTickUptoRow.holds Try.pinned (OpenSpec.upto fnExactTrimTickSpec)

/-- 'laws.FnMixed', WHERE WHAT IT READS IS OF BULK AT MOST 1048576: true; the input reads as it did. -/
def fnMixedUptoRow : OpenClaim := { program := "ytifcfkoohfbfoaa", sum := "ad07f2678ae022b8945f968da875d7b9305f8142f7ca8d736ed9752a36bdbdc4", func := "loop.example/g00063/laws.FnMixed", spec := "fnMixed", apart := false, narrowed := true }
def FnMixedUptoSaid : Prop := fnMixedUptoRow.holds Try.pinned (OpenSpec.upto fnMixedSpec)

/-- 'laws.FnExactGainOk', WHERE WHAT IT READS IS OF BULK AT MOST 1048576: true; the input reads as it did. -/
def fnExactGainOkUptoRow : OpenClaim := { program := "ytifcfkoohfbfoaa", sum := "ad07f2678ae022b8945f968da875d7b9305f8142f7ca8d736ed9752a36bdbdc4", func := "loop.example/g00063/laws.FnExactGainOk", spec := "fnExactGainOk", apart := false, narrowed := true }
def FnExactGainOkUptoSaid : Prop := fnExactGainOkUptoRow.holds Try.pinned (OpenSpec.upto fnExactGainOkSpec)

/-- 'laws.FnSurface', WHERE WHAT IT READS IS OF BULK AT MOST 1048576: true; the input reads as it did. -/
def fnSurfaceUptoRow : OpenClaim := { program := "ytifcfkoohfbfoaa", sum := "ad07f2678ae022b8945f968da875d7b9305f8142f7ca8d736ed9752a36bdbdc4", func := "loop.example/g00063/laws.FnSurface", spec := "fnSurface", apart := false, narrowed := true }
def FnSurfaceUptoSaid : Prop := fnSurfaceUptoRow.holds Try.pinned (OpenSpec.upto fnSurfaceSpec)

/-- 'laws.FnExactMix', WHERE WHAT IT READS IS OF BULK AT MOST 1048576: true; the input reads as it did. -/
def fnExactMixUptoRow : OpenClaim := { program := "ytifcfkoohfbfoaa", sum := "ad07f2678ae022b8945f968da875d7b9305f8142f7ca8d736ed9752a36bdbdc4", func := "loop.example/g00063/laws.FnExactMix", spec := "fnExactMix", apart := false, narrowed := true }
def FnExactMixUptoSaid : Prop := fnExactMixUptoRow.holds Try.pinned (OpenSpec.upto fnExactMixSpec)

/-- 'laws.FnExactGainAt', WHERE WHAT IT READS IS OF BULK AT MOST 1048576: true; the input reads as it did. -/
def fnExactGainAtUptoRow : OpenClaim := { program := "ytifcfkoohfbfoaa", sum := "ad07f2678ae022b8945f968da875d7b9305f8142f7ca8d736ed9752a36bdbdc4", func := "loop.example/g00063/laws.FnExactGainAt", spec := "fnExactGainAt", apart := false, narrowed := true }
def FnExactGainAtUptoSaid : Prop := fnExactGainAtUptoRow.holds Try.pinned (OpenSpec.upto fnExactGainAtSpec)

/-- 'laws.FnExactLaw', WHERE WHAT IT READS IS OF BULK AT MOST 1048576: true; the input reads as it did. -/
def fnExactLawUptoRow : OpenClaim := { program := "ytifcfkoohfbfoaa", sum := "ad07f2678ae022b8945f968da875d7b9305f8142f7ca8d736ed9752a36bdbdc4", func := "loop.example/g00063/laws.FnExactLaw", spec := "fnExactLaw", apart := false, narrowed := true }
def FnExactLawUptoSaid : Prop := fnExactLawUptoRow.holds Try.pinned (OpenSpec.upto fnExactLawSpec)

end Rows
end Go.Proofs.Ytifcfkoohfbfoaa
