/-
  No cell of these rows narrows 'for every input' (looked for: loops, veiled, ifaces, maps, wideKeys, modest, calm, conditions, laid).
  DERIVED. THE GIVEN ROWS OF THIS SEAT. 8 by the template 'for every input the law returns true; each argument reads behind the call as it read before'; 0 by the template 'total and deterministic' (their statements: YtfjpmakmgcngiaaTotals.lean).
  GIVEN WITH THE SEED: the statements are not yours to turn. If you find one false, say at which input.
  Laid BY PROGRAM, IN A SANDBOX (cutbox-rows.mjs): the forced cells as the released guide's own fill.sh prints them over the translation f51202b6dd8fc3eb… (all of the seat's roots in one cut). By AI agents, Wed Nov 11 2026. No macro, syntax, notation, axiom, sorry.
-/
import Derived.Test.YtfjpmakmgcngiaaChecked
import GoSem.Claim
import GoSem.ClaimJoined
import GoSem.ClaimMapViews
import Derived.JoinedTies
import Derived.KernelRfl
namespace Go.Proofs.Ytfjpmakmgcngiaa
/- THE CELL 'sum', in the pinned program and in every row, IS THE sha256 OF THE DUMP (.gsa) THAT YtfjpmakmgcngiaaProg.lean LOADS. Nothing in Lean hashes anything: it is a label: what it is worth is what the hold of that sum in a sandbox is worth. -/
noncomputable def Try.pinned : Pinned := { name := "ytfjpmakmgcngiaa", sum := "f51202b6dd8fc3eb331c1477d195b315b33bd2f5bb549a2957514f7e66b8d4dd", checked := Try.checked }
namespace Rows
def none {H : Type} : Left H := { results := [], args := [] }

/-- 'laws.FnExactBeside': WHATEVER THE INPUT: true; the input reads as it did. -/
def fnExactBesideSpec : ChangeSpec := { name := "fnExactBeside", fn := fun _ => fun
  | [d1, d2, d3] => { results := [.lit (.bool true)], args := [d1, d2, d3] }
  | _ => none }
def fnExactBesideRow : OpenClaim := { program := "ytfjpmakmgcngiaa", sum := "f51202b6dd8fc3eb331c1477d195b315b33bd2f5bb549a2957514f7e66b8d4dd", func := "loop.example/g00063/laws.FnExactBeside", spec := "fnExactBeside", apart := false }
def FnExactBesideSaid : Prop := fnExactBesideRow.holds Try.pinned (OpenSpec.ofChange fnExactBesideSpec)

/-- ITS FALSE NEIGHBOUR: 'it returns false'. Refute it at one input. -/
def fnExactBesideWrong : ChangeSpec := { name := "fnExactBeside", fn := fun _ => fun
  | [d1, d2, d3] => { results := [.lit (.bool false)], args := [d1, d2, d3] }
  | _ => none }
def FnExactBesideWrongFalsely : Prop := fnExactBesideRow.holds Try.pinned (OpenSpec.ofChange fnExactBesideWrong)

/-- 'laws.FnExactMisfit': WHATEVER THE INPUT: true; the input reads as it did. -/
def fnExactMisfitSpec : ChangeSpec := { name := "fnExactMisfit", fn := fun _ => fun
  | [d1, d2] => { results := [.lit (.bool true)], args := [d1, d2] }
  | _ => none }
def fnExactMisfitRow : OpenClaim := { program := "ytfjpmakmgcngiaa", sum := "f51202b6dd8fc3eb331c1477d195b315b33bd2f5bb549a2957514f7e66b8d4dd", func := "loop.example/g00063/laws.FnExactMisfit", spec := "fnExactMisfit", apart := false }
def FnExactMisfitSaid : Prop := fnExactMisfitRow.holds Try.pinned (OpenSpec.ofChange fnExactMisfitSpec)

/-- ITS FALSE NEIGHBOUR: 'it returns false'. Refute it at one input. -/
def fnExactMisfitWrong : ChangeSpec := { name := "fnExactMisfit", fn := fun _ => fun
  | [d1, d2] => { results := [.lit (.bool false)], args := [d1, d2] }
  | _ => none }
def FnExactMisfitWrongFalsely : Prop := fnExactMisfitRow.holds Try.pinned (OpenSpec.ofChange fnExactMisfitWrong)

/-- 'laws.FnExactBlend': WHATEVER THE INPUT: true; the input reads as it did. -/
def fnExactBlendSpec : ChangeSpec := { name := "fnExactBlend", fn := fun _ => fun
  | [d1, d2, d3] => { results := [.lit (.bool true)], args := [d1, d2, d3] }
  | _ => none }
def fnExactBlendRow : OpenClaim := { program := "ytfjpmakmgcngiaa", sum := "f51202b6dd8fc3eb331c1477d195b315b33bd2f5bb549a2957514f7e66b8d4dd", func := "loop.example/g00063/laws.FnExactBlend", spec := "fnExactBlend", apart := false }
def FnExactBlendSaid : Prop := fnExactBlendRow.holds Try.pinned (OpenSpec.ofChange fnExactBlendSpec)

/-- ITS FALSE NEIGHBOUR: 'it returns false'. Refute it at one input. -/
def fnExactBlendWrong : ChangeSpec := { name := "fnExactBlend", fn := fun _ => fun
  | [d1, d2, d3] => { results := [.lit (.bool false)], args := [d1, d2, d3] }
  | _ => none }
def FnExactBlendWrongFalsely : Prop := fnExactBlendRow.holds Try.pinned (OpenSpec.ofChange fnExactBlendWrong)

/-- 'laws.FnInertial': WHATEVER THE INPUT: true; the input reads as it did. -/
def fnInertialSpec : ChangeSpec := { name := "fnInertial", fn := fun _ => fun
  | [d] => { results := [.lit (.bool true)], args := [d] }
  | _ => none }
def fnInertialRow : OpenClaim := { program := "ytfjpmakmgcngiaa", sum := "f51202b6dd8fc3eb331c1477d195b315b33bd2f5bb549a2957514f7e66b8d4dd", func := "loop.example/g00063/laws.FnInertial", spec := "fnInertial", unfollowed := true, recurses := true, apart := false }
def FnInertialSaid : Prop := fnInertialRow.holds Try.pinned (OpenSpec.ofChange fnInertialSpec)

/-- ITS FALSE NEIGHBOUR: 'it returns false'. Refute it at one input. -/
def fnInertialWrong : ChangeSpec := { name := "fnInertial", fn := fun _ => fun
  | [d] => { results := [.lit (.bool false)], args := [d] }
  | _ => none }
def FnInertialWrongFalsely : Prop := fnInertialRow.holds Try.pinned (OpenSpec.ofChange fnInertialWrong)

/-- 'laws.FnExactInertial': WHATEVER THE INPUT: true; the input reads as it did. -/
def fnExactInertialSpec : ChangeSpec := { name := "fnExactInertial", fn := fun _ => fun
  | [d1, d2] => { results := [.lit (.bool true)], args := [d1, d2] }
  | _ => none }
def fnExactInertialRow : OpenClaim := { program := "ytfjpmakmgcngiaa", sum := "f51202b6dd8fc3eb331c1477d195b315b33bd2f5bb549a2957514f7e66b8d4dd", func := "loop.example/g00063/laws.FnExactInertial", spec := "fnExactInertial", unfollowed := true, recurses := true, apart := false }
def FnExactInertialSaid : Prop := fnExactInertialRow.holds Try.pinned (OpenSpec.ofChange fnExactInertialSpec)

/-- ITS FALSE NEIGHBOUR: 'it returns false'. Refute it at one input. -/
def fnExactInertialWrong : ChangeSpec := { name := "fnExactInertial", fn := fun _ => fun
  | [d1, d2] => { results := [.lit (.bool false)], args := [d1, d2] }
  | _ => none }
def FnExactInertialWrongFalsely : Prop := fnExactInertialRow.holds Try.pinned (OpenSpec.ofChange fnExactInertialWrong)

/-- 'laws.FnExactLocate': WHATEVER THE INPUT: true; the input reads as it did. -/
def fnExactLocateSpec : ChangeSpec := { name := "fnExactLocate", fn := fun _ => fun
  | [d1, d2] => { results := [.lit (.bool true)], args := [d1, d2] }
  | _ => none }
def fnExactLocateRow : OpenClaim := { program := "ytfjpmakmgcngiaa", sum := "f51202b6dd8fc3eb331c1477d195b315b33bd2f5bb549a2957514f7e66b8d4dd", func := "loop.example/g00063/laws.FnExactLocate", spec := "fnExactLocate", unfollowed := true, recurses := true, apart := false }
def FnExactLocateSaid : Prop := fnExactLocateRow.holds Try.pinned (OpenSpec.ofChange fnExactLocateSpec)

/-- ITS FALSE NEIGHBOUR: 'it returns false'. Refute it at one input. -/
def fnExactLocateWrong : ChangeSpec := { name := "fnExactLocate", fn := fun _ => fun
  | [d1, d2] => { results := [.lit (.bool false)], args := [d1, d2] }
  | _ => none }
def FnExactLocateWrongFalsely : Prop := fnExactLocateRow.holds Try.pinned (OpenSpec.ofChange fnExactLocateWrong)

/-- 'laws.FnHeard': WHATEVER THE INPUT: true; the input reads as it did. -/
def fnHeardSpec : ChangeSpec := { name := "fnHeard", fn := fun _ => fun
  | [d] => { results := [.lit (.bool true)], args := [d] }
  | _ => none }
def fnHeardRow : OpenClaim := { program := "ytfjpmakmgcngiaa", sum := "f51202b6dd8fc3eb331c1477d195b315b33bd2f5bb549a2957514f7e66b8d4dd", func := "loop.example/g00063/laws.FnHeard", spec := "fnHeard", unfollowed := true, recurses := true, apart := false }
def FnHeardSaid : Prop := fnHeardRow.holds Try.pinned (OpenSpec.ofChange fnHeardSpec)

/-- ITS FALSE NEIGHBOUR: 'it returns false'. Refute it at one input. -/
def fnHeardWrong : ChangeSpec := { name := "fnHeard", fn := fun _ => fun
  | [d] => { results := [.lit (.bool false)], args := [d] }
  | _ => none }
def FnHeardWrongFalsely : Prop := fnHeardRow.holds Try.pinned (OpenSpec.ofChange fnHeardWrong)

/-- 'laws.FnExactLeaveOut': WHATEVER THE INPUT: true; the input reads as it did. -/
def fnExactLeaveOutSpec : ChangeSpec := { name := "fnExactLeaveOut", fn := fun _ => fun
  | [d1, d2] => { results := [.lit (.bool true)], args := [d1, d2] }
  | _ => none }
def fnExactLeaveOutRow : OpenClaim := { program := "ytfjpmakmgcngiaa", sum := "f51202b6dd8fc3eb331c1477d195b315b33bd2f5bb549a2957514f7e66b8d4dd", func := "loop.example/g00063/laws.FnExactLeaveOut", spec := "fnExactLeaveOut", unfollowed := true, recurses := true, apart := false }
def FnExactLeaveOutSaid : Prop := fnExactLeaveOutRow.holds Try.pinned (OpenSpec.ofChange fnExactLeaveOutSpec)

/-- ITS FALSE NEIGHBOUR: 'it returns false'. Refute it at one input. -/
def fnExactLeaveOutWrong : ChangeSpec := { name := "fnExactLeaveOut", fn := fun _ => fun
  | [d1, d2] => { results := [.lit (.bool false)], args := [d1, d2] }
  | _ => none }
def FnExactLeaveOutWrongFalsely : Prop := fnExactLeaveOutRow.holds Try.pinned (OpenSpec.ofChange fnExactLeaveOutWrong)

/- THE SECOND FORM. 'bulk': how many values and letters a reading holds, each counted each time it is reached (what is shared counts as often as it is met; a slice's spare places count too). A statement '..UptoSaid' is the law's where the arguments, and the package variables that the reading takes, are together of bulk at most 1048576: NARROWER than '..Said'. Prove '..Said' where nothing that the law and all that it calls make is longer than what came in: it says more and counts as full. Else prove '..UptoSaid'. A law counts once. -/
mutual
def uptoBulk {H : Type} : DataW H → Nat
  | .lit (.string bytes) => bytes.length + 1
  | .lit _ => 1
  | .nil => 1
  | .ptr d => uptoBulk d + 1
  | .slice elems spare => uptoBulkAll elems + uptoBulkAll spare + 1
  | .agg parts => uptoBulkAll parts + 1
  | .iface _ d => uptoBulk d + 1
  | .map entries => uptoBulkEntries entries + 1
  | .held _ => 1
def uptoBulkAll {H : Type} : List (DataW H) → Nat
  | [] => 0
  | d :: r => uptoBulk d + uptoBulkAll r
def uptoBulkEntries {H : Type} : List (Lit × DataW H) → Nat
  | [] => 0
  | x :: r => uptoBulkEntry x + uptoBulkEntries r
def uptoBulkEntry {H : Type} : Lit × DataW H → Nat
  | (.string bytes, d) => bytes.length + uptoBulk d + 1
  | (_, d) => uptoBulk d + 1
 end
def uptoSmall : (H : Type) → List (DataW H) → Bool := fun _ ds => decide (uptoBulkAll ds ≤ 1048576)
def OpenSpec.upto (s : _root_.Go.ChangeSpec) : _root_.Go.OpenSpec := { _root_.Go.OpenSpec.ofChange s with cond := some uptoSmall }

/-- 'laws.FnExactBeside', WHERE WHAT IT READS IS OF BULK AT MOST 1048576: true; the input reads as it did. -/
def fnExactBesideUptoRow : OpenClaim := { program := "ytfjpmakmgcngiaa", sum := "f51202b6dd8fc3eb331c1477d195b315b33bd2f5bb549a2957514f7e66b8d4dd", func := "loop.example/g00063/laws.FnExactBeside", spec := "fnExactBeside", apart := false, narrowed := true }
def FnExactBesideUptoSaid : Prop := fnExactBesideUptoRow.holds Try.pinned (OpenSpec.upto fnExactBesideSpec)

/-- 'laws.FnExactMisfit', WHERE WHAT IT READS IS OF BULK AT MOST 1048576: true; the input reads as it did. -/
def fnExactMisfitUptoRow : OpenClaim := { program := "ytfjpmakmgcngiaa", sum := "f51202b6dd8fc3eb331c1477d195b315b33bd2f5bb549a2957514f7e66b8d4dd", func := "loop.example/g00063/laws.FnExactMisfit", spec := "fnExactMisfit", apart := false, narrowed := true }
def FnExactMisfitUptoSaid : Prop := fnExactMisfitUptoRow.holds Try.pinned (OpenSpec.upto fnExactMisfitSpec)

/-- 'laws.FnExactBlend', WHERE WHAT IT READS IS OF BULK AT MOST 1048576: true; the input reads as it did. -/
def fnExactBlendUptoRow : OpenClaim := { program := "ytfjpmakmgcngiaa", sum := "f51202b6dd8fc3eb331c1477d195b315b33bd2f5bb549a2957514f7e66b8d4dd", func := "loop.example/g00063/laws.FnExactBlend", spec := "fnExactBlend", apart := false, narrowed := true }
def FnExactBlendUptoSaid : Prop := fnExactBlendUptoRow.holds Try.pinned (OpenSpec.upto fnExactBlendSpec)

/-- 'laws.FnInertial', WHERE WHAT IT READS IS OF BULK AT MOST 1048576: true; the input reads as it did. -/
def fnInertialUptoRow : OpenClaim := { program := "ytfjpmakmgcngiaa", sum := "f51202b6dd8fc3eb331c1477d195b315b33bd2f5bb549a2957514f7e66b8d4dd", func := "loop.example/g00063/laws.FnInertial", spec := "fnInertial", unfollowed := true, recurses := true, apart := false, narrowed := true }
def FnInertialUptoSaid : Prop := fnInertialUptoRow.holds Try.pinned (OpenSpec.upto fnInertialSpec)

/-- 'laws.FnExactInertial', WHERE WHAT IT READS IS OF BULK AT MOST 1048576: true; the input reads as it did. -/
def fnExactInertialUptoRow : OpenClaim := { program := "ytfjpmakmgcngiaa", sum := "f51202b6dd8fc3eb331c1477d195b315b33bd2f5bb549a2957514f7e66b8d4dd", func := "loop.example/g00063/laws.FnExactInertial", spec := "fnExactInertial", unfollowed := true, recurses := true, apart := false, narrowed := true }
def FnExactInertialUptoSaid : Prop := fnExactInertialUptoRow.holds Try.pinned (OpenSpec.upto fnExactInertialSpec)

/-- 'laws.FnExactLocate', WHERE WHAT IT READS IS OF BULK AT MOST 1048576: true; the input reads as it did. -/
def fnExactLocateUptoRow : OpenClaim := { program := "ytfjpmakmgcngiaa", sum := "f51202b6dd8fc3eb331c1477d195b315b33bd2f5bb549a2957514f7e66b8d4dd", func := "loop.example/g00063/laws.FnExactLocate", spec := "fnExactLocate", unfollowed := true, recurses := true, apart := false, narrowed := true }
def FnExactLocateUptoSaid : Prop := fnExactLocateUptoRow.holds Try.pinned (OpenSpec.upto fnExactLocateSpec)

/-- 'laws.FnHeard', WHERE WHAT IT READS IS OF BULK AT MOST 1048576: true; the input reads as it did. -/
def fnHeardUptoRow : OpenClaim := { program := "ytfjpmakmgcngiaa", sum := "f51202b6dd8fc3eb331c1477d195b315b33bd2f5bb549a2957514f7e66b8d4dd", func := "loop.example/g00063/laws.FnHeard", spec := "fnHeard", unfollowed := true, recurses := true, apart := false, narrowed := true }
def FnHeardUptoSaid : Prop := fnHeardUptoRow.holds Try.pinned (OpenSpec.upto fnHeardSpec)

/-- 'laws.FnExactLeaveOut', WHERE WHAT IT READS IS OF BULK AT MOST 1048576: true; the input reads as it did. -/
def fnExactLeaveOutUptoRow : OpenClaim := { program := "ytfjpmakmgcngiaa", sum := "f51202b6dd8fc3eb331c1477d195b315b33bd2f5bb549a2957514f7e66b8d4dd", func := "loop.example/g00063/laws.FnExactLeaveOut", spec := "fnExactLeaveOut", unfollowed := true, recurses := true, apart := false, narrowed := true }
def FnExactLeaveOutUptoSaid : Prop := fnExactLeaveOutUptoRow.holds Try.pinned (OpenSpec.upto fnExactLeaveOutSpec)

end Rows
end Go.Proofs.Ytfjpmakmgcngiaa
