/-
  No cell of these rows narrows 'for every input' (looked for: loops, veiled, ifaces, maps, wideKeys, modest, calm, conditions, laid).
  DERIVED. THE GIVEN ROWS OF THIS SEAT. 9 by the template 'for every input the law returns true; each argument reads behind the call as it read before'; 0 by the template 'total and deterministic' (their statements: YtmhddkjiaiifmaaTotals.lean).
  GIVEN WITH THE SEED: the statements are not yours to turn. If you find one false, say at which input.
  Laid BY PROGRAM, IN A SANDBOX (cutbox-rows.mjs): the forced cells as the released guide's own fill.sh prints them over the translation d2dd1297c2db7efe… (all of the seat's roots in one cut). By AI agents, Wed Nov 11 2026. No macro, syntax, notation, axiom, sorry.
-/
import Derived.Test.YtmhddkjiaiifmaaChecked
import GoSem.Claim
import GoSem.ClaimJoined
import GoSem.ClaimMapViews
import Derived.JoinedTies
import Derived.KernelRfl
namespace Go.Proofs.Ytmhddkjiaiifmaa
/- THE CELL 'sum', in the pinned program and in every row, IS THE sha256 OF THE DUMP (.gsa) THAT YtmhddkjiaiifmaaProg.lean LOADS. Nothing in Lean hashes anything: it is a label: what it is worth is what the hold of that sum in a sandbox is worth. -/
noncomputable def Try.pinned : Pinned := { name := "ytmhddkjiaiifmaa", sum := "d2dd1297c2db7efec9efaad0a6c38bd9c8c3719756f7960dff11108eee41afba", checked := Try.checked }
namespace Rows
def none {H : Type} : Left H := { results := [], args := [] }

/-- 'laws.FnExactMonitor': WHATEVER THE INPUT: true; the input reads as it did. -/
def fnExactMonitorSpec : ChangeSpec := { name := "fnExactMonitor", fn := fun _ => fun
  | [d1, d2, d3, d4] => { results := [.lit (.bool true)], args := [d1, d2, d3, d4] }
  | _ => none }
def fnExactMonitorRow : OpenClaim := { program := "ytmhddkjiaiifmaa", sum := "d2dd1297c2db7efec9efaad0a6c38bd9c8c3719756f7960dff11108eee41afba", func := "loop.example/g00063/laws.FnExactMonitor", spec := "fnExactMonitor", apart := false }
def FnExactMonitorSaid : Prop := fnExactMonitorRow.holds Try.pinned (OpenSpec.ofChange fnExactMonitorSpec)

/-- ITS FALSE NEIGHBOUR: 'it returns false'. Refute it at one input. -/
def fnExactMonitorWrong : ChangeSpec := { name := "fnExactMonitor", fn := fun _ => fun
  | [d1, d2, d3, d4] => { results := [.lit (.bool false)], args := [d1, d2, d3, d4] }
  | _ => none }
def FnExactMonitorWrongFalsely : Prop := fnExactMonitorRow.holds Try.pinned (OpenSpec.ofChange fnExactMonitorWrong)

/-- 'laws.FnVoted': WHATEVER THE INPUT: true; the input reads as it did. -/
def fnVotedSpec : ChangeSpec := { name := "fnVoted", fn := fun _ => fun
  | [d] => { results := [.lit (.bool true)], args := [d] }
  | _ => none }
def fnVotedRow : OpenClaim := { program := "ytmhddkjiaiifmaa", sum := "d2dd1297c2db7efec9efaad0a6c38bd9c8c3719756f7960dff11108eee41afba", func := "loop.example/g00063/laws.FnVoted", spec := "fnVoted", recurses := true, apart := false }
def FnVotedSaid : Prop := fnVotedRow.holds Try.pinned (OpenSpec.ofChange fnVotedSpec)

/-- ITS FALSE NEIGHBOUR: 'it returns false'. Refute it at one input. -/
def fnVotedWrong : ChangeSpec := { name := "fnVoted", fn := fun _ => fun
  | [d] => { results := [.lit (.bool false)], args := [d] }
  | _ => none }
def FnVotedWrongFalsely : Prop := fnVotedRow.holds Try.pinned (OpenSpec.ofChange fnVotedWrong)

/-- 'laws.FnExactFight': WHATEVER THE INPUT: true; the input reads as it did. -/
def fnExactFightSpec : ChangeSpec := { name := "fnExactFight", fn := fun _ => fun
  | [d1, d2] => { results := [.lit (.bool true)], args := [d1, d2] }
  | _ => none }
def fnExactFightRow : OpenClaim := { program := "ytmhddkjiaiifmaa", sum := "d2dd1297c2db7efec9efaad0a6c38bd9c8c3719756f7960dff11108eee41afba", func := "loop.example/g00063/laws.FnExactFight", spec := "fnExactFight", apart := false }
def FnExactFightSaid : Prop := fnExactFightRow.holds Try.pinned (OpenSpec.ofChange fnExactFightSpec)

/-- ITS FALSE NEIGHBOUR: 'it returns false'. Refute it at one input. -/
def fnExactFightWrong : ChangeSpec := { name := "fnExactFight", fn := fun _ => fun
  | [d1, d2] => { results := [.lit (.bool false)], args := [d1, d2] }
  | _ => none }
def FnExactFightWrongFalsely : Prop := fnExactFightRow.holds Try.pinned (OpenSpec.ofChange fnExactFightWrong)

/-- 'laws.FnExactVoterOk': WHATEVER THE INPUT: true; the input reads as it did. -/
def fnExactVoterOkSpec : ChangeSpec := { name := "fnExactVoterOk", fn := fun _ => fun
  | [d] => { results := [.lit (.bool true)], args := [d] }
  | _ => none }
def fnExactVoterOkRow : OpenClaim := { program := "ytmhddkjiaiifmaa", sum := "d2dd1297c2db7efec9efaad0a6c38bd9c8c3719756f7960dff11108eee41afba", func := "loop.example/g00063/laws.FnExactVoterOk", spec := "fnExactVoterOk", apart := false }
def FnExactVoterOkSaid : Prop := fnExactVoterOkRow.holds Try.pinned (OpenSpec.ofChange fnExactVoterOkSpec)

/-- ITS FALSE NEIGHBOUR: 'it returns false'. Refute it at one input. -/
def fnExactVoterOkWrong : ChangeSpec := { name := "fnExactVoterOk", fn := fun _ => fun
  | [d] => { results := [.lit (.bool false)], args := [d] }
  | _ => none }
def FnExactVoterOkWrongFalsely : Prop := fnExactVoterOkRow.holds Try.pinned (OpenSpec.ofChange fnExactVoterOkWrong)

/-- 'laws.FnForces': WHATEVER THE INPUT: true; the input reads as it did. -/
def fnForcesSpec : ChangeSpec := { name := "fnForces", fn := fun _ => fun
  | [d] => { results := [.lit (.bool true)], args := [d] }
  | _ => none }
def fnForcesRow : OpenClaim := { program := "ytmhddkjiaiifmaa", sum := "d2dd1297c2db7efec9efaad0a6c38bd9c8c3719756f7960dff11108eee41afba", func := "loop.example/g00063/laws.FnForces", spec := "fnForces", apart := false }
def FnForcesSaid : Prop := fnForcesRow.holds Try.pinned (OpenSpec.ofChange fnForcesSpec)

/-- ITS FALSE NEIGHBOUR: 'it returns false'. Refute it at one input. -/
def fnForcesWrong : ChangeSpec := { name := "fnForces", fn := fun _ => fun
  | [d] => { results := [.lit (.bool false)], args := [d] }
  | _ => none }
def FnForcesWrongFalsely : Prop := fnForcesRow.holds Try.pinned (OpenSpec.ofChange fnForcesWrong)

/-- 'laws.FnExactFresh': WHATEVER THE INPUT: true; the input reads as it did. -/
def fnExactFreshSpec : ChangeSpec := { name := "fnExactFresh", fn := fun _ => fun
  | [d1, d2, d3] => { results := [.lit (.bool true)], args := [d1, d2, d3] }
  | _ => none }
def fnExactFreshRow : OpenClaim := { program := "ytmhddkjiaiifmaa", sum := "d2dd1297c2db7efec9efaad0a6c38bd9c8c3719756f7960dff11108eee41afba", func := "loop.example/g00063/laws.FnExactFresh", spec := "fnExactFresh", apart := false }
def FnExactFreshSaid : Prop := fnExactFreshRow.holds Try.pinned (OpenSpec.ofChange fnExactFreshSpec)

/-- ITS FALSE NEIGHBOUR: 'it returns false'. Refute it at one input. -/
def fnExactFreshWrong : ChangeSpec := { name := "fnExactFresh", fn := fun _ => fun
  | [d1, d2, d3] => { results := [.lit (.bool false)], args := [d1, d2, d3] }
  | _ => none }
def FnExactFreshWrongFalsely : Prop := fnExactFreshRow.holds Try.pinned (OpenSpec.ofChange fnExactFreshWrong)

/-- 'laws.FnExactTwoAlike': WHATEVER THE INPUT: true; the input reads as it did. -/
def fnExactTwoAlikeSpec : ChangeSpec := { name := "fnExactTwoAlike", fn := fun _ => fun
  | [d1, d2] => { results := [.lit (.bool true)], args := [d1, d2] }
  | _ => none }
def fnExactTwoAlikeRow : OpenClaim := { program := "ytmhddkjiaiifmaa", sum := "d2dd1297c2db7efec9efaad0a6c38bd9c8c3719756f7960dff11108eee41afba", func := "loop.example/g00063/laws.FnExactTwoAlike", spec := "fnExactTwoAlike", recurses := true, apart := false }
def FnExactTwoAlikeSaid : Prop := fnExactTwoAlikeRow.holds Try.pinned (OpenSpec.ofChange fnExactTwoAlikeSpec)

/-- ITS FALSE NEIGHBOUR: 'it returns false'. Refute it at one input. -/
def fnExactTwoAlikeWrong : ChangeSpec := { name := "fnExactTwoAlike", fn := fun _ => fun
  | [d1, d2] => { results := [.lit (.bool false)], args := [d1, d2] }
  | _ => none }
def FnExactTwoAlikeWrongFalsely : Prop := fnExactTwoAlikeRow.holds Try.pinned (OpenSpec.ofChange fnExactTwoAlikeWrong)

/-- 'laws.FnExactVote': WHATEVER THE INPUT: true; the input reads as it did. -/
def fnExactVoteSpec : ChangeSpec := { name := "fnExactVote", fn := fun _ => fun
  | [d1, d2] => { results := [.lit (.bool true)], args := [d1, d2] }
  | _ => none }
def fnExactVoteRow : OpenClaim := { program := "ytmhddkjiaiifmaa", sum := "d2dd1297c2db7efec9efaad0a6c38bd9c8c3719756f7960dff11108eee41afba", func := "loop.example/g00063/laws.FnExactVote", spec := "fnExactVote", recurses := true, apart := false }
def FnExactVoteSaid : Prop := fnExactVoteRow.holds Try.pinned (OpenSpec.ofChange fnExactVoteSpec)

/-- ITS FALSE NEIGHBOUR: 'it returns false'. Refute it at one input. -/
def fnExactVoteWrong : ChangeSpec := { name := "fnExactVote", fn := fun _ => fun
  | [d1, d2] => { results := [.lit (.bool false)], args := [d1, d2] }
  | _ => none }
def FnExactVoteWrongFalsely : Prop := fnExactVoteRow.holds Try.pinned (OpenSpec.ofChange fnExactVoteWrong)

/-- 'laws.FnExactVotes': WHATEVER THE INPUT: true; the input reads as it did. -/
def fnExactVotesSpec : ChangeSpec := { name := "fnExactVotes", fn := fun _ => fun
  | [d1, d2] => { results := [.lit (.bool true)], args := [d1, d2] }
  | _ => none }
def fnExactVotesRow : OpenClaim := { program := "ytmhddkjiaiifmaa", sum := "d2dd1297c2db7efec9efaad0a6c38bd9c8c3719756f7960dff11108eee41afba", func := "loop.example/g00063/laws.FnExactVotes", spec := "fnExactVotes", recurses := true, apart := false }
def FnExactVotesSaid : Prop := fnExactVotesRow.holds Try.pinned (OpenSpec.ofChange fnExactVotesSpec)

/-- ITS FALSE NEIGHBOUR: 'it returns false'. Refute it at one input. -/
def fnExactVotesWrong : ChangeSpec := { name := "fnExactVotes", fn := fun _ => fun
  | [d1, d2] => { results := [.lit (.bool false)], args := [d1, d2] }
  | _ => none }
def FnExactVotesWrongFalsely : Prop := fnExactVotesRow.holds Try.pinned (OpenSpec.ofChange fnExactVotesWrong)

/- THE SECOND FORM. 'bulk': how many values and letters a reading holds, each counted each time it is reached (what is shared counts as often as it is met; a slice's spare places count too). A statement '..UptoSaid' is the law's where the arguments, and the package variables that the reading takes, are together of bulk at most 1048576: NARROWER than '..Said'. Prove '..Said' where nothing that the law and all that it calls make is longer than what came in: it says more and counts as full. Else prove '..UptoSaid'. A law counts once. -/
mutual
def uptoBulk {H : Type} : DataW H → Nat
  | .lit (.string bytes) => bytes.length + 1
  | .lit _ => 1
  | .nil => 1
  | .ptr d => uptoBulk d + 1
  | .slice elems spare => uptoBulkAll elems + uptoBulkAll spare + 1
  | .agg parts => uptoBulkAll parts + 1
  | .iface _ d => uptoBulk d + 1
  | .map entries => uptoBulkEntries entries + 1
  | .held _ => 1
def uptoBulkAll {H : Type} : List (DataW H) → Nat
  | [] => 0
  | d :: r => uptoBulk d + uptoBulkAll r
def uptoBulkEntries {H : Type} : List (Lit × DataW H) → Nat
  | [] => 0
  | x :: r => uptoBulkEntry x + uptoBulkEntries r
def uptoBulkEntry {H : Type} : Lit × DataW H → Nat
  | (.string bytes, d) => bytes.length + uptoBulk d + 1
  | (_, d) => uptoBulk d + 1
 end
def uptoSmall : (H : Type) → List (DataW H) → Bool := fun _ ds => decide (uptoBulkAll ds ≤ 1048576)
def OpenSpec.upto (s : _root_.Go.ChangeSpec) : _root_.Go.OpenSpec := { _root_.Go.OpenSpec.ofChange s with cond := some uptoSmall }

/-- 'laws.FnExactMonitor', WHERE WHAT IT READS IS OF BULK AT MOST 1048576: true; the input reads as it did. -/
def fnExactMonitorUptoRow : OpenClaim := { program := "ytmhddkjiaiifmaa", sum := "d2dd1297c2db7efec9efaad0a6c38bd9c8c3719756f7960dff11108eee41afba", func := "loop.example/g00063/laws.FnExactMonitor", spec := "fnExactMonitor", apart := false, narrowed := true }
def FnExactMonitorUptoSaid : Prop := fnExactMonitorUptoRow.holds Try.pinned (OpenSpec.upto fnExactMonitorSpec)

/-- 'laws.FnVoted', WHERE WHAT IT READS IS OF BULK AT MOST 1048576: true; the input reads as it did. -/
def fnVotedUptoRow : OpenClaim := { program := "ytmhddkjiaiifmaa", sum := "d2dd1297c2db7efec9efaad0a6c38bd9c8c3719756f7960dff11108eee41afba", func := "loop.example/g00063/laws.FnVoted", spec := "fnVoted", recurses := true, apart := false, narrowed := true }
def FnVotedUptoSaid : Prop := fnVotedUptoRow.holds Try.pinned (OpenSpec.upto fnVotedSpec)

/-- 'laws.FnExactFight', WHERE WHAT IT READS IS OF BULK AT MOST 1048576: true; the input reads as it did. -/
def fnExactFightUptoRow : OpenClaim := { program := "ytmhddkjiaiifmaa", sum := "d2dd1297c2db7efec9efaad0a6c38bd9c8c3719756f7960dff11108eee41afba", func := "loop.example/g00063/laws.FnExactFight", spec := "fnExactFight", apart := false, narrowed := true }
def FnExactFightUptoSaid : Prop := fnExactFightUptoRow.holds Try.pinned (OpenSpec.upto fnExactFightSpec)

/-- 'laws.FnExactVoterOk', WHERE WHAT IT READS IS OF BULK AT MOST 1048576: true; the input reads as it did. -/
def fnExactVoterOkUptoRow : OpenClaim := { program := "ytmhddkjiaiifmaa", sum := "d2dd1297c2db7efec9efaad0a6c38bd9c8c3719756f7960dff11108eee41afba", func := "loop.example/g00063/laws.FnExactVoterOk", spec := "fnExactVoterOk", apart := false, narrowed := true }
def FnExactVoterOkUptoSaid : Prop := fnExactVoterOkUptoRow.holds Try.pinned (OpenSpec.upto fnExactVoterOkSpec)

/-- 'laws.FnForces', WHERE WHAT IT READS IS OF BULK AT MOST 1048576: true; the input reads as it did. -/
def fnForcesUptoRow : OpenClaim := { program := "ytmhddkjiaiifmaa", sum := "d2dd1297c2db7efec9efaad0a6c38bd9c8c3719756f7960dff11108eee41afba", func := "loop.example/g00063/laws.FnForces", spec := "fnForces", apart := false, narrowed := true }
def FnForcesUptoSaid : Prop := fnForcesUptoRow.holds Try.pinned (OpenSpec.upto fnForcesSpec)

/-- 'laws.FnExactFresh', WHERE WHAT IT READS IS OF BULK AT MOST 1048576: true; the input reads as it did. -/
def fnExactFreshUptoRow : OpenClaim := { program := "ytmhddkjiaiifmaa", sum := "d2dd1297c2db7efec9efaad0a6c38bd9c8c3719756f7960dff11108eee41afba", func := "loop.example/g00063/laws.FnExactFresh", spec := "fnExactFresh", apart := false, narrowed := true }
def FnExactFreshUptoSaid : Prop := fnExactFreshUptoRow.holds Try.pinned (OpenSpec.upto fnExactFreshSpec)

/-- 'laws.FnExactTwoAlike', WHERE WHAT IT READS IS OF BULK AT MOST 1048576: true; the input reads as it did. -/
def fnExactTwoAlikeUptoRow : OpenClaim := { program := "ytmhddkjiaiifmaa", sum := "d2dd1297c2db7efec9efaad0a6c38bd9c8c3719756f7960dff11108eee41afba", func := "loop.example/g00063/laws.FnExactTwoAlike", spec := "fnExactTwoAlike", recurses := true, apart := false, narrowed := true }
def FnExactTwoAlikeUptoSaid : Prop := fnExactTwoAlikeUptoRow.holds Try.pinned (OpenSpec.upto fnExactTwoAlikeSpec)

/-- 'laws.FnExactVote', WHERE WHAT IT READS IS OF BULK AT MOST 1048576: true; the input reads as it did. -/
def fnExactVoteUptoRow : OpenClaim := { program := "ytmhddkjiaiifmaa", sum := "d2dd1297c2db7efec9efaad0a6c38bd9c8c3719756f7960dff11108eee41afba", func := "loop.example/g00063/laws.FnExactVote", spec := "fnExactVote", recurses := true, apart := false, narrowed := true }
def FnExactVoteUptoSaid : Prop := fnExactVoteUptoRow.holds Try.pinned (OpenSpec.upto fnExactVoteSpec)

/-- 'laws.FnExactVotes', WHERE WHAT IT READS IS OF BULK AT MOST 1048576: true; the input reads as it did. -/
def fnExactVotesUptoRow : OpenClaim := { program := "ytmhddkjiaiifmaa", sum := "d2dd1297c2db7efec9efaad0a6c38bd9c8c3719756f7960dff11108eee41afba", func := "loop.example/g00063/laws.FnExactVotes", spec := "fnExactVotes", recurses := true, apart := false, narrowed := true }
def FnExactVotesUptoSaid : Prop := fnExactVotesUptoRow.holds Try.pinned (OpenSpec.upto fnExactVotesSpec)

end Rows
end Go.Proofs.Ytmhddkjiaiifmaa
