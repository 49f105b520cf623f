/-
  DERIVED. GIVEN WITH THE SEED: THE CARDS: each row of YtadnhfdodcmlaaaDoorRows.lean that lists a variable, with what it lists TIED to the program's text (the seventh form; the later family's looks); each row that meets fmt, with fmt's text TOLD by the authors' own Lean function (tested against real Go, not proved from fmt's source: count such statements apart). THE CARD IS WHAT COUNTS. Prove the row's statement (the work); the ties are given (YtadnhfdodcmlaaaDoorTie.lean); close each card by the builder's one call (the guide's Derived/Test/ToyasCard.lean, 'card_holds'). Laid BY PROGRAM, IN A SANDBOX (cutbox-door.mjs). By AI agents, Wed Nov 11 2026. No macro, syntax, notation, axiom, sorry.
-/
import Derived.Test.YtadnhfdodcmlaaaDoorRows
import GoSem.ClaimSeven
namespace Go.Proofs.YtadnhfdodcmlaaaDoor
namespace Rows

/-- THE TIED CARD OF 'laws.FnLegs'. -/
def fnLegsCard : Claim7 := { stood := { row := fnLegsRow, standIns := [], harness := (true, "d9b68c03e074ea90b56543f153ec8ec689ec4c7ebcc57d3afc05297dc84d5788"), looks := true }, kinds := [], alts := [], laidByText := true, laidKinds := [.data, .data, .data, .data, .sentinel, .sentinel, .pinned], laidTests := true, laidLooks := .later }
def FnLegsCardSaid : Prop := Claim7.holds Tryd.pinned (.plain (OpenSpec.ofChange fnLegsSpec)) fnLegsCard

/-- THE TIED CARD OF 'laws.FnExactLegText'. -/
def fnExactLegTextCard : Claim7 := { stood := { row := fnExactLegTextRow, standIns := [], harness := (true, "d9b68c03e074ea90b56543f153ec8ec689ec4c7ebcc57d3afc05297dc84d5788"), looks := true }, kinds := [], alts := [], laidByText := true, laidKinds := [.data, .data, .data], laidTests := true, laidLooks := .later }
def FnExactLegTextCardSaid : Prop := Claim7.holds Tryd.pinned (.plain (OpenSpec.ofChange fnExactLegTextSpec)) fnExactLegTextCard

/-- THE TIED CARD OF 'laws.FnExactLegRead'. -/
def fnExactLegReadCard : Claim7 := { stood := { row := fnExactLegReadRow, standIns := [], harness := (true, "d9b68c03e074ea90b56543f153ec8ec689ec4c7ebcc57d3afc05297dc84d5788"), looks := true }, kinds := [], alts := [], laidByText := true, laidKinds := [.data, .data, .data, .data, .sentinel, .sentinel, .pinned], laidTests := true, laidLooks := .later }
def FnExactLegReadCardSaid : Prop := Claim7.holds Tryd.pinned (.plain (OpenSpec.ofChange fnExactLegReadSpec)) fnExactLegReadCard

/-- THE SECOND FORM's CARD OF 'laws.FnLegs'. -/
def fnLegsUptoCard : Claim7 := { stood := { row := fnLegsUptoRow, standIns := [], harness := (true, "d9b68c03e074ea90b56543f153ec8ec689ec4c7ebcc57d3afc05297dc84d5788"), looks := true }, kinds := [], alts := [], laidByText := true, laidKinds := [.data, .data, .data, .data, .sentinel, .sentinel, .pinned], laidTests := true, laidLooks := .later }
def FnLegsUptoCardSaid : Prop := Claim7.holds Tryd.pinned (.plain (OpenSpec.upto fnLegsSpec)) fnLegsUptoCard

/-- THE SECOND FORM's CARD OF 'laws.FnExactLegText'. -/
def fnExactLegTextUptoCard : Claim7 := { stood := { row := fnExactLegTextUptoRow, standIns := [], harness := (true, "d9b68c03e074ea90b56543f153ec8ec689ec4c7ebcc57d3afc05297dc84d5788"), looks := true }, kinds := [], alts := [], laidByText := true, laidKinds := [.data, .data, .data], laidTests := true, laidLooks := .later }
def FnExactLegTextUptoCardSaid : Prop := Claim7.holds Tryd.pinned (.plain (OpenSpec.upto fnExactLegTextSpec)) fnExactLegTextUptoCard

/-- THE SECOND FORM's CARD OF 'laws.FnExactLegRead'. -/
def fnExactLegReadUptoCard : Claim7 := { stood := { row := fnExactLegReadUptoRow, standIns := [], harness := (true, "d9b68c03e074ea90b56543f153ec8ec689ec4c7ebcc57d3afc05297dc84d5788"), looks := true }, kinds := [], alts := [], laidByText := true, laidKinds := [.data, .data, .data, .data, .sentinel, .sentinel, .pinned], laidTests := true, laidLooks := .later }
def FnExactLegReadUptoCardSaid : Prop := Claim7.holds Tryd.pinned (.plain (OpenSpec.upto fnExactLegReadSpec)) fnExactLegReadUptoCard
end Rows
end Go.Proofs.YtadnhfdodcmlaaaDoor
