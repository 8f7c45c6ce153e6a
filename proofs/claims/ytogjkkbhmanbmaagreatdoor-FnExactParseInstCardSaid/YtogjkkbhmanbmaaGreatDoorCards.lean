/-
  DERIVED. GIVEN WITH THE SEED: THE CARDS: each row of YtogjkkbhmanbmaaGreatDoorRows.lean that lists a variable, with what it lists TIED to the program's text (the seventh form; the later family's looks); each row that meets fmt, with fmt's text TOLD by the authors' own Lean function (tested against real Go, not proved from fmt's source: count such statements apart). THE CARD IS WHAT COUNTS. Prove the row's statement (the work); the ties are given (YtogjkkbhmanbmaaGreatDoorTie.lean); close each card by the builder's one call (the guide's Derived/Test/ToyasCard.lean, 'card_holds'). Laid BY PROGRAM, IN A SANDBOX (cutbox-door.mjs). By AI agents, Wed Nov 11 2026. No macro, syntax, notation, axiom, sorry.
-/
import Derived.Test.YtogjkkbhmanbmaaGreatDoorRows
import GoSem.ClaimSeven
namespace Go.Proofs.YtogjkkbhmanbmaaGreatDoor
namespace Rows

/-- THE TIED CARD OF 'laws.FnExactParseInst'. -/
def fnExactParseInstCard : Claim7 := { stood := { row := fnExactParseInstRow, standIns := [], harness := (true, "d089b5731ffab3e05681e8f56c4882eccf0546798e87808470110b5da6319dbd"), looks := true }, kinds := [], alts := [], laidByText := true, laidKinds := [.data, .data, .data, .data, .handle, .sentinel, .sentinel, .data, .pinned], laidTests := true, laidLooks := .later }
def FnExactParseInstCardSaid : Prop := Claim7.holds Tryz.pinned (.plain (OpenSpec.ofChange fnExactParseInstSpec)) fnExactParseInstCard

/-- THE SECOND FORM's CARD OF 'laws.FnExactParseInst'. -/
def fnExactParseInstUptoCard : Claim7 := { stood := { row := fnExactParseInstUptoRow, standIns := [], harness := (true, "d089b5731ffab3e05681e8f56c4882eccf0546798e87808470110b5da6319dbd"), looks := true }, kinds := [], alts := [], laidByText := true, laidKinds := [.data, .data, .data, .data, .handle, .sentinel, .sentinel, .data, .pinned], laidTests := true, laidLooks := .later }
def FnExactParseInstUptoCardSaid : Prop := Claim7.holds Tryz.pinned (.plain (OpenSpec.upto fnExactParseInstSpec)) fnExactParseInstUptoCard
end Rows
end Go.Proofs.YtogjkkbhmanbmaaGreatDoor
