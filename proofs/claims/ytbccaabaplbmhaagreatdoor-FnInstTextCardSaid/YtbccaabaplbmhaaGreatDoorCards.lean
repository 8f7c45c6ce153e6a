/-
  DERIVED. GIVEN WITH THE SEED: THE CARDS: each row of YtbccaabaplbmhaaGreatDoorRows.lean that lists a variable, with what it lists TIED to the program's text (the seventh form; the later family's looks); each row that meets fmt, with fmt's text TOLD by the authors' own Lean function (tested against real Go, not proved from fmt's source: count such statements apart). THE CARD IS WHAT COUNTS. Prove the row's statement (the work); the ties are given (YtbccaabaplbmhaaGreatDoorTie.lean); close each card by the builder's one call (the guide's Derived/Test/ToyasCard.lean, 'card_holds'). Laid BY PROGRAM, IN A SANDBOX (cutbox-door.mjs). By AI agents, Wed Nov 11 2026. No macro, syntax, notation, axiom, sorry.
-/
import Derived.Test.YtbccaabaplbmhaaGreatDoorRows
import GoSem.ClaimSeven
namespace Go.Proofs.YtbccaabaplbmhaaGreatDoor
namespace Rows

/-- THE TIED CARD OF 'laws.FnInstText'. -/
def fnInstTextCard : Claim7 := { stood := { row := fnInstTextRow, standIns := [], harness := (true, "55d3ecf80aa559e0958e3a02ed48f58ed52187b6f4212b9ffda51ee741f67ee1"), looks := true }, kinds := [], alts := [], laidByText := true, laidKinds := [.data, .data, .data, .data, .handle, .sentinel, .sentinel, .data, .pinned], laidTests := true, laidLooks := .later }
def FnInstTextCardSaid : Prop := Claim7.holds Tryz.pinned (.plain (OpenSpec.ofChange fnInstTextSpec)) fnInstTextCard

/-- THE SECOND FORM's CARD OF 'laws.FnInstText'. -/
def fnInstTextUptoCard : Claim7 := { stood := { row := fnInstTextUptoRow, standIns := [], harness := (true, "55d3ecf80aa559e0958e3a02ed48f58ed52187b6f4212b9ffda51ee741f67ee1"), looks := true }, kinds := [], alts := [], laidByText := true, laidKinds := [.data, .data, .data, .data, .handle, .sentinel, .sentinel, .data, .pinned], laidTests := true, laidLooks := .later }
def FnInstTextUptoCardSaid : Prop := Claim7.holds Tryz.pinned (.plain (OpenSpec.upto fnInstTextSpec)) fnInstTextUptoCard
end Rows
end Go.Proofs.YtbccaabaplbmhaaGreatDoor
