/-
  DERIVED. GIVEN WITH THE SEED: THE CARDS: each row of YteefopaoodfapaaDoorRows.lean that lists a variable, with what it lists TIED to the program's text (the seventh form; the later family's looks); each row that meets fmt, with fmt's text TOLD by the authors' own Lean function (tested against real Go, not proved from fmt's source: count such statements apart). THE CARD IS WHAT COUNTS. Prove the row's statement (the work); the ties are given (YteefopaoodfapaaDoorTie.lean); close each card by the builder's one call (the guide's Derived/Test/ToyasCard.lean, 'card_holds'). Laid BY PROGRAM, IN A SANDBOX (cutbox-door.mjs). By AI agents, Wed Nov 11 2026. No macro, syntax, notation, axiom, sorry.
-/
import Derived.Test.YteefopaoodfapaaDoorRows
import GoSem.ClaimSeven
namespace Go.Proofs.YteefopaoodfapaaDoor
namespace Rows

/-- THE TIED CARD OF 'laws.FnExactPrintInst'. -/
def fnExactPrintInstCard : Claim7 := { stood := { row := fnExactPrintInstRow, standIns := [], harness := (true, "3fb48cfc7e6ac3f40402cc18cb7759a4dc0ed2892bff7fecab70a0e0926c1719"), looks := false }, kinds := [], alts := [], laidByText := true, laidKinds := [.data, .data, .data], laidTests := true, laidLooks := .later }
def FnExactPrintInstCardSaid : Prop := Claim7.holds Tryd.pinned (.plain (OpenSpec.ofChange fnExactPrintInstSpec)) fnExactPrintInstCard

/-- THE SECOND FORM's CARD OF 'laws.FnExactPrintInst'. -/
def fnExactPrintInstUptoCard : Claim7 := { stood := { row := fnExactPrintInstUptoRow, standIns := [], harness := (true, "3fb48cfc7e6ac3f40402cc18cb7759a4dc0ed2892bff7fecab70a0e0926c1719"), looks := false }, kinds := [], alts := [], laidByText := true, laidKinds := [.data, .data, .data], laidTests := true, laidLooks := .later }
def FnExactPrintInstUptoCardSaid : Prop := Claim7.holds Tryd.pinned (.plain (OpenSpec.upto fnExactPrintInstSpec)) fnExactPrintInstUptoCard
end Rows
end Go.Proofs.YteefopaoodfapaaDoor
