/-
  DERIVED. GIVEN WITH THE SEED: THE CARDS: each row of YtelaihbbfgjnpaaDoorRows.lean that lists a variable, with what it lists TIED to the program's text (the seventh form; the later family's looks); each row that meets fmt, with fmt's text TOLD by the authors' own Lean function (tested against real Go, not proved from fmt's source: count such statements apart). THE CARD IS WHAT COUNTS. Prove the row's statement (the work); the ties are given (YtelaihbbfgjnpaaDoorTie.lean); close each card by the builder's one call (the guide's Derived/Test/ToyasCard.lean, 'card_holds'). Laid BY PROGRAM, IN A SANDBOX (cutbox-door.mjs). By AI agents, Wed Nov 11 2026. No macro, syntax, notation, axiom, sorry.
-/
import Derived.Test.YtelaihbbfgjnpaaDoorRows
import GoSem.ClaimSeven
namespace Go.Proofs.YtelaihbbfgjnpaaDoor
namespace Rows

/-- THE TIED CARD OF 'laws.FnExactHeightOf'. -/
def fnExactHeightOfCard : Claim7 := { stood := { row := fnExactHeightOfRow, standIns := [], harness := (true, "bb19ae06838796cc724ab68984c23f19068babcd8f878db0e007bd2336c48620"), looks := false }, kinds := [], alts := [], laidByText := true, laidKinds := [.data, .data], laidTests := true, laidLooks := .later }
def FnExactHeightOfCardSaid : Prop := Claim7.holds Tryd.pinned (.plain (OpenSpec.ofChange fnExactHeightOfSpec)) fnExactHeightOfCard

/-- THE SECOND FORM's CARD OF 'laws.FnExactHeightOf'. -/
def fnExactHeightOfUptoCard : Claim7 := { stood := { row := fnExactHeightOfUptoRow, standIns := [], harness := (true, "bb19ae06838796cc724ab68984c23f19068babcd8f878db0e007bd2336c48620"), looks := false }, kinds := [], alts := [], laidByText := true, laidKinds := [.data, .data], laidTests := true, laidLooks := .later }
def FnExactHeightOfUptoCardSaid : Prop := Claim7.holds Tryd.pinned (.plain (OpenSpec.upto fnExactHeightOfSpec)) fnExactHeightOfUptoCard
end Rows
end Go.Proofs.YtelaihbbfgjnpaaDoor
