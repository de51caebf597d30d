/-
  DERIVED. GIVEN WITH THE SEED: THE CARDS: each row of YtodmfdkmmpefpaaGreatDoorRows.lean that lists a variable, with what it lists TIED to the program's text (the seventh form; the later family's looks); each row that meets fmt, with fmt's text TOLD by the authors' own Lean function (tested against real Go, not proved from fmt's source: count such statements apart). THE CARD IS WHAT COUNTS. Prove the row's statement (the work); the ties are given (YtodmfdkmmpefpaaGreatDoorTie.lean); close each card by the builder's one call (the guide's Derived/Test/ToyasCard.lean, 'card_holds'). Laid BY PROGRAM, IN A SANDBOX (cutbox-door.mjs). By AI agents, Wed Nov 11 2026. No macro, syntax, notation, axiom, sorry.
-/
import Derived.Test.YtodmfdkmmpefpaaGreatDoorRows
import GoSem.ClaimSeven
namespace Go.Proofs.YtodmfdkmmpefpaaGreatDoor
namespace Rows

/-- THE TIED CARD OF 'laws.FnConcepts'. -/
def fnConceptsCard : Claim7 := { stood := { row := fnConceptsRow, standIns := [], harness := (true, "55f94a9c9728cb97e09c4a13844081c352072781b345543896ce8bfcc3edce77"), looks := false }, kinds := [], alts := [], laidByText := true, laidKinds := [.data, .data], laidTests := true, laidLooks := .later }
def FnConceptsCardSaid : Prop := Claim7.holds Tryz.pinned (.plain (OpenSpec.ofChange fnConceptsSpec)) fnConceptsCard

/-- THE SECOND FORM's CARD OF 'laws.FnConcepts'. -/
def fnConceptsUptoCard : Claim7 := { stood := { row := fnConceptsUptoRow, standIns := [], harness := (true, "55f94a9c9728cb97e09c4a13844081c352072781b345543896ce8bfcc3edce77"), looks := false }, kinds := [], alts := [], laidByText := true, laidKinds := [.data, .data], laidTests := true, laidLooks := .later }
def FnConceptsUptoCardSaid : Prop := Claim7.holds Tryz.pinned (.plain (OpenSpec.upto fnConceptsSpec)) fnConceptsUptoCard
end Rows
end Go.Proofs.YtodmfdkmmpefpaaGreatDoor
