/-
  DERIVED. GIVEN WITH THE SEED: THE CARDS: each row of YtapfgfkpnmjhnaaDoorRows.lean that lists a variable, with what it lists TIED to the program's text (the seventh form; the later family's looks); each row that meets fmt, with fmt's text TOLD by the authors' own Lean function (tested against real Go, not proved from fmt's source: count such statements apart). THE CARD IS WHAT COUNTS. Prove the row's statement (the work); the ties are given (YtapfgfkpnmjhnaaDoorTie.lean); close each card by the builder's one call (the guide's Derived/Test/ToyasCard.lean, 'card_holds'). Laid BY PROGRAM, IN A SANDBOX (cutbox-door.mjs). By AI agents, Wed Nov 11 2026. No macro, syntax, notation, axiom, sorry.
-/
import Derived.Test.YtapfgfkpnmjhnaaDoorRows
import GoSem.ClaimSeven
namespace Go.Proofs.YtapfgfkpnmjhnaaDoor
namespace Rows

/-- THE TIED CARD OF 'laws.FnExactContextText'. -/
def fnExactContextTextCard : Claim7 := { stood := { row := fnExactContextTextRow, standIns := [], harness := (true, "d3894e8435fded6ce693b8579eaead653442a74f1f762ff62fe7daea05ea24cb"), looks := true }, kinds := [], alts := [], laidByText := true, laidKinds := [.data, .data, .data], laidTests := true, laidLooks := .later }
def FnExactContextTextCardSaid : Prop := Claim7.holds Tryd.pinned (.plain (OpenSpec.ofChange fnExactContextTextSpec)) fnExactContextTextCard

/-- THE TIED CARD OF 'laws.FnSets'. -/
def fnSetsCard : Claim7 := { stood := { row := fnSetsRow, standIns := [], harness := (true, "d3894e8435fded6ce693b8579eaead653442a74f1f762ff62fe7daea05ea24cb"), looks := true }, kinds := [], alts := [], laidByText := true, laidKinds := [.data, .data], laidTests := true, laidLooks := .later }
def FnSetsCardSaid : Prop := Claim7.holds Tryd.pinned (.plain (OpenSpec.ofChange fnSetsSpec)) fnSetsCard

/-- THE TIED CARD OF 'laws.FnExactParseContext'. -/
def fnExactParseContextCard : Claim7 := { stood := { row := fnExactParseContextRow, standIns := [], harness := (true, "d3894e8435fded6ce693b8579eaead653442a74f1f762ff62fe7daea05ea24cb"), looks := true }, kinds := [], alts := [], laidByText := true, laidKinds := [.data, .data, .data, .data, .sentinel, .sentinel, .pinned], laidTests := true, laidLooks := .later }
def FnExactParseContextCardSaid : Prop := Claim7.holds Tryd.pinned (.plain (OpenSpec.ofChange fnExactParseContextSpec)) fnExactParseContextCard

/-- THE SECOND FORM's CARD OF 'laws.FnExactContextText'. -/
def fnExactContextTextUptoCard : Claim7 := { stood := { row := fnExactContextTextUptoRow, standIns := [], harness := (true, "d3894e8435fded6ce693b8579eaead653442a74f1f762ff62fe7daea05ea24cb"), looks := true }, kinds := [], alts := [], laidByText := true, laidKinds := [.data, .data, .data], laidTests := true, laidLooks := .later }
def FnExactContextTextUptoCardSaid : Prop := Claim7.holds Tryd.pinned (.plain (OpenSpec.upto fnExactContextTextSpec)) fnExactContextTextUptoCard

/-- THE SECOND FORM's CARD OF 'laws.FnSets'. -/
def fnSetsUptoCard : Claim7 := { stood := { row := fnSetsUptoRow, standIns := [], harness := (true, "d3894e8435fded6ce693b8579eaead653442a74f1f762ff62fe7daea05ea24cb"), looks := true }, kinds := [], alts := [], laidByText := true, laidKinds := [.data, .data], laidTests := true, laidLooks := .later }
def FnSetsUptoCardSaid : Prop := Claim7.holds Tryd.pinned (.plain (OpenSpec.upto fnSetsSpec)) fnSetsUptoCard

/-- THE SECOND FORM's CARD OF 'laws.FnExactParseContext'. -/
def fnExactParseContextUptoCard : Claim7 := { stood := { row := fnExactParseContextUptoRow, standIns := [], harness := (true, "d3894e8435fded6ce693b8579eaead653442a74f1f762ff62fe7daea05ea24cb"), looks := true }, kinds := [], alts := [], laidByText := true, laidKinds := [.data, .data, .data, .data, .sentinel, .sentinel, .pinned], laidTests := true, laidLooks := .later }
def FnExactParseContextUptoCardSaid : Prop := Claim7.holds Tryd.pinned (.plain (OpenSpec.upto fnExactParseContextSpec)) fnExactParseContextUptoCard
end Rows
end Go.Proofs.YtapfgfkpnmjhnaaDoor
