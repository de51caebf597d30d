/-
  DERIVED. GIVEN WITH THE SEED: THE CARDS: each row of YtiagnbccjfbnlaaDoorRows.lean that lists a variable, with what it lists TIED to the program's text (the seventh form; the later family's looks); each row that meets fmt, with fmt's text TOLD by the authors' own Lean function (tested against real Go, not proved from fmt's source: count such statements apart). THE CARD IS WHAT COUNTS. Prove the row's statement (the work); the ties are given (YtiagnbccjfbnlaaDoorTie.lean); close each card by the builder's one call (the guide's Derived/Test/ToyasCard.lean, 'card_holds'). Laid BY PROGRAM, IN A SANDBOX (cutbox-door.mjs). By AI agents, Wed Nov 11 2026. No macro, syntax, notation, axiom, sorry.
-/
import Derived.Test.YtiagnbccjfbnlaaDoorRows
import GoSem.ClaimSeven
namespace Go.Proofs.YtiagnbccjfbnlaaDoor
namespace Rows

/-- THE TIED CARD OF 'laws.FnExactCountEdges'. -/
def fnExactCountEdgesCard : Claim7 := { stood := { row := fnExactCountEdgesRow, standIns := [], harness := (true, "c9ed0f0dd03667e3896edcb2c0de13b5ab6d02a3f36efe0a7a5724e2ecddf95c"), looks := false }, kinds := [], alts := [], laidByText := true, laidKinds := [.data, .data], laidTests := true, laidLooks := .later }
def FnExactCountEdgesCardSaid : Prop := Claim7.holds Tryd.pinned (.plain (OpenSpec.ofChange fnExactCountEdgesSpec)) fnExactCountEdgesCard

/-- THE TIED CARD OF 'laws.FnExactHeightOf'. -/
def fnExactHeightOfCard : Claim7 := { stood := { row := fnExactHeightOfRow, standIns := [], harness := (true, "c9ed0f0dd03667e3896edcb2c0de13b5ab6d02a3f36efe0a7a5724e2ecddf95c"), looks := false }, kinds := [], alts := [], laidByText := true, laidKinds := [.data, .data], laidTests := true, laidLooks := .later }
def FnExactHeightOfCardSaid : Prop := Claim7.holds Tryd.pinned (.plain (OpenSpec.ofChange fnExactHeightOfSpec)) fnExactHeightOfCard

/-- THE TIED CARD OF 'laws.FnExactLowerCovers'. -/
def fnExactLowerCoversCard : Claim7 := { stood := { row := fnExactLowerCoversRow, standIns := [], harness := (true, "c9ed0f0dd03667e3896edcb2c0de13b5ab6d02a3f36efe0a7a5724e2ecddf95c"), looks := false }, kinds := [], alts := [], laidByText := true, laidKinds := [.data, .data], laidTests := true, laidLooks := .later }
def FnExactLowerCoversCardSaid : Prop := Claim7.holds Tryd.pinned (.plain (OpenSpec.ofChange fnExactLowerCoversSpec)) fnExactLowerCoversCard

/-- THE TIED CARD OF 'laws.FnExactUpperCovers'. -/
def fnExactUpperCoversCard : Claim7 := { stood := { row := fnExactUpperCoversRow, standIns := [], harness := (true, "c9ed0f0dd03667e3896edcb2c0de13b5ab6d02a3f36efe0a7a5724e2ecddf95c"), looks := false }, kinds := [], alts := [], laidByText := true, laidKinds := [.data, .data], laidTests := true, laidLooks := .later }
def FnExactUpperCoversCardSaid : Prop := Claim7.holds Tryd.pinned (.plain (OpenSpec.ofChange fnExactUpperCoversSpec)) fnExactUpperCoversCard

/-- THE SECOND FORM's CARD OF 'laws.FnExactCountEdges'. -/
def fnExactCountEdgesUptoCard : Claim7 := { stood := { row := fnExactCountEdgesUptoRow, standIns := [], harness := (true, "c9ed0f0dd03667e3896edcb2c0de13b5ab6d02a3f36efe0a7a5724e2ecddf95c"), looks := false }, kinds := [], alts := [], laidByText := true, laidKinds := [.data, .data], laidTests := true, laidLooks := .later }
def FnExactCountEdgesUptoCardSaid : Prop := Claim7.holds Tryd.pinned (.plain (OpenSpec.upto fnExactCountEdgesSpec)) fnExactCountEdgesUptoCard

/-- THE SECOND FORM's CARD OF 'laws.FnExactHeightOf'. -/
def fnExactHeightOfUptoCard : Claim7 := { stood := { row := fnExactHeightOfUptoRow, standIns := [], harness := (true, "c9ed0f0dd03667e3896edcb2c0de13b5ab6d02a3f36efe0a7a5724e2ecddf95c"), looks := false }, kinds := [], alts := [], laidByText := true, laidKinds := [.data, .data], laidTests := true, laidLooks := .later }
def FnExactHeightOfUptoCardSaid : Prop := Claim7.holds Tryd.pinned (.plain (OpenSpec.upto fnExactHeightOfSpec)) fnExactHeightOfUptoCard

/-- THE SECOND FORM's CARD OF 'laws.FnExactLowerCovers'. -/
def fnExactLowerCoversUptoCard : Claim7 := { stood := { row := fnExactLowerCoversUptoRow, standIns := [], harness := (true, "c9ed0f0dd03667e3896edcb2c0de13b5ab6d02a3f36efe0a7a5724e2ecddf95c"), looks := false }, kinds := [], alts := [], laidByText := true, laidKinds := [.data, .data], laidTests := true, laidLooks := .later }
def FnExactLowerCoversUptoCardSaid : Prop := Claim7.holds Tryd.pinned (.plain (OpenSpec.upto fnExactLowerCoversSpec)) fnExactLowerCoversUptoCard

/-- THE SECOND FORM's CARD OF 'laws.FnExactUpperCovers'. -/
def fnExactUpperCoversUptoCard : Claim7 := { stood := { row := fnExactUpperCoversUptoRow, standIns := [], harness := (true, "c9ed0f0dd03667e3896edcb2c0de13b5ab6d02a3f36efe0a7a5724e2ecddf95c"), looks := false }, kinds := [], alts := [], laidByText := true, laidKinds := [.data, .data], laidTests := true, laidLooks := .later }
def FnExactUpperCoversUptoCardSaid : Prop := Claim7.holds Tryd.pinned (.plain (OpenSpec.upto fnExactUpperCoversSpec)) fnExactUpperCoversUptoCard
end Rows
end Go.Proofs.YtiagnbccjfbnlaaDoor
