/-
  DERIVED. GIVEN WITH THE SEED: THE CARDS: each row of YthinfhnaidpolaaDoorRows.lean that lists a variable, with what it lists TIED to the program's text (the seventh form; the later family's looks); each row that meets fmt, with fmt's text TOLD by the authors' own Lean function (tested against real Go, not proved from fmt's source: count such statements apart). THE CARD IS WHAT COUNTS. Prove the row's statement (the work); the ties are given (YthinfhnaidpolaaDoorTie.lean); close each card by the builder's one call (the guide's Derived/Test/ToyasCard.lean, 'card_holds'). Laid BY PROGRAM, IN A SANDBOX (cutbox-door.mjs). By AI agents, Wed Nov 11 2026. No macro, syntax, notation, axiom, sorry.
-/
import Derived.Test.YthinfhnaidpolaaDoorRows
import GoSem.ClaimSeven
namespace Go.Proofs.YthinfhnaidpolaaDoor
namespace Rows

/-- THE TIED CARD OF 'laws.FnExactTopOf'. -/
def fnExactTopOfCard : Claim7 := { stood := { row := fnExactTopOfRow, standIns := [], harness := (true, "c3f0a1f6ce054907673d4bbf8f93eea0b610d0bf5c2edb278dde590e17f0f677"), looks := false }, kinds := [], alts := [], laidByText := true, laidKinds := [.data, .data], laidTests := true, laidLooks := .later }
def FnExactTopOfCardSaid : Prop := Claim7.holds Tryd.pinned (.plain (OpenSpec.ofChange fnExactTopOfSpec)) fnExactTopOfCard

/-- THE TIED CARD OF 'laws.FnExactBottomOf'. -/
def fnExactBottomOfCard : Claim7 := { stood := { row := fnExactBottomOfRow, standIns := [], harness := (true, "c3f0a1f6ce054907673d4bbf8f93eea0b610d0bf5c2edb278dde590e17f0f677"), looks := false }, kinds := [], alts := [], laidByText := true, laidKinds := [.data, .data], laidTests := true, laidLooks := .later }
def FnExactBottomOfCardSaid : Prop := Claim7.holds Tryd.pinned (.plain (OpenSpec.ofChange fnExactBottomOfSpec)) fnExactBottomOfCard

/-- THE TIED CARD OF 'laws.FnExactIsBelow'. -/
def fnExactIsBelowCard : Claim7 := { stood := { row := fnExactIsBelowRow, standIns := [], harness := (true, "c3f0a1f6ce054907673d4bbf8f93eea0b610d0bf5c2edb278dde590e17f0f677"), looks := false }, kinds := [], alts := [], laidByText := true, laidKinds := [.data, .data], laidTests := true, laidLooks := .later }
def FnExactIsBelowCardSaid : Prop := Claim7.holds Tryd.pinned (.plain (OpenSpec.ofChange fnExactIsBelowSpec)) fnExactIsBelowCard

/-- THE TIED CARD OF 'laws.FnExactJoinOf'. -/
def fnExactJoinOfCard : Claim7 := { stood := { row := fnExactJoinOfRow, standIns := [], harness := (true, "c3f0a1f6ce054907673d4bbf8f93eea0b610d0bf5c2edb278dde590e17f0f677"), looks := false }, kinds := [], alts := [], laidByText := true, laidKinds := [.data, .data], laidTests := true, laidLooks := .later }
def FnExactJoinOfCardSaid : Prop := Claim7.holds Tryd.pinned (.plain (OpenSpec.ofChange fnExactJoinOfSpec)) fnExactJoinOfCard

/-- THE TIED CARD OF 'laws.FnExactMeetOf'. -/
def fnExactMeetOfCard : Claim7 := { stood := { row := fnExactMeetOfRow, standIns := [], harness := (true, "c3f0a1f6ce054907673d4bbf8f93eea0b610d0bf5c2edb278dde590e17f0f677"), looks := false }, kinds := [], alts := [], laidByText := true, laidKinds := [.data, .data], laidTests := true, laidLooks := .later }
def FnExactMeetOfCardSaid : Prop := Claim7.holds Tryd.pinned (.plain (OpenSpec.ofChange fnExactMeetOfSpec)) fnExactMeetOfCard

/-- THE SECOND FORM's CARD OF 'laws.FnExactTopOf'. -/
def fnExactTopOfUptoCard : Claim7 := { stood := { row := fnExactTopOfUptoRow, standIns := [], harness := (true, "c3f0a1f6ce054907673d4bbf8f93eea0b610d0bf5c2edb278dde590e17f0f677"), looks := false }, kinds := [], alts := [], laidByText := true, laidKinds := [.data, .data], laidTests := true, laidLooks := .later }
def FnExactTopOfUptoCardSaid : Prop := Claim7.holds Tryd.pinned (.plain (OpenSpec.upto fnExactTopOfSpec)) fnExactTopOfUptoCard

/-- THE SECOND FORM's CARD OF 'laws.FnExactBottomOf'. -/
def fnExactBottomOfUptoCard : Claim7 := { stood := { row := fnExactBottomOfUptoRow, standIns := [], harness := (true, "c3f0a1f6ce054907673d4bbf8f93eea0b610d0bf5c2edb278dde590e17f0f677"), looks := false }, kinds := [], alts := [], laidByText := true, laidKinds := [.data, .data], laidTests := true, laidLooks := .later }
def FnExactBottomOfUptoCardSaid : Prop := Claim7.holds Tryd.pinned (.plain (OpenSpec.upto fnExactBottomOfSpec)) fnExactBottomOfUptoCard

/-- THE SECOND FORM's CARD OF 'laws.FnExactIsBelow'. -/
def fnExactIsBelowUptoCard : Claim7 := { stood := { row := fnExactIsBelowUptoRow, standIns := [], harness := (true, "c3f0a1f6ce054907673d4bbf8f93eea0b610d0bf5c2edb278dde590e17f0f677"), looks := false }, kinds := [], alts := [], laidByText := true, laidKinds := [.data, .data], laidTests := true, laidLooks := .later }
def FnExactIsBelowUptoCardSaid : Prop := Claim7.holds Tryd.pinned (.plain (OpenSpec.upto fnExactIsBelowSpec)) fnExactIsBelowUptoCard

/-- THE SECOND FORM's CARD OF 'laws.FnExactJoinOf'. -/
def fnExactJoinOfUptoCard : Claim7 := { stood := { row := fnExactJoinOfUptoRow, standIns := [], harness := (true, "c3f0a1f6ce054907673d4bbf8f93eea0b610d0bf5c2edb278dde590e17f0f677"), looks := false }, kinds := [], alts := [], laidByText := true, laidKinds := [.data, .data], laidTests := true, laidLooks := .later }
def FnExactJoinOfUptoCardSaid : Prop := Claim7.holds Tryd.pinned (.plain (OpenSpec.upto fnExactJoinOfSpec)) fnExactJoinOfUptoCard

/-- THE SECOND FORM's CARD OF 'laws.FnExactMeetOf'. -/
def fnExactMeetOfUptoCard : Claim7 := { stood := { row := fnExactMeetOfUptoRow, standIns := [], harness := (true, "c3f0a1f6ce054907673d4bbf8f93eea0b610d0bf5c2edb278dde590e17f0f677"), looks := false }, kinds := [], alts := [], laidByText := true, laidKinds := [.data, .data], laidTests := true, laidLooks := .later }
def FnExactMeetOfUptoCardSaid : Prop := Claim7.holds Tryd.pinned (.plain (OpenSpec.upto fnExactMeetOfSpec)) fnExactMeetOfUptoCard
end Rows
end Go.Proofs.YthinfhnaidpolaaDoor
