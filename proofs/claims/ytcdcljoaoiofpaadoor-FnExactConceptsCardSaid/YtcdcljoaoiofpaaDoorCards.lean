/-
  DERIVED. GIVEN WITH THE SEED: THE CARDS: each row of YtcdcljoaoiofpaaDoorRows.lean that lists a variable, with what it lists TIED to the program's text (the seventh form; the later family's looks); each row that meets fmt, with fmt's text TOLD by the authors' own Lean function (tested against real Go, not proved from fmt's source: count such statements apart). THE CARD IS WHAT COUNTS. Prove the row's statement (the work); the ties are given (YtcdcljoaoiofpaaDoorTie.lean); close each card by the builder's one call (the guide's Derived/Test/ToyasCard.lean, 'card_holds'). Laid BY PROGRAM, IN A SANDBOX (cutbox-door.mjs). By AI agents, Wed Nov 11 2026. No macro, syntax, notation, axiom, sorry.
-/
import Derived.Test.YtcdcljoaoiofpaaDoorRows
import GoSem.ClaimSeven
namespace Go.Proofs.YtcdcljoaoiofpaaDoor
namespace Rows

/-- THE TIED CARD OF 'laws.FnExactBeforeSet'. -/
def fnExactBeforeSetCard : Claim7 := { stood := { row := fnExactBeforeSetRow, standIns := [], harness := (true, "330bc59669c4c688dc6c414ea96c5dfaf208509144279fb52d8733cbb478723f"), looks := false }, kinds := [], alts := [], laidByText := true, laidKinds := [.data, .data], laidTests := true, laidLooks := .later }
def FnExactBeforeSetCardSaid : Prop := Claim7.holds Tryd.pinned (.plain (OpenSpec.ofChange fnExactBeforeSetSpec)) fnExactBeforeSetCard

/-- THE TIED CARD OF 'laws.FnExactSortLectic'. -/
def fnExactSortLecticCard : Claim7 := { stood := { row := fnExactSortLecticRow, standIns := [], harness := (true, "330bc59669c4c688dc6c414ea96c5dfaf208509144279fb52d8733cbb478723f"), looks := false }, kinds := [], alts := [], laidByText := true, laidKinds := [.data, .data], laidTests := true, laidLooks := .later }
def FnExactSortLecticCardSaid : Prop := Claim7.holds Tryd.pinned (.plain (OpenSpec.ofChange fnExactSortLecticSpec)) fnExactSortLecticCard

/-- THE TIED CARD OF 'laws.FnExactNextClosed'. -/
def fnExactNextClosedCard : Claim7 := { stood := { row := fnExactNextClosedRow, standIns := [], harness := (true, "330bc59669c4c688dc6c414ea96c5dfaf208509144279fb52d8733cbb478723f"), looks := false }, kinds := [], alts := [], laidByText := true, laidKinds := [.data, .data], laidTests := true, laidLooks := .later }
def FnExactNextClosedCardSaid : Prop := Claim7.holds Tryd.pinned (.plain (OpenSpec.ofChange fnExactNextClosedSpec)) fnExactNextClosedCard

/-- THE TIED CARD OF 'laws.FnExactConcepts'. -/
def fnExactConceptsCard : Claim7 := { stood := { row := fnExactConceptsRow, standIns := [], harness := (true, "330bc59669c4c688dc6c414ea96c5dfaf208509144279fb52d8733cbb478723f"), looks := false }, kinds := [], alts := [], laidByText := true, laidKinds := [.data, .data], laidTests := true, laidLooks := .later }
def FnExactConceptsCardSaid : Prop := Claim7.holds Tryd.pinned (.plain (OpenSpec.ofChange fnExactConceptsSpec)) fnExactConceptsCard

/-- THE SECOND FORM's CARD OF 'laws.FnExactBeforeSet'. -/
def fnExactBeforeSetUptoCard : Claim7 := { stood := { row := fnExactBeforeSetUptoRow, standIns := [], harness := (true, "330bc59669c4c688dc6c414ea96c5dfaf208509144279fb52d8733cbb478723f"), looks := false }, kinds := [], alts := [], laidByText := true, laidKinds := [.data, .data], laidTests := true, laidLooks := .later }
def FnExactBeforeSetUptoCardSaid : Prop := Claim7.holds Tryd.pinned (.plain (OpenSpec.upto fnExactBeforeSetSpec)) fnExactBeforeSetUptoCard

/-- THE SECOND FORM's CARD OF 'laws.FnExactSortLectic'. -/
def fnExactSortLecticUptoCard : Claim7 := { stood := { row := fnExactSortLecticUptoRow, standIns := [], harness := (true, "330bc59669c4c688dc6c414ea96c5dfaf208509144279fb52d8733cbb478723f"), looks := false }, kinds := [], alts := [], laidByText := true, laidKinds := [.data, .data], laidTests := true, laidLooks := .later }
def FnExactSortLecticUptoCardSaid : Prop := Claim7.holds Tryd.pinned (.plain (OpenSpec.upto fnExactSortLecticSpec)) fnExactSortLecticUptoCard

/-- THE SECOND FORM's CARD OF 'laws.FnExactNextClosed'. -/
def fnExactNextClosedUptoCard : Claim7 := { stood := { row := fnExactNextClosedUptoRow, standIns := [], harness := (true, "330bc59669c4c688dc6c414ea96c5dfaf208509144279fb52d8733cbb478723f"), looks := false }, kinds := [], alts := [], laidByText := true, laidKinds := [.data, .data], laidTests := true, laidLooks := .later }
def FnExactNextClosedUptoCardSaid : Prop := Claim7.holds Tryd.pinned (.plain (OpenSpec.upto fnExactNextClosedSpec)) fnExactNextClosedUptoCard

/-- THE SECOND FORM's CARD OF 'laws.FnExactConcepts'. -/
def fnExactConceptsUptoCard : Claim7 := { stood := { row := fnExactConceptsUptoRow, standIns := [], harness := (true, "330bc59669c4c688dc6c414ea96c5dfaf208509144279fb52d8733cbb478723f"), looks := false }, kinds := [], alts := [], laidByText := true, laidKinds := [.data, .data], laidTests := true, laidLooks := .later }
def FnExactConceptsUptoCardSaid : Prop := Claim7.holds Tryd.pinned (.plain (OpenSpec.upto fnExactConceptsSpec)) fnExactConceptsUptoCard
end Rows
end Go.Proofs.YtcdcljoaoiofpaaDoor
