/-
  No cell of these rows narrows 'for every input' (looked for: loops, veiled, ifaces, maps, wideKeys, modest, calm, conditions, laid).
  DERIVED. THE GIVEN ROWS OF THIS SEAT. 17 by the template 'for every input the law returns true; each argument reads behind the call as it read before'; 0 by the template 'total and deterministic' (their statements: YtpijdephgmcoeaaTotals.lean).
  GIVEN WITH THE SEED: the statements are not yours to turn. If you find one false, say at which input.
  Laid BY PROGRAM, IN A SANDBOX (cutbox-rows.mjs): the forced cells as the released guide's own fill.sh prints them over the translation 84bc7e545df569f8… (all of the seat's roots in one cut). By AI agents, Wed Nov 11 2026. No macro, syntax, notation, axiom, sorry.
-/
import Derived.Test.YtpijdephgmcoeaaChecked
import GoSem.Claim
import GoSem.ClaimJoined
import GoSem.ClaimMapViews
import Derived.JoinedTies
import Derived.KernelRfl
namespace Go.Proofs.Ytpijdephgmcoeaa
/- THE CELL 'sum', in the pinned program and in every row, IS THE sha256 OF THE DUMP (.gsa) THAT YtpijdephgmcoeaaProg.lean LOADS. Nothing in Lean hashes anything: it is a label: what it is worth is what the hold of that sum in a sandbox is worth. -/
noncomputable def Try.pinned : Pinned := { name := "ytpijdephgmcoeaa", sum := "84bc7e545df569f870fe4e045f666361e6c9d4dc5d392033120bc9a490918457", checked := Try.checked }
namespace Rows
def none {H : Type} : Left H := { results := [], args := [] }

/-- 'laws.FnExactEqualContext': WHATEVER THE INPUT: true; the input reads as it did. -/
def fnExactEqualContextSpec : ChangeSpec := { name := "fnExactEqualContext", fn := fun _ => fun
  | [d1, d2] => { results := [.lit (.bool true)], args := [d1, d2] }
  | _ => none }
def fnExactEqualContextRow : OpenClaim := { program := "ytpijdephgmcoeaa", sum := "84bc7e545df569f870fe4e045f666361e6c9d4dc5d392033120bc9a490918457", func := "loop.example/g00596/laws.FnExactEqualContext", spec := "fnExactEqualContext", apart := false }
def FnExactEqualContextSaid : Prop := fnExactEqualContextRow.holds Try.pinned (OpenSpec.ofChange fnExactEqualContextSpec)

/-- ITS FALSE NEIGHBOUR: 'it returns false'. Refute it at one input. -/
def fnExactEqualContextWrong : ChangeSpec := { name := "fnExactEqualContext", fn := fun _ => fun
  | [d1, d2] => { results := [.lit (.bool false)], args := [d1, d2] }
  | _ => none }
def FnExactEqualContextWrongFalsely : Prop := fnExactEqualContextRow.holds Try.pinned (OpenSpec.ofChange fnExactEqualContextWrong)

/-- 'laws.FnExactParseSet': WHATEVER THE INPUT: true; the input reads as it did. -/
def fnExactParseSetSpec : ChangeSpec := { name := "fnExactParseSet", fn := fun _ => fun
  | [d] => { results := [.lit (.bool true)], args := [d] }
  | _ => none }
def fnExactParseSetRow : OpenClaim := { program := "ytpijdephgmcoeaa", sum := "84bc7e545df569f870fe4e045f666361e6c9d4dc5d392033120bc9a490918457", func := "loop.example/g00596/laws.FnExactParseSet", spec := "fnExactParseSet", apart := false }
def FnExactParseSetSaid : Prop := fnExactParseSetRow.holds Try.pinned (OpenSpec.ofChange fnExactParseSetSpec)

/-- ITS FALSE NEIGHBOUR: 'it returns false'. Refute it at one input. -/
def fnExactParseSetWrong : ChangeSpec := { name := "fnExactParseSet", fn := fun _ => fun
  | [d] => { results := [.lit (.bool false)], args := [d] }
  | _ => none }
def FnExactParseSetWrongFalsely : Prop := fnExactParseSetRow.holds Try.pinned (OpenSpec.ofChange fnExactParseSetWrong)

/-- 'laws.FnExactColumnOf': WHATEVER THE INPUT: true; the input reads as it did. -/
def fnExactColumnOfSpec : ChangeSpec := { name := "fnExactColumnOf", fn := fun _ => fun
  | [d1, d2] => { results := [.lit (.bool true)], args := [d1, d2] }
  | _ => none }
def fnExactColumnOfRow : OpenClaim := { program := "ytpijdephgmcoeaa", sum := "84bc7e545df569f870fe4e045f666361e6c9d4dc5d392033120bc9a490918457", func := "loop.example/g00596/laws.FnExactColumnOf", spec := "fnExactColumnOf", unfollowed := true, recurses := true, apart := false }
def FnExactColumnOfSaid : Prop := fnExactColumnOfRow.holds Try.pinned (OpenSpec.ofChange fnExactColumnOfSpec)

/-- ITS FALSE NEIGHBOUR: 'it returns false'. Refute it at one input. -/
def fnExactColumnOfWrong : ChangeSpec := { name := "fnExactColumnOf", fn := fun _ => fun
  | [d1, d2] => { results := [.lit (.bool false)], args := [d1, d2] }
  | _ => none }
def FnExactColumnOfWrongFalsely : Prop := fnExactColumnOfRow.holds Try.pinned (OpenSpec.ofChange fnExactColumnOfWrong)

/-- 'laws.FnExactIntentOf': WHATEVER THE INPUT: true; the input reads as it did. -/
def fnExactIntentOfSpec : ChangeSpec := { name := "fnExactIntentOf", fn := fun _ => fun
  | [d1, d2] => { results := [.lit (.bool true)], args := [d1, d2] }
  | _ => none }
def fnExactIntentOfRow : OpenClaim := { program := "ytpijdephgmcoeaa", sum := "84bc7e545df569f870fe4e045f666361e6c9d4dc5d392033120bc9a490918457", func := "loop.example/g00596/laws.FnExactIntentOf", spec := "fnExactIntentOf", unfollowed := true, recurses := true, apart := false }
def FnExactIntentOfSaid : Prop := fnExactIntentOfRow.holds Try.pinned (OpenSpec.ofChange fnExactIntentOfSpec)

/-- ITS FALSE NEIGHBOUR: 'it returns false'. Refute it at one input. -/
def fnExactIntentOfWrong : ChangeSpec := { name := "fnExactIntentOf", fn := fun _ => fun
  | [d1, d2] => { results := [.lit (.bool false)], args := [d1, d2] }
  | _ => none }
def FnExactIntentOfWrongFalsely : Prop := fnExactIntentOfRow.holds Try.pinned (OpenSpec.ofChange fnExactIntentOfWrong)

/-- 'laws.FnExactJoin': WHATEVER THE INPUT: true; the input reads as it did. -/
def fnExactJoinSpec : ChangeSpec := { name := "fnExactJoin", fn := fun _ => fun
  | [d1, d2] => { results := [.lit (.bool true)], args := [d1, d2] }
  | _ => none }
def fnExactJoinRow : OpenClaim := { program := "ytpijdephgmcoeaa", sum := "84bc7e545df569f870fe4e045f666361e6c9d4dc5d392033120bc9a490918457", func := "loop.example/g00596/laws.FnExactJoin", spec := "fnExactJoin", inPlace := ["internal/abi.NoEscape", "internal/bytealg.MakeNoZero"], apart := false }
def FnExactJoinSaid : Prop := fnExactJoinRow.holds Try.pinned (OpenSpec.ofChange fnExactJoinSpec)

/-- ITS FALSE NEIGHBOUR: 'it returns false'. Refute it at one input. -/
def fnExactJoinWrong : ChangeSpec := { name := "fnExactJoin", fn := fun _ => fun
  | [d1, d2] => { results := [.lit (.bool false)], args := [d1, d2] }
  | _ => none }
def FnExactJoinWrongFalsely : Prop := fnExactJoinRow.holds Try.pinned (OpenSpec.ofChange fnExactJoinWrong)

/-- 'laws.FnExactExtentOf': WHATEVER THE INPUT: true; the input reads as it did. -/
def fnExactExtentOfSpec : ChangeSpec := { name := "fnExactExtentOf", fn := fun _ => fun
  | [d1, d2] => { results := [.lit (.bool true)], args := [d1, d2] }
  | _ => none }
def fnExactExtentOfRow : OpenClaim := { program := "ytpijdephgmcoeaa", sum := "84bc7e545df569f870fe4e045f666361e6c9d4dc5d392033120bc9a490918457", func := "loop.example/g00596/laws.FnExactExtentOf", spec := "fnExactExtentOf", unfollowed := true, recurses := true, apart := false }
def FnExactExtentOfSaid : Prop := fnExactExtentOfRow.holds Try.pinned (OpenSpec.ofChange fnExactExtentOfSpec)

/-- ITS FALSE NEIGHBOUR: 'it returns false'. Refute it at one input. -/
def fnExactExtentOfWrong : ChangeSpec := { name := "fnExactExtentOf", fn := fun _ => fun
  | [d1, d2] => { results := [.lit (.bool false)], args := [d1, d2] }
  | _ => none }
def FnExactExtentOfWrongFalsely : Prop := fnExactExtentOfRow.holds Try.pinned (OpenSpec.ofChange fnExactExtentOfWrong)

/-- 'laws.FnExactComplementContext': WHATEVER THE INPUT: true; the input reads as it did. -/
def fnExactComplementContextSpec : ChangeSpec := { name := "fnExactComplementContext", fn := fun _ => fun
  | [d] => { results := [.lit (.bool true)], args := [d] }
  | _ => none }
def fnExactComplementContextRow : OpenClaim := { program := "ytpijdephgmcoeaa", sum := "84bc7e545df569f870fe4e045f666361e6c9d4dc5d392033120bc9a490918457", func := "loop.example/g00596/laws.FnExactComplementContext", spec := "fnExactComplementContext", unfollowed := true, recurses := true, apart := false }
def FnExactComplementContextSaid : Prop := fnExactComplementContextRow.holds Try.pinned (OpenSpec.ofChange fnExactComplementContextSpec)

/-- ITS FALSE NEIGHBOUR: 'it returns false'. Refute it at one input. -/
def fnExactComplementContextWrong : ChangeSpec := { name := "fnExactComplementContext", fn := fun _ => fun
  | [d] => { results := [.lit (.bool false)], args := [d] }
  | _ => none }
def FnExactComplementContextWrongFalsely : Prop := fnExactComplementContextRow.holds Try.pinned (OpenSpec.ofChange fnExactComplementContextWrong)

/-- 'laws.FnExactDualContext': WHATEVER THE INPUT: true; the input reads as it did. -/
def fnExactDualContextSpec : ChangeSpec := { name := "fnExactDualContext", fn := fun _ => fun
  | [d] => { results := [.lit (.bool true)], args := [d] }
  | _ => none }
def fnExactDualContextRow : OpenClaim := { program := "ytpijdephgmcoeaa", sum := "84bc7e545df569f870fe4e045f666361e6c9d4dc5d392033120bc9a490918457", func := "loop.example/g00596/laws.FnExactDualContext", spec := "fnExactDualContext", unfollowed := true, recurses := true, apart := false }
def FnExactDualContextSaid : Prop := fnExactDualContextRow.holds Try.pinned (OpenSpec.ofChange fnExactDualContextSpec)

/-- ITS FALSE NEIGHBOUR: 'it returns false'. Refute it at one input. -/
def fnExactDualContextWrong : ChangeSpec := { name := "fnExactDualContext", fn := fun _ => fun
  | [d] => { results := [.lit (.bool false)], args := [d] }
  | _ => none }
def FnExactDualContextWrongFalsely : Prop := fnExactDualContextRow.holds Try.pinned (OpenSpec.ofChange fnExactDualContextWrong)

/-- 'laws.FnExactObjectClosure': WHATEVER THE INPUT: true; the input reads as it did. -/
def fnExactObjectClosureSpec : ChangeSpec := { name := "fnExactObjectClosure", fn := fun _ => fun
  | [d1, d2] => { results := [.lit (.bool true)], args := [d1, d2] }
  | _ => none }
def fnExactObjectClosureRow : OpenClaim := { program := "ytpijdephgmcoeaa", sum := "84bc7e545df569f870fe4e045f666361e6c9d4dc5d392033120bc9a490918457", func := "loop.example/g00596/laws.FnExactObjectClosure", spec := "fnExactObjectClosure", unfollowed := true, recurses := true, apart := false }
def FnExactObjectClosureSaid : Prop := fnExactObjectClosureRow.holds Try.pinned (OpenSpec.ofChange fnExactObjectClosureSpec)

/-- ITS FALSE NEIGHBOUR: 'it returns false'. Refute it at one input. -/
def fnExactObjectClosureWrong : ChangeSpec := { name := "fnExactObjectClosure", fn := fun _ => fun
  | [d1, d2] => { results := [.lit (.bool false)], args := [d1, d2] }
  | _ => none }
def FnExactObjectClosureWrongFalsely : Prop := fnExactObjectClosureRow.holds Try.pinned (OpenSpec.ofChange fnExactObjectClosureWrong)

/-- 'laws.FnExactIsConcept': WHATEVER THE INPUT: true; the input reads as it did. -/
def fnExactIsConceptSpec : ChangeSpec := { name := "fnExactIsConcept", fn := fun _ => fun
  | [d1, d2] => { results := [.lit (.bool true)], args := [d1, d2] }
  | _ => none }
def fnExactIsConceptRow : OpenClaim := { program := "ytpijdephgmcoeaa", sum := "84bc7e545df569f870fe4e045f666361e6c9d4dc5d392033120bc9a490918457", func := "loop.example/g00596/laws.FnExactIsConcept", spec := "fnExactIsConcept", unfollowed := true, recurses := true, apart := false }
def FnExactIsConceptSaid : Prop := fnExactIsConceptRow.holds Try.pinned (OpenSpec.ofChange fnExactIsConceptSpec)

/-- ITS FALSE NEIGHBOUR: 'it returns false'. Refute it at one input. -/
def fnExactIsConceptWrong : ChangeSpec := { name := "fnExactIsConcept", fn := fun _ => fun
  | [d1, d2] => { results := [.lit (.bool false)], args := [d1, d2] }
  | _ => none }
def FnExactIsConceptWrongFalsely : Prop := fnExactIsConceptRow.holds Try.pinned (OpenSpec.ofChange fnExactIsConceptWrong)

/-- 'laws.FnExactClosureOf': WHATEVER THE INPUT: true; the input reads as it did. -/
def fnExactClosureOfSpec : ChangeSpec := { name := "fnExactClosureOf", fn := fun _ => fun
  | [d1, d2] => { results := [.lit (.bool true)], args := [d1, d2] }
  | _ => none }
def fnExactClosureOfRow : OpenClaim := { program := "ytpijdephgmcoeaa", sum := "84bc7e545df569f870fe4e045f666361e6c9d4dc5d392033120bc9a490918457", func := "loop.example/g00596/laws.FnExactClosureOf", spec := "fnExactClosureOf", unfollowed := true, recurses := true, apart := false }
def FnExactClosureOfSaid : Prop := fnExactClosureOfRow.holds Try.pinned (OpenSpec.ofChange fnExactClosureOfSpec)

/-- ITS FALSE NEIGHBOUR: 'it returns false'. Refute it at one input. -/
def fnExactClosureOfWrong : ChangeSpec := { name := "fnExactClosureOf", fn := fun _ => fun
  | [d1, d2] => { results := [.lit (.bool false)], args := [d1, d2] }
  | _ => none }
def FnExactClosureOfWrongFalsely : Prop := fnExactClosureOfRow.holds Try.pinned (OpenSpec.ofChange fnExactClosureOfWrong)

/-- 'laws.FnExactIsClosed': WHATEVER THE INPUT: true; the input reads as it did. -/
def fnExactIsClosedSpec : ChangeSpec := { name := "fnExactIsClosed", fn := fun _ => fun
  | [d1, d2] => { results := [.lit (.bool true)], args := [d1, d2] }
  | _ => none }
def fnExactIsClosedRow : OpenClaim := { program := "ytpijdephgmcoeaa", sum := "84bc7e545df569f870fe4e045f666361e6c9d4dc5d392033120bc9a490918457", func := "loop.example/g00596/laws.FnExactIsClosed", spec := "fnExactIsClosed", unfollowed := true, recurses := true, apart := false }
def FnExactIsClosedSaid : Prop := fnExactIsClosedRow.holds Try.pinned (OpenSpec.ofChange fnExactIsClosedSpec)

/-- ITS FALSE NEIGHBOUR: 'it returns false'. Refute it at one input. -/
def fnExactIsClosedWrong : ChangeSpec := { name := "fnExactIsClosed", fn := fun _ => fun
  | [d1, d2] => { results := [.lit (.bool false)], args := [d1, d2] }
  | _ => none }
def FnExactIsClosedWrongFalsely : Prop := fnExactIsClosedRow.holds Try.pinned (OpenSpec.ofChange fnExactIsClosedWrong)

/-- 'laws.FnExactConceptAt': WHATEVER THE INPUT: true; the input reads as it did. -/
def fnExactConceptAtSpec : ChangeSpec := { name := "fnExactConceptAt", fn := fun _ => fun
  | [d1, d2] => { results := [.lit (.bool true)], args := [d1, d2] }
  | _ => none }
def fnExactConceptAtRow : OpenClaim := { program := "ytpijdephgmcoeaa", sum := "84bc7e545df569f870fe4e045f666361e6c9d4dc5d392033120bc9a490918457", func := "loop.example/g00596/laws.FnExactConceptAt", spec := "fnExactConceptAt", unfollowed := true, recurses := true, apart := false }
def FnExactConceptAtSaid : Prop := fnExactConceptAtRow.holds Try.pinned (OpenSpec.ofChange fnExactConceptAtSpec)

/-- ITS FALSE NEIGHBOUR: 'it returns false'. Refute it at one input. -/
def fnExactConceptAtWrong : ChangeSpec := { name := "fnExactConceptAt", fn := fun _ => fun
  | [d1, d2] => { results := [.lit (.bool false)], args := [d1, d2] }
  | _ => none }
def FnExactConceptAtWrongFalsely : Prop := fnExactConceptAtRow.holds Try.pinned (OpenSpec.ofChange fnExactConceptAtWrong)

/-- 'laws.FnExactObjectConcept': WHATEVER THE INPUT: true; the input reads as it did. -/
def fnExactObjectConceptSpec : ChangeSpec := { name := "fnExactObjectConcept", fn := fun _ => fun
  | [d1, d2] => { results := [.lit (.bool true)], args := [d1, d2] }
  | _ => none }
def fnExactObjectConceptRow : OpenClaim := { program := "ytpijdephgmcoeaa", sum := "84bc7e545df569f870fe4e045f666361e6c9d4dc5d392033120bc9a490918457", func := "loop.example/g00596/laws.FnExactObjectConcept", spec := "fnExactObjectConcept", unfollowed := true, recurses := true, apart := false }
def FnExactObjectConceptSaid : Prop := fnExactObjectConceptRow.holds Try.pinned (OpenSpec.ofChange fnExactObjectConceptSpec)

/-- ITS FALSE NEIGHBOUR: 'it returns false'. Refute it at one input. -/
def fnExactObjectConceptWrong : ChangeSpec := { name := "fnExactObjectConcept", fn := fun _ => fun
  | [d1, d2] => { results := [.lit (.bool false)], args := [d1, d2] }
  | _ => none }
def FnExactObjectConceptWrongFalsely : Prop := fnExactObjectConceptRow.holds Try.pinned (OpenSpec.ofChange fnExactObjectConceptWrong)

/-- 'laws.FnExactAttributeConcept': WHATEVER THE INPUT: true; the input reads as it did. -/
def fnExactAttributeConceptSpec : ChangeSpec := { name := "fnExactAttributeConcept", fn := fun _ => fun
  | [d1, d2] => { results := [.lit (.bool true)], args := [d1, d2] }
  | _ => none }
def fnExactAttributeConceptRow : OpenClaim := { program := "ytpijdephgmcoeaa", sum := "84bc7e545df569f870fe4e045f666361e6c9d4dc5d392033120bc9a490918457", func := "loop.example/g00596/laws.FnExactAttributeConcept", spec := "fnExactAttributeConcept", unfollowed := true, recurses := true, apart := false }
def FnExactAttributeConceptSaid : Prop := fnExactAttributeConceptRow.holds Try.pinned (OpenSpec.ofChange fnExactAttributeConceptSpec)

/-- ITS FALSE NEIGHBOUR: 'it returns false'. Refute it at one input. -/
def fnExactAttributeConceptWrong : ChangeSpec := { name := "fnExactAttributeConcept", fn := fun _ => fun
  | [d1, d2] => { results := [.lit (.bool false)], args := [d1, d2] }
  | _ => none }
def FnExactAttributeConceptWrongFalsely : Prop := fnExactAttributeConceptRow.holds Try.pinned (OpenSpec.ofChange fnExactAttributeConceptWrong)

/-- 'laws.FnExactSetsText': WHATEVER THE INPUT: true; the input reads as it did. -/
def fnExactSetsTextSpec : ChangeSpec := { name := "fnExactSetsText", fn := fun _ => fun
  | [d] => { results := [.lit (.bool true)], args := [d] }
  | _ => none }
def fnExactSetsTextRow : OpenClaim := { program := "ytpijdephgmcoeaa", sum := "84bc7e545df569f870fe4e045f666361e6c9d4dc5d392033120bc9a490918457", func := "loop.example/g00596/laws.FnExactSetsText", spec := "fnExactSetsText", inPlace := ["internal/abi.NoEscape", "internal/bytealg.MakeNoZero"], apart := false }
def FnExactSetsTextSaid : Prop := fnExactSetsTextRow.holds Try.pinned (OpenSpec.ofChange fnExactSetsTextSpec)

/-- ITS FALSE NEIGHBOUR: 'it returns false'. Refute it at one input. -/
def fnExactSetsTextWrong : ChangeSpec := { name := "fnExactSetsText", fn := fun _ => fun
  | [d] => { results := [.lit (.bool false)], args := [d] }
  | _ => none }
def FnExactSetsTextWrongFalsely : Prop := fnExactSetsTextRow.holds Try.pinned (OpenSpec.ofChange fnExactSetsTextWrong)

/-- 'laws.FnDerivation': WHATEVER THE INPUT: true; the input reads as it did. -/
def fnDerivationSpec : ChangeSpec := { name := "fnDerivation", fn := fun _ => fun
  | [d] => { results := [.lit (.bool true)], args := [d] }
  | _ => none }
def fnDerivationRow : OpenClaim := { program := "ytpijdephgmcoeaa", sum := "84bc7e545df569f870fe4e045f666361e6c9d4dc5d392033120bc9a490918457", func := "loop.example/g00596/laws.FnDerivation", spec := "fnDerivation", unfollowed := true, recurses := true, apart := false }
def FnDerivationSaid : Prop := fnDerivationRow.holds Try.pinned (OpenSpec.ofChange fnDerivationSpec)

/-- ITS FALSE NEIGHBOUR: 'it returns false'. Refute it at one input. -/
def fnDerivationWrong : ChangeSpec := { name := "fnDerivation", fn := fun _ => fun
  | [d] => { results := [.lit (.bool false)], args := [d] }
  | _ => none }
def FnDerivationWrongFalsely : Prop := fnDerivationRow.holds Try.pinned (OpenSpec.ofChange fnDerivationWrong)

/- THE SECOND FORM. 'bulk': how many values and letters a reading holds, each counted each time it is reached (what is shared counts as often as it is met; a slice's spare places count too). A statement '..UptoSaid' is the law's where the arguments, and the package variables that the reading takes, are together of bulk at most 1048576: NARROWER than '..Said'. Prove '..Said' where nothing that the law and all that it calls make is longer than what came in: it says more and counts as full. Else prove '..UptoSaid'. A law counts once. -/
mutual
def uptoBulk {H : Type} : DataW H → Nat
  | .lit (.string bytes) => bytes.length + 1
  | .lit _ => 1
  | .nil => 1
  | .ptr d => uptoBulk d + 1
  | .slice elems spare => uptoBulkAll elems + uptoBulkAll spare + 1
  | .agg parts => uptoBulkAll parts + 1
  | .iface _ d => uptoBulk d + 1
  | .map entries => uptoBulkEntries entries + 1
  | .held _ => 1
def uptoBulkAll {H : Type} : List (DataW H) → Nat
  | [] => 0
  | d :: r => uptoBulk d + uptoBulkAll r
def uptoBulkEntries {H : Type} : List (Lit × DataW H) → Nat
  | [] => 0
  | x :: r => uptoBulkEntry x + uptoBulkEntries r
def uptoBulkEntry {H : Type} : Lit × DataW H → Nat
  | (.string bytes, d) => bytes.length + uptoBulk d + 1
  | (_, d) => uptoBulk d + 1
 end
def uptoSmall : (H : Type) → List (DataW H) → Bool := fun _ ds => decide (uptoBulkAll ds ≤ 1048576)
def OpenSpec.upto (s : _root_.Go.ChangeSpec) : _root_.Go.OpenSpec := { _root_.Go.OpenSpec.ofChange s with cond := some uptoSmall }

/-- 'laws.FnExactEqualContext', WHERE WHAT IT READS IS OF BULK AT MOST 1048576: true; the input reads as it did. -/
def fnExactEqualContextUptoRow : OpenClaim := { program := "ytpijdephgmcoeaa", sum := "84bc7e545df569f870fe4e045f666361e6c9d4dc5d392033120bc9a490918457", func := "loop.example/g00596/laws.FnExactEqualContext", spec := "fnExactEqualContext", apart := false, narrowed := true }
def FnExactEqualContextUptoSaid : Prop := fnExactEqualContextUptoRow.holds Try.pinned (OpenSpec.upto fnExactEqualContextSpec)

/-- 'laws.FnExactParseSet', WHERE WHAT IT READS IS OF BULK AT MOST 1048576: true; the input reads as it did. -/
def fnExactParseSetUptoRow : OpenClaim := { program := "ytpijdephgmcoeaa", sum := "84bc7e545df569f870fe4e045f666361e6c9d4dc5d392033120bc9a490918457", func := "loop.example/g00596/laws.FnExactParseSet", spec := "fnExactParseSet", apart := false, narrowed := true }
def FnExactParseSetUptoSaid : Prop := fnExactParseSetUptoRow.holds Try.pinned (OpenSpec.upto fnExactParseSetSpec)

/-- 'laws.FnExactColumnOf', WHERE WHAT IT READS IS OF BULK AT MOST 1048576: true; the input reads as it did. -/
def fnExactColumnOfUptoRow : OpenClaim := { program := "ytpijdephgmcoeaa", sum := "84bc7e545df569f870fe4e045f666361e6c9d4dc5d392033120bc9a490918457", func := "loop.example/g00596/laws.FnExactColumnOf", spec := "fnExactColumnOf", unfollowed := true, recurses := true, apart := false, narrowed := true }
def FnExactColumnOfUptoSaid : Prop := fnExactColumnOfUptoRow.holds Try.pinned (OpenSpec.upto fnExactColumnOfSpec)

/-- 'laws.FnExactIntentOf', WHERE WHAT IT READS IS OF BULK AT MOST 1048576: true; the input reads as it did. -/
def fnExactIntentOfUptoRow : OpenClaim := { program := "ytpijdephgmcoeaa", sum := "84bc7e545df569f870fe4e045f666361e6c9d4dc5d392033120bc9a490918457", func := "loop.example/g00596/laws.FnExactIntentOf", spec := "fnExactIntentOf", unfollowed := true, recurses := true, apart := false, narrowed := true }
def FnExactIntentOfUptoSaid : Prop := fnExactIntentOfUptoRow.holds Try.pinned (OpenSpec.upto fnExactIntentOfSpec)

/-- 'laws.FnExactJoin', WHERE WHAT IT READS IS OF BULK AT MOST 1048576: true; the input reads as it did. -/
def fnExactJoinUptoRow : OpenClaim := { program := "ytpijdephgmcoeaa", sum := "84bc7e545df569f870fe4e045f666361e6c9d4dc5d392033120bc9a490918457", func := "loop.example/g00596/laws.FnExactJoin", spec := "fnExactJoin", inPlace := ["internal/abi.NoEscape", "internal/bytealg.MakeNoZero"], apart := false, narrowed := true }
def FnExactJoinUptoSaid : Prop := fnExactJoinUptoRow.holds Try.pinned (OpenSpec.upto fnExactJoinSpec)

/-- 'laws.FnExactExtentOf', WHERE WHAT IT READS IS OF BULK AT MOST 1048576: true; the input reads as it did. -/
def fnExactExtentOfUptoRow : OpenClaim := { program := "ytpijdephgmcoeaa", sum := "84bc7e545df569f870fe4e045f666361e6c9d4dc5d392033120bc9a490918457", func := "loop.example/g00596/laws.FnExactExtentOf", spec := "fnExactExtentOf", unfollowed := true, recurses := true, apart := false, narrowed := true }
def FnExactExtentOfUptoSaid : Prop := fnExactExtentOfUptoRow.holds Try.pinned (OpenSpec.upto fnExactExtentOfSpec)

/-- 'laws.FnExactComplementContext', WHERE WHAT IT READS IS OF BULK AT MOST 1048576: true; the input reads as it did. -/
def fnExactComplementContextUptoRow : OpenClaim := { program := "ytpijdephgmcoeaa", sum := "84bc7e545df569f870fe4e045f666361e6c9d4dc5d392033120bc9a490918457", func := "loop.example/g00596/laws.FnExactComplementContext", spec := "fnExactComplementContext", unfollowed := true, recurses := true, apart := false, narrowed := true }
def FnExactComplementContextUptoSaid : Prop := fnExactComplementContextUptoRow.holds Try.pinned (OpenSpec.upto fnExactComplementContextSpec)

/-- 'laws.FnExactDualContext', WHERE WHAT IT READS IS OF BULK AT MOST 1048576: true; the input reads as it did. -/
def fnExactDualContextUptoRow : OpenClaim := { program := "ytpijdephgmcoeaa", sum := "84bc7e545df569f870fe4e045f666361e6c9d4dc5d392033120bc9a490918457", func := "loop.example/g00596/laws.FnExactDualContext", spec := "fnExactDualContext", unfollowed := true, recurses := true, apart := false, narrowed := true }
def FnExactDualContextUptoSaid : Prop := fnExactDualContextUptoRow.holds Try.pinned (OpenSpec.upto fnExactDualContextSpec)

/-- 'laws.FnExactObjectClosure', WHERE WHAT IT READS IS OF BULK AT MOST 1048576: true; the input reads as it did. -/
def fnExactObjectClosureUptoRow : OpenClaim := { program := "ytpijdephgmcoeaa", sum := "84bc7e545df569f870fe4e045f666361e6c9d4dc5d392033120bc9a490918457", func := "loop.example/g00596/laws.FnExactObjectClosure", spec := "fnExactObjectClosure", unfollowed := true, recurses := true, apart := false, narrowed := true }
def FnExactObjectClosureUptoSaid : Prop := fnExactObjectClosureUptoRow.holds Try.pinned (OpenSpec.upto fnExactObjectClosureSpec)

/-- 'laws.FnExactIsConcept', WHERE WHAT IT READS IS OF BULK AT MOST 1048576: true; the input reads as it did. -/
def fnExactIsConceptUptoRow : OpenClaim := { program := "ytpijdephgmcoeaa", sum := "84bc7e545df569f870fe4e045f666361e6c9d4dc5d392033120bc9a490918457", func := "loop.example/g00596/laws.FnExactIsConcept", spec := "fnExactIsConcept", unfollowed := true, recurses := true, apart := false, narrowed := true }
def FnExactIsConceptUptoSaid : Prop := fnExactIsConceptUptoRow.holds Try.pinned (OpenSpec.upto fnExactIsConceptSpec)

/-- 'laws.FnExactClosureOf', WHERE WHAT IT READS IS OF BULK AT MOST 1048576: true; the input reads as it did. -/
def fnExactClosureOfUptoRow : OpenClaim := { program := "ytpijdephgmcoeaa", sum := "84bc7e545df569f870fe4e045f666361e6c9d4dc5d392033120bc9a490918457", func := "loop.example/g00596/laws.FnExactClosureOf", spec := "fnExactClosureOf", unfollowed := true, recurses := true, apart := false, narrowed := true }
def FnExactClosureOfUptoSaid : Prop := fnExactClosureOfUptoRow.holds Try.pinned (OpenSpec.upto fnExactClosureOfSpec)

/-- 'laws.FnExactIsClosed', WHERE WHAT IT READS IS OF BULK AT MOST 1048576: true; the input reads as it did. -/
def fnExactIsClosedUptoRow : OpenClaim := { program := "ytpijdephgmcoeaa", sum := "84bc7e545df569f870fe4e045f666361e6c9d4dc5d392033120bc9a490918457", func := "loop.example/g00596/laws.FnExactIsClosed", spec := "fnExactIsClosed", unfollowed := true, recurses := true, apart := false, narrowed := true }
def FnExactIsClosedUptoSaid : Prop := fnExactIsClosedUptoRow.holds Try.pinned (OpenSpec.upto fnExactIsClosedSpec)

/-- 'laws.FnExactConceptAt', WHERE WHAT IT READS IS OF BULK AT MOST 1048576: true; the input reads as it did. -/
def fnExactConceptAtUptoRow : OpenClaim := { program := "ytpijdephgmcoeaa", sum := "84bc7e545df569f870fe4e045f666361e6c9d4dc5d392033120bc9a490918457", func := "loop.example/g00596/laws.FnExactConceptAt", spec := "fnExactConceptAt", unfollowed := true, recurses := true, apart := false, narrowed := true }
def FnExactConceptAtUptoSaid : Prop := fnExactConceptAtUptoRow.holds Try.pinned (OpenSpec.upto fnExactConceptAtSpec)

/-- 'laws.FnExactObjectConcept', WHERE WHAT IT READS IS OF BULK AT MOST 1048576: true; the input reads as it did. -/
def fnExactObjectConceptUptoRow : OpenClaim := { program := "ytpijdephgmcoeaa", sum := "84bc7e545df569f870fe4e045f666361e6c9d4dc5d392033120bc9a490918457", func := "loop.example/g00596/laws.FnExactObjectConcept", spec := "fnExactObjectConcept", unfollowed := true, recurses := true, apart := false, narrowed := true }
def FnExactObjectConceptUptoSaid : Prop := fnExactObjectConceptUptoRow.holds Try.pinned (OpenSpec.upto fnExactObjectConceptSpec)

/-- 'laws.FnExactAttributeConcept', WHERE WHAT IT READS IS OF BULK AT MOST 1048576: true; the input reads as it did. -/
def fnExactAttributeConceptUptoRow : OpenClaim := { program := "ytpijdephgmcoeaa", sum := "84bc7e545df569f870fe4e045f666361e6c9d4dc5d392033120bc9a490918457", func := "loop.example/g00596/laws.FnExactAttributeConcept", spec := "fnExactAttributeConcept", unfollowed := true, recurses := true, apart := false, narrowed := true }
def FnExactAttributeConceptUptoSaid : Prop := fnExactAttributeConceptUptoRow.holds Try.pinned (OpenSpec.upto fnExactAttributeConceptSpec)

/-- 'laws.FnExactSetsText', WHERE WHAT IT READS IS OF BULK AT MOST 1048576: true; the input reads as it did. -/
def fnExactSetsTextUptoRow : OpenClaim := { program := "ytpijdephgmcoeaa", sum := "84bc7e545df569f870fe4e045f666361e6c9d4dc5d392033120bc9a490918457", func := "loop.example/g00596/laws.FnExactSetsText", spec := "fnExactSetsText", inPlace := ["internal/abi.NoEscape", "internal/bytealg.MakeNoZero"], apart := false, narrowed := true }
def FnExactSetsTextUptoSaid : Prop := fnExactSetsTextUptoRow.holds Try.pinned (OpenSpec.upto fnExactSetsTextSpec)

/-- 'laws.FnDerivation', WHERE WHAT IT READS IS OF BULK AT MOST 1048576: true; the input reads as it did. -/
def fnDerivationUptoRow : OpenClaim := { program := "ytpijdephgmcoeaa", sum := "84bc7e545df569f870fe4e045f666361e6c9d4dc5d392033120bc9a490918457", func := "loop.example/g00596/laws.FnDerivation", spec := "fnDerivation", unfollowed := true, recurses := true, apart := false, narrowed := true }
def FnDerivationUptoSaid : Prop := fnDerivationUptoRow.holds Try.pinned (OpenSpec.upto fnDerivationSpec)

end Rows
end Go.Proofs.Ytpijdephgmcoeaa
