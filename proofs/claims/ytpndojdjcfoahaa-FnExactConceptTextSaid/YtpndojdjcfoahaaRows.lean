/-
  No cell of these rows narrows 'for every input' (looked for: loops, veiled, ifaces, maps, wideKeys, modest, calm, conditions, laid).
  DERIVED. THE GIVEN ROWS OF THIS SEAT. 11 by the template 'for every input the law returns true; each argument reads behind the call as it read before'; 0 by the template 'total and deterministic' (their statements: YtpndojdjcfoahaaTotals.lean).
  GIVEN WITH THE SEED: the statements are not yours to turn. If you find one false, say at which input.
  Laid BY PROGRAM, IN A SANDBOX (cutbox-rows.mjs): the forced cells as the released guide's own fill.sh prints them over the translation 38f817afddd37eb2… (all of the seat's roots in one cut). By AI agents, Wed Nov 11 2026. No macro, syntax, notation, axiom, sorry.
-/
import Derived.Test.YtpndojdjcfoahaaChecked
import GoSem.Claim
import GoSem.ClaimJoined
import GoSem.ClaimMapViews
import Derived.JoinedTies
import Derived.KernelRfl
namespace Go.Proofs.Ytpndojdjcfoahaa
/- THE CELL 'sum', in the pinned program and in every row, IS THE sha256 OF THE DUMP (.gsa) THAT YtpndojdjcfoahaaProg.lean LOADS. Nothing in Lean hashes anything: it is a label: what it is worth is what the hold of that sum in a sandbox is worth. -/
noncomputable def Try.pinned : Pinned := { name := "ytpndojdjcfoahaa", sum := "38f817afddd37eb2ffab379d5e9c82d393b579cf424863cc364ffe11590f86ff", checked := Try.checked }
namespace Rows
def none {H : Type} : Left H := { results := [], args := [] }

/-- 'laws.FnExactConstants': WHATEVER THE INPUT: true; the input reads as it did. -/
def fnExactConstantsSpec : ChangeSpec := { name := "fnExactConstants", fn := fun _ => fun
  | [] => { results := [.lit (.bool true)], args := [] }
  | _ => none }
def fnExactConstantsRow : OpenClaim := { program := "ytpndojdjcfoahaa", sum := "38f817afddd37eb2ffab379d5e9c82d393b579cf424863cc364ffe11590f86ff", func := "loop.example/g00596/laws.FnExactConstants", spec := "fnExactConstants", apart := false }
def FnExactConstantsSaid : Prop := fnExactConstantsRow.holds Try.pinned (OpenSpec.ofChange fnExactConstantsSpec)

/-- ITS FALSE NEIGHBOUR: 'it returns false'. Refute it at one input. -/
def fnExactConstantsWrong : ChangeSpec := { name := "fnExactConstants", fn := fun _ => fun
  | [] => { results := [.lit (.bool false)], args := [] }
  | _ => none }
def FnExactConstantsWrongFalsely : Prop := fnExactConstantsRow.holds Try.pinned (OpenSpec.ofChange fnExactConstantsWrong)

/-- 'laws.FnExactIsSet': WHATEVER THE INPUT: true; the input reads as it did. -/
def fnExactIsSetSpec : ChangeSpec := { name := "fnExactIsSet", fn := fun _ => fun
  | [d1, d2] => { results := [.lit (.bool true)], args := [d1, d2] }
  | _ => none }
def fnExactIsSetRow : OpenClaim := { program := "ytpndojdjcfoahaa", sum := "38f817afddd37eb2ffab379d5e9c82d393b579cf424863cc364ffe11590f86ff", func := "loop.example/g00596/laws.FnExactIsSet", spec := "fnExactIsSet", apart := false }
def FnExactIsSetSaid : Prop := fnExactIsSetRow.holds Try.pinned (OpenSpec.ofChange fnExactIsSetSpec)

/-- ITS FALSE NEIGHBOUR: 'it returns false'. Refute it at one input. -/
def fnExactIsSetWrong : ChangeSpec := { name := "fnExactIsSet", fn := fun _ => fun
  | [d1, d2] => { results := [.lit (.bool false)], args := [d1, d2] }
  | _ => none }
def FnExactIsSetWrongFalsely : Prop := fnExactIsSetRow.holds Try.pinned (OpenSpec.ofChange fnExactIsSetWrong)

/-- 'laws.FnExactHasElement': WHATEVER THE INPUT: true; the input reads as it did. -/
def fnExactHasElementSpec : ChangeSpec := { name := "fnExactHasElement", fn := fun _ => fun
  | [d1, d2] => { results := [.lit (.bool true)], args := [d1, d2] }
  | _ => none }
def fnExactHasElementRow : OpenClaim := { program := "ytpndojdjcfoahaa", sum := "38f817afddd37eb2ffab379d5e9c82d393b579cf424863cc364ffe11590f86ff", func := "loop.example/g00596/laws.FnExactHasElement", spec := "fnExactHasElement", apart := false }
def FnExactHasElementSaid : Prop := fnExactHasElementRow.holds Try.pinned (OpenSpec.ofChange fnExactHasElementSpec)

/-- ITS FALSE NEIGHBOUR: 'it returns false'. Refute it at one input. -/
def fnExactHasElementWrong : ChangeSpec := { name := "fnExactHasElement", fn := fun _ => fun
  | [d1, d2] => { results := [.lit (.bool false)], args := [d1, d2] }
  | _ => none }
def FnExactHasElementWrongFalsely : Prop := fnExactHasElementRow.holds Try.pinned (OpenSpec.ofChange fnExactHasElementWrong)

/-- 'laws.FnExactIsSubset': WHATEVER THE INPUT: true; the input reads as it did. -/
def fnExactIsSubsetSpec : ChangeSpec := { name := "fnExactIsSubset", fn := fun _ => fun
  | [d1, d2] => { results := [.lit (.bool true)], args := [d1, d2] }
  | _ => none }
def fnExactIsSubsetRow : OpenClaim := { program := "ytpndojdjcfoahaa", sum := "38f817afddd37eb2ffab379d5e9c82d393b579cf424863cc364ffe11590f86ff", func := "loop.example/g00596/laws.FnExactIsSubset", spec := "fnExactIsSubset", apart := false }
def FnExactIsSubsetSaid : Prop := fnExactIsSubsetRow.holds Try.pinned (OpenSpec.ofChange fnExactIsSubsetSpec)

/-- ITS FALSE NEIGHBOUR: 'it returns false'. Refute it at one input. -/
def fnExactIsSubsetWrong : ChangeSpec := { name := "fnExactIsSubset", fn := fun _ => fun
  | [d1, d2] => { results := [.lit (.bool false)], args := [d1, d2] }
  | _ => none }
def FnExactIsSubsetWrongFalsely : Prop := fnExactIsSubsetRow.holds Try.pinned (OpenSpec.ofChange fnExactIsSubsetWrong)

/-- 'laws.FnExactFullSet': WHATEVER THE INPUT: true; the input reads as it did. -/
def fnExactFullSetSpec : ChangeSpec := { name := "fnExactFullSet", fn := fun _ => fun
  | [d] => { results := [.lit (.bool true)], args := [d] }
  | _ => none }
def fnExactFullSetRow : OpenClaim := { program := "ytpndojdjcfoahaa", sum := "38f817afddd37eb2ffab379d5e9c82d393b579cf424863cc364ffe11590f86ff", func := "loop.example/g00596/laws.FnExactFullSet", spec := "fnExactFullSet", apart := false }
def FnExactFullSetSaid : Prop := fnExactFullSetRow.holds Try.pinned (OpenSpec.ofChange fnExactFullSetSpec)

/-- ITS FALSE NEIGHBOUR: 'it returns false'. Refute it at one input. -/
def fnExactFullSetWrong : ChangeSpec := { name := "fnExactFullSet", fn := fun _ => fun
  | [d] => { results := [.lit (.bool false)], args := [d] }
  | _ => none }
def FnExactFullSetWrongFalsely : Prop := fnExactFullSetRow.holds Try.pinned (OpenSpec.ofChange fnExactFullSetWrong)

/-- 'laws.FnExactObjectCount': WHATEVER THE INPUT: true; the input reads as it did. -/
def fnExactObjectCountSpec : ChangeSpec := { name := "fnExactObjectCount", fn := fun _ => fun
  | [d] => { results := [.lit (.bool true)], args := [d] }
  | _ => none }
def fnExactObjectCountRow : OpenClaim := { program := "ytpndojdjcfoahaa", sum := "38f817afddd37eb2ffab379d5e9c82d393b579cf424863cc364ffe11590f86ff", func := "loop.example/g00596/laws.FnExactObjectCount", spec := "fnExactObjectCount", apart := false }
def FnExactObjectCountSaid : Prop := fnExactObjectCountRow.holds Try.pinned (OpenSpec.ofChange fnExactObjectCountSpec)

/-- ITS FALSE NEIGHBOUR: 'it returns false'. Refute it at one input. -/
def fnExactObjectCountWrong : ChangeSpec := { name := "fnExactObjectCount", fn := fun _ => fun
  | [d] => { results := [.lit (.bool false)], args := [d] }
  | _ => none }
def FnExactObjectCountWrongFalsely : Prop := fnExactObjectCountRow.holds Try.pinned (OpenSpec.ofChange fnExactObjectCountWrong)

/-- 'laws.FnExactSetText': WHATEVER THE INPUT: true; the input reads as it did. -/
def fnExactSetTextSpec : ChangeSpec := { name := "fnExactSetText", fn := fun _ => fun
  | [d] => { results := [.lit (.bool true)], args := [d] }
  | _ => none }
def fnExactSetTextRow : OpenClaim := { program := "ytpndojdjcfoahaa", sum := "38f817afddd37eb2ffab379d5e9c82d393b579cf424863cc364ffe11590f86ff", func := "loop.example/g00596/laws.FnExactSetText", spec := "fnExactSetText", apart := false }
def FnExactSetTextSaid : Prop := fnExactSetTextRow.holds Try.pinned (OpenSpec.ofChange fnExactSetTextSpec)

/-- ITS FALSE NEIGHBOUR: 'it returns false'. Refute it at one input. -/
def fnExactSetTextWrong : ChangeSpec := { name := "fnExactSetText", fn := fun _ => fun
  | [d] => { results := [.lit (.bool false)], args := [d] }
  | _ => none }
def FnExactSetTextWrongFalsely : Prop := fnExactSetTextRow.holds Try.pinned (OpenSpec.ofChange fnExactSetTextWrong)

/-- 'laws.FnExactElementsOf': WHATEVER THE INPUT: true; the input reads as it did. -/
def fnExactElementsOfSpec : ChangeSpec := { name := "fnExactElementsOf", fn := fun _ => fun
  | [d] => { results := [.lit (.bool true)], args := [d] }
  | _ => none }
def fnExactElementsOfRow : OpenClaim := { program := "ytpndojdjcfoahaa", sum := "38f817afddd37eb2ffab379d5e9c82d393b579cf424863cc364ffe11590f86ff", func := "loop.example/g00596/laws.FnExactElementsOf", spec := "fnExactElementsOf", apart := false }
def FnExactElementsOfSaid : Prop := fnExactElementsOfRow.holds Try.pinned (OpenSpec.ofChange fnExactElementsOfSpec)

/-- ITS FALSE NEIGHBOUR: 'it returns false'. Refute it at one input. -/
def fnExactElementsOfWrong : ChangeSpec := { name := "fnExactElementsOf", fn := fun _ => fun
  | [d] => { results := [.lit (.bool false)], args := [d] }
  | _ => none }
def FnExactElementsOfWrongFalsely : Prop := fnExactElementsOfRow.holds Try.pinned (OpenSpec.ofChange fnExactElementsOfWrong)

/-- 'laws.FnExactCountOf': WHATEVER THE INPUT: true; the input reads as it did. -/
def fnExactCountOfSpec : ChangeSpec := { name := "fnExactCountOf", fn := fun _ => fun
  | [d] => { results := [.lit (.bool true)], args := [d] }
  | _ => none }
def fnExactCountOfRow : OpenClaim := { program := "ytpndojdjcfoahaa", sum := "38f817afddd37eb2ffab379d5e9c82d393b579cf424863cc364ffe11590f86ff", func := "loop.example/g00596/laws.FnExactCountOf", spec := "fnExactCountOf", apart := false }
def FnExactCountOfSaid : Prop := fnExactCountOfRow.holds Try.pinned (OpenSpec.ofChange fnExactCountOfSpec)

/-- ITS FALSE NEIGHBOUR: 'it returns false'. Refute it at one input. -/
def fnExactCountOfWrong : ChangeSpec := { name := "fnExactCountOf", fn := fun _ => fun
  | [d] => { results := [.lit (.bool false)], args := [d] }
  | _ => none }
def FnExactCountOfWrongFalsely : Prop := fnExactCountOfRow.holds Try.pinned (OpenSpec.ofChange fnExactCountOfWrong)

/-- 'laws.FnExactIsContext': WHATEVER THE INPUT: true; the input reads as it did. -/
def fnExactIsContextSpec : ChangeSpec := { name := "fnExactIsContext", fn := fun _ => fun
  | [d] => { results := [.lit (.bool true)], args := [d] }
  | _ => none }
def fnExactIsContextRow : OpenClaim := { program := "ytpndojdjcfoahaa", sum := "38f817afddd37eb2ffab379d5e9c82d393b579cf424863cc364ffe11590f86ff", func := "loop.example/g00596/laws.FnExactIsContext", spec := "fnExactIsContext", unfollowed := true, recurses := true, apart := false }
def FnExactIsContextSaid : Prop := fnExactIsContextRow.holds Try.pinned (OpenSpec.ofChange fnExactIsContextSpec)

/-- ITS FALSE NEIGHBOUR: 'it returns false'. Refute it at one input. -/
def fnExactIsContextWrong : ChangeSpec := { name := "fnExactIsContext", fn := fun _ => fun
  | [d] => { results := [.lit (.bool false)], args := [d] }
  | _ => none }
def FnExactIsContextWrongFalsely : Prop := fnExactIsContextRow.holds Try.pinned (OpenSpec.ofChange fnExactIsContextWrong)

/-- 'laws.FnExactConceptText': WHATEVER THE INPUT: true; the input reads as it did. -/
def fnExactConceptTextSpec : ChangeSpec := { name := "fnExactConceptText", fn := fun _ => fun
  | [d] => { results := [.lit (.bool true)], args := [d] }
  | _ => none }
def fnExactConceptTextRow : OpenClaim := { program := "ytpndojdjcfoahaa", sum := "38f817afddd37eb2ffab379d5e9c82d393b579cf424863cc364ffe11590f86ff", func := "loop.example/g00596/laws.FnExactConceptText", spec := "fnExactConceptText", apart := false }
def FnExactConceptTextSaid : Prop := fnExactConceptTextRow.holds Try.pinned (OpenSpec.ofChange fnExactConceptTextSpec)

/-- ITS FALSE NEIGHBOUR: 'it returns false'. Refute it at one input. -/
def fnExactConceptTextWrong : ChangeSpec := { name := "fnExactConceptText", fn := fun _ => fun
  | [d] => { results := [.lit (.bool false)], args := [d] }
  | _ => none }
def FnExactConceptTextWrongFalsely : Prop := fnExactConceptTextRow.holds Try.pinned (OpenSpec.ofChange fnExactConceptTextWrong)

/- THE SECOND FORM. 'bulk': how many values and letters a reading holds, each counted each time it is reached (what is shared counts as often as it is met; a slice's spare places count too). A statement '..UptoSaid' is the law's where the arguments, and the package variables that the reading takes, are together of bulk at most 1048576: NARROWER than '..Said'. Prove '..Said' where nothing that the law and all that it calls make is longer than what came in: it says more and counts as full. Else prove '..UptoSaid'. A law counts once. -/
mutual
def uptoBulk {H : Type} : DataW H → Nat
  | .lit (.string bytes) => bytes.length + 1
  | .lit _ => 1
  | .nil => 1
  | .ptr d => uptoBulk d + 1
  | .slice elems spare => uptoBulkAll elems + uptoBulkAll spare + 1
  | .agg parts => uptoBulkAll parts + 1
  | .iface _ d => uptoBulk d + 1
  | .map entries => uptoBulkEntries entries + 1
  | .held _ => 1
def uptoBulkAll {H : Type} : List (DataW H) → Nat
  | [] => 0
  | d :: r => uptoBulk d + uptoBulkAll r
def uptoBulkEntries {H : Type} : List (Lit × DataW H) → Nat
  | [] => 0
  | x :: r => uptoBulkEntry x + uptoBulkEntries r
def uptoBulkEntry {H : Type} : Lit × DataW H → Nat
  | (.string bytes, d) => bytes.length + uptoBulk d + 1
  | (_, d) => uptoBulk d + 1
 end
def uptoSmall : (H : Type) → List (DataW H) → Bool := fun _ ds => decide (uptoBulkAll ds ≤ 1048576)
def OpenSpec.upto (s : _root_.Go.ChangeSpec) : _root_.Go.OpenSpec := { _root_.Go.OpenSpec.ofChange s with cond := some uptoSmall }

/-- 'laws.FnExactConstants', WHERE WHAT IT READS IS OF BULK AT MOST 1048576: true; the input reads as it did. -/
def fnExactConstantsUptoRow : OpenClaim := { program := "ytpndojdjcfoahaa", sum := "38f817afddd37eb2ffab379d5e9c82d393b579cf424863cc364ffe11590f86ff", func := "loop.example/g00596/laws.FnExactConstants", spec := "fnExactConstants", apart := false, narrowed := true }
def FnExactConstantsUptoSaid : Prop := fnExactConstantsUptoRow.holds Try.pinned (OpenSpec.upto fnExactConstantsSpec)

/-- 'laws.FnExactIsSet', WHERE WHAT IT READS IS OF BULK AT MOST 1048576: true; the input reads as it did. -/
def fnExactIsSetUptoRow : OpenClaim := { program := "ytpndojdjcfoahaa", sum := "38f817afddd37eb2ffab379d5e9c82d393b579cf424863cc364ffe11590f86ff", func := "loop.example/g00596/laws.FnExactIsSet", spec := "fnExactIsSet", apart := false, narrowed := true }
def FnExactIsSetUptoSaid : Prop := fnExactIsSetUptoRow.holds Try.pinned (OpenSpec.upto fnExactIsSetSpec)

/-- 'laws.FnExactHasElement', WHERE WHAT IT READS IS OF BULK AT MOST 1048576: true; the input reads as it did. -/
def fnExactHasElementUptoRow : OpenClaim := { program := "ytpndojdjcfoahaa", sum := "38f817afddd37eb2ffab379d5e9c82d393b579cf424863cc364ffe11590f86ff", func := "loop.example/g00596/laws.FnExactHasElement", spec := "fnExactHasElement", apart := false, narrowed := true }
def FnExactHasElementUptoSaid : Prop := fnExactHasElementUptoRow.holds Try.pinned (OpenSpec.upto fnExactHasElementSpec)

/-- 'laws.FnExactIsSubset', WHERE WHAT IT READS IS OF BULK AT MOST 1048576: true; the input reads as it did. -/
def fnExactIsSubsetUptoRow : OpenClaim := { program := "ytpndojdjcfoahaa", sum := "38f817afddd37eb2ffab379d5e9c82d393b579cf424863cc364ffe11590f86ff", func := "loop.example/g00596/laws.FnExactIsSubset", spec := "fnExactIsSubset", apart := false, narrowed := true }
def FnExactIsSubsetUptoSaid : Prop := fnExactIsSubsetUptoRow.holds Try.pinned (OpenSpec.upto fnExactIsSubsetSpec)

/-- 'laws.FnExactFullSet', WHERE WHAT IT READS IS OF BULK AT MOST 1048576: true; the input reads as it did. -/
def fnExactFullSetUptoRow : OpenClaim := { program := "ytpndojdjcfoahaa", sum := "38f817afddd37eb2ffab379d5e9c82d393b579cf424863cc364ffe11590f86ff", func := "loop.example/g00596/laws.FnExactFullSet", spec := "fnExactFullSet", apart := false, narrowed := true }
def FnExactFullSetUptoSaid : Prop := fnExactFullSetUptoRow.holds Try.pinned (OpenSpec.upto fnExactFullSetSpec)

/-- 'laws.FnExactObjectCount', WHERE WHAT IT READS IS OF BULK AT MOST 1048576: true; the input reads as it did. -/
def fnExactObjectCountUptoRow : OpenClaim := { program := "ytpndojdjcfoahaa", sum := "38f817afddd37eb2ffab379d5e9c82d393b579cf424863cc364ffe11590f86ff", func := "loop.example/g00596/laws.FnExactObjectCount", spec := "fnExactObjectCount", apart := false, narrowed := true }
def FnExactObjectCountUptoSaid : Prop := fnExactObjectCountUptoRow.holds Try.pinned (OpenSpec.upto fnExactObjectCountSpec)

/-- 'laws.FnExactSetText', WHERE WHAT IT READS IS OF BULK AT MOST 1048576: true; the input reads as it did. -/
def fnExactSetTextUptoRow : OpenClaim := { program := "ytpndojdjcfoahaa", sum := "38f817afddd37eb2ffab379d5e9c82d393b579cf424863cc364ffe11590f86ff", func := "loop.example/g00596/laws.FnExactSetText", spec := "fnExactSetText", apart := false, narrowed := true }
def FnExactSetTextUptoSaid : Prop := fnExactSetTextUptoRow.holds Try.pinned (OpenSpec.upto fnExactSetTextSpec)

/-- 'laws.FnExactElementsOf', WHERE WHAT IT READS IS OF BULK AT MOST 1048576: true; the input reads as it did. -/
def fnExactElementsOfUptoRow : OpenClaim := { program := "ytpndojdjcfoahaa", sum := "38f817afddd37eb2ffab379d5e9c82d393b579cf424863cc364ffe11590f86ff", func := "loop.example/g00596/laws.FnExactElementsOf", spec := "fnExactElementsOf", apart := false, narrowed := true }
def FnExactElementsOfUptoSaid : Prop := fnExactElementsOfUptoRow.holds Try.pinned (OpenSpec.upto fnExactElementsOfSpec)

/-- 'laws.FnExactCountOf', WHERE WHAT IT READS IS OF BULK AT MOST 1048576: true; the input reads as it did. -/
def fnExactCountOfUptoRow : OpenClaim := { program := "ytpndojdjcfoahaa", sum := "38f817afddd37eb2ffab379d5e9c82d393b579cf424863cc364ffe11590f86ff", func := "loop.example/g00596/laws.FnExactCountOf", spec := "fnExactCountOf", apart := false, narrowed := true }
def FnExactCountOfUptoSaid : Prop := fnExactCountOfUptoRow.holds Try.pinned (OpenSpec.upto fnExactCountOfSpec)

/-- 'laws.FnExactIsContext', WHERE WHAT IT READS IS OF BULK AT MOST 1048576: true; the input reads as it did. -/
def fnExactIsContextUptoRow : OpenClaim := { program := "ytpndojdjcfoahaa", sum := "38f817afddd37eb2ffab379d5e9c82d393b579cf424863cc364ffe11590f86ff", func := "loop.example/g00596/laws.FnExactIsContext", spec := "fnExactIsContext", unfollowed := true, recurses := true, apart := false, narrowed := true }
def FnExactIsContextUptoSaid : Prop := fnExactIsContextUptoRow.holds Try.pinned (OpenSpec.upto fnExactIsContextSpec)

/-- 'laws.FnExactConceptText', WHERE WHAT IT READS IS OF BULK AT MOST 1048576: true; the input reads as it did. -/
def fnExactConceptTextUptoRow : OpenClaim := { program := "ytpndojdjcfoahaa", sum := "38f817afddd37eb2ffab379d5e9c82d393b579cf424863cc364ffe11590f86ff", func := "loop.example/g00596/laws.FnExactConceptText", spec := "fnExactConceptText", apart := false, narrowed := true }
def FnExactConceptTextUptoSaid : Prop := fnExactConceptTextUptoRow.holds Try.pinned (OpenSpec.upto fnExactConceptTextSpec)

end Rows
end Go.Proofs.Ytpndojdjcfoahaa
