-- Written by a program of this session (wip/myprint.py), which runs the kit's print with contracts proved by hand; not the kit's own print. Lean checks it.
import Derived.Test.YtpijdephgmcoeaaRows
import Derived.Test.YtpijdephgmcoeaaPFnExactParseSetx2
import Derived.Test.YtpijdephgmcoeaaPureFnExactParseSet
import Derived.Test.YtpijdephgmcoeaaRd
import Derived.Test.YtpijdephgmcoeaaFacts
import Derived.WalkKit
import Derived.ProofKit
import Derived.OpenShut
import Derived.ShutString
import Derived.ChangeOld
import Derived.Below
import Derived.SizedLaws
import Derived.Lib.SmallJoins
namespace Go.Proofs.Ytpijdephgmcoeaa.fnExactParseSet
open Go.ChangeShapes Go.WideShapes Go.ChangeAt Go.RowKit Go.Proofs.YtpijdephgmcoeaaRd
open Go.ChangeMaps (open_string shut_string)
set_option linter.unusedVariables false
theorem own : ownKnob Try.prog.godebug = none := by kernel_rfl
theorem laidOut : laidOutB Try.prog = true := YtpijdephgmcoeaaFacts.laidOut
set_option maxRecDepth 100000 in
theorem lifted (os : Os) (started : os.Started) (H : Type) (enc : TypeId × Value → H) :
    ReturnsInHanded {} Try.checked os 4 .any (Rows.fnExactParseSetSpec.pre6 enc Try.prog Try.f4 Rows.fnExactParseSetRow.domain false) (Rows.fnExactParseSetSpec.post enc Try.prog Try.f4 false true false false) := by
  refine returnsInHanded_of_change_sized (C := Try.checked) own started (by kernel_rfl) Try.func4
    (ChangeSpec.witness6 (enc := enc) (C := Try.checked) false ⟨#[], #[.string ByteArray.empty], []⟩ 8 (by kernel_rfl) (by kernel_rfl) (by kernel_rfl) (by kernel_rfl)) ?_
  intro W base args ds gs before hval0 hW hcnd hsz0 _
  have hsz : (DataW.weightsEach Try.prog (Try.f4.params.toList ++ Rows.fnExactParseSetSpec.plain.varTypes Try.prog) (ds ++ gs)).all (· ≤ reachBytes) = true := hsz0
  have hval : ∀ (j : Nat) t v, Try.f4.params[j]? = some t → args[j]? = some v → Value.okWide Try.prog W .any base t v := hval0
  have hW' := hW
  obtain ⟨p, q, hA0, hV, rfl, hfz, hnd⟩ := hW
  have hA : DataW.TrodAll enc Try.prog W 0 (fun _ => true) true Try.f4.params.toList args.toList ds p := hA0
  rw [Try.params4] at hA hval hsz
  obtain ⟨v0, vs0, d0, ds0, p0, q0, hargs, rfl, rfl, h0, r0⟩ := trodAll_cons hA
  obtain ⟨rfl, rfl, rfl⟩ := trodAll_nil r0
  obtain rfl : args = #[v0] := by cases args; simp_all
  obtain ⟨rfl, rfl⟩ := trodVars_none hV
  obtain ⟨a0, rfl, rfl, rfl, y0⟩ := open_string Try.underlying9 (hval 0 9 v0 rfl rfl) h0
  have hw0 : a0.size ≤ 140737488351232 := by
    have z := sized_string hsz (j := 0) (t := 9) rfl rfl
    rw [Array.length_toList] at z
    exact z
  obtain ⟨k, h⟩ := Pure.FnExactParseSet a0 hw0
  clear hA0 hval0 hsz0 hsz
  refine (PFnExactParseSet.laws_FnExactParseSet.calls k a0 true W  h).mono fun e W' hpost => ?_
  obtain ⟨he, bel⟩ := hpost
  subst he
  exact ⟨_, rfl, _, _, _, [], _, [], hW', trodAll_mk1 (shut_bool Try.underlying4 _), (trodAll_cons_mk (shut_string Try.underlying9 y0) trodAll_mk0), rfl, bel.frame _, fun h => by cases h⟩
theorem cf0 : (Rows.fnExactParseSetRow.wf (OpenSpec.ofChange Rows.fnExactParseSetSpec)) = true := by kernel_rfl
theorem cf1 : (laidOutB Try.prog) = true := laidOut
theorem cf2 : (mapsRowed Try.prog) = true := by kernel_rfl
theorem cf3 : (Try.f4.params.all (Try.prog.readableRec ·)) = true := by kernel_rfl
theorem cf4 : (namedTie Try.prog Rows.fnExactParseSetRow.named Rows.fnExactParseSetSpec.vars) = true := by kernel_rfl
theorem cf5 : (Rows.fnExactParseSetRow.stops == []) = true := by kernel_rfl
theorem cf6 : (Try.prog.stops == []) = true := by kernel_rfl
theorem cf7 : (Rows.fnExactParseSetRow.knobs == []) = true := by kernel_rfl
theorem cf8 : (Try.prog.stopKnobs == []) = true := by kernel_rfl
theorem cf9 : (Rows.fnExactParseSetRow.inPlace == Try.prog.inPlace 4) = true := by kernel_rfl
theorem cf10 : (Rows.fnExactParseSetRow.unfollowed == Try.prog.unfollowed 4) = true := by kernel_rfl
theorem cf11 : (Rows.fnExactParseSetRow.recurses == Try.prog.recurses 4) = true := by kernel_rfl
theorem cf12 : (Rows.fnExactParseSetRow.named == Try.prog.varsNamed 4) = true := by kernel_rfl
theorem cf13 : (Rows.fnExactParseSetRow.maps == (Try.f4.params.toList ++ Rows.fnExactParseSetSpec.plain.varTypes Try.prog).any (Try.prog.mapsRec ·)) = true := by kernel_rfl
theorem cf14 : (Rows.fnExactParseSetRow.ifaces == (Try.f4.params.toList ++ Rows.fnExactParseSetSpec.plain.varTypes Try.prog).any (Try.prog.ifacesRec ·)) = true := by kernel_rfl
theorem cf15 : (Rows.fnExactParseSetRow.mapsOut == Try.prog.mapsAmong Try.f4.resultTypes.toList) = true := by kernel_rfl
theorem cf16 : (Rows.fnExactParseSetRow.loops == (Try.f4.params.toList ++ Rows.fnExactParseSetSpec.plain.varTypes Try.prog).any (Try.prog.loopsFrom ·)) = true := by kernel_rfl
theorem cf17 : (Rows.fnExactParseSetRow.wideKeys == (Try.f4.params.toList ++ Rows.fnExactParseSetSpec.plain.varTypes Try.prog ++ Try.f4.resultTypes.toList).any (Try.prog.wideKeysFrom ·)) = true := by kernel_rfl
theorem cf18 : (Rows.fnExactParseSetSpec.vars.all (Try.prog.varReadable ·)) = true := by kernel_rfl
theorem cf19 : (Try.f4.resultTypes.all (fun t => Try.prog.readableRec t && decide (t < Try.prog.types.size))) = true := by kernel_rfl
theorem cf20 : (Rows.fnExactParseSetRow.ifacesOut == Try.f4.resultTypes.toList.any (Try.prog.ifacesRec ·)) = true := by kernel_rfl
theorem cf21 : (Rows.fnExactParseSetRow.loopsOut == Try.f4.resultTypes.toList.any (Try.prog.loopsFrom ·)) = true := by kernel_rfl
theorem cf22 : (Rows.fnExactParseSetRow.plainKeys == Try.prog.plainKeys) = true := by kernel_rfl
theorem cf23 : (Rows.fnExactParseSetRow.shortTexts.isNone) = true := by kernel_rfl
theorem cf24 : (Try.prog.stopsHeard) = true := by kernel_rfl
theorem cf25 : (Try.prog.mayEnter) = true := YtpijdephgmcoeaaFacts.may
theorem cf26 : (Rows.fnExactParseSetRow.lifted == Try.prog.liftsFinal) = true := by rw [YtpijdephgmcoeaaFacts.lif]; kernel_rfl
theorem cf27 : (Try.prog.make == some Rows.fnExactParseSetRow.make) = true := by rw [YtpijdephgmcoeaaFacts.mak]; kernel_rfl
theorem cf28 : (Rows.fnExactParseSetRow.kinds == (if Rows.fnExactParseSetRow.domain.isEmpty then [] else Try.f4.params.toList.map fun t => match Try.prog.underlying t with | some (.int k) => some k | _ => none)) = true := by kernel_rfl
theorem cf29 : (Rows.fnExactParseSetRow.pinned == Rows.fnExactParseSetRow.pinnedBy) = true := by kernel_rfl
theorem cf30 : (Rows.fnExactParseSetRow.veiled == (Try.f4.params.toList ++ Rows.fnExactParseSetSpec.plain.varTypes Try.prog ++ Try.f4.resultTypes.toList).any (Try.prog.veiledRec ·)) = true := by kernel_rfl
theorem cf31 : (Rows.fnExactParseSetRow.veiledFits Try.prog Try.f4.params.toList (Try.f4.params.toList ++ Rows.fnExactParseSetSpec.plain.varTypes Try.prog ++ Try.f4.resultTypes.toList)) = true := by kernel_rfl
theorem closed : joinedFacts Try.prog 4 Try.f4 Rows.fnExactParseSetSpec Rows.fnExactParseSetRow = true := by
  unfold joinedFacts
  simp only [Bool.and_eq_true]
  exact ⟨⟨⟨⟨⟨⟨⟨⟨⟨⟨⟨⟨⟨⟨⟨⟨⟨⟨⟨⟨⟨⟨⟨⟨⟨⟨⟨⟨⟨⟨⟨cf0, cf1⟩, cf2⟩, cf3⟩, cf4⟩, cf5⟩, cf6⟩, cf7⟩, cf8⟩, cf9⟩, cf10⟩, cf11⟩, cf12⟩, cf13⟩, cf14⟩, cf15⟩, cf16⟩, cf17⟩, cf18⟩, cf19⟩, cf20⟩, cf21⟩, cf22⟩, cf23⟩, cf24⟩, cf25⟩, cf26⟩, cf27⟩, cf28⟩, cf29⟩, cf30⟩, cf31⟩
theorem over : Rows.fnExactParseSetRow.holds Try.pinned (OpenSpec.ofChange Rows.fnExactParseSetSpec) :=
  OpenClaim.holds_of_wide 4 Try.f4 rfl rfl rfl rfl rfl rfl rfl ⟨rfl, rfl, rfl, rfl, rfl⟩ rfl rfl rfl rfl rfl (by kernel_rfl) Try.func4 closed
    (of_decide_eq_true (by kernel_rfl)) (by unfold Func.isWrapper; first | (rw [if_pos (by decide +kernel)]; kernel_rfl) | (rw [if_neg (by decide +kernel)]; exact ⟨rfl, rfl⟩))
    (fun os started H enc _ => lifted os started H enc)
theorem proved : Rows.FnExactParseSetSaid := over
#print axioms proved
end Go.Proofs.Ytpijdephgmcoeaa.fnExactParseSet
namespace Go.Proofs.Ytpijdephgmcoeaa
/-- The row, under a short name, for the claim. -/
theorem fnExactParseSet_holds : Rows.FnExactParseSetSaid := fnExactParseSet.proved
end Go.Proofs.Ytpijdephgmcoeaa
