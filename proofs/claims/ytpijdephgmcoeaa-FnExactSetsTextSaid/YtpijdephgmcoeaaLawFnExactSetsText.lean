-- Written by a program of this session (wip/myprint.py), which runs the kit's print with contracts proved by hand; not the kit's own print. Lean checks it.
import Derived.Test.YtpijdephgmcoeaaRows
import Derived.Test.YtpijdephgmcoeaaPFnExactSetsTextx3
import Derived.Test.YtpijdephgmcoeaaPureFnExactSetsText
import Derived.Test.YtpijdephgmcoeaaRd
import Derived.Test.YtpijdephgmcoeaaFacts
import Derived.WalkKit
import Derived.ProofKit
import Derived.OpenShut
import Derived.ShutString
import Derived.ChangeOld
import Derived.Below
import Derived.SizedLaws
import Derived.Lib.SmallJoins
namespace Go.Proofs.Ytpijdephgmcoeaa.fnExactSetsText
open Go.ChangeShapes Go.WideShapes Go.ChangeAt Go.RowKit Go.Proofs.YtpijdephgmcoeaaRd
open Go.ChangeMaps (open_string shut_string)
set_option linter.unusedVariables false
theorem own : ownKnob Try.prog.godebug = none := by kernel_rfl
theorem laidOut : laidOutB Try.prog = true := YtpijdephgmcoeaaFacts.laidOut
set_option maxRecDepth 100000 in
theorem lifted (os : Os) (started : os.Started) (H : Type) (enc : TypeId × Value → H) :
    ReturnsInHanded {} Try.checked os 18 .any (Rows.fnExactSetsTextSpec.pre6 enc Try.prog Try.f18 Rows.fnExactSetsTextRow.domain false) (Rows.fnExactSetsTextSpec.post enc Try.prog Try.f18 false true false false) := by
  refine returnsInHanded_of_change_sized (C := Try.checked) own started (by kernel_rfl) Try.func18
    (ChangeSpec.witness6 (enc := enc) (C := Try.checked) false ⟨#[], #[.slice none 0 0], []⟩ 8 (by kernel_rfl) (by kernel_rfl) (by kernel_rfl) (by kernel_rfl)) ?_
  intro W base args ds gs before hval0 hW hcnd hsz0 _
  have hsz : (DataW.weightsEach Try.prog (Try.f18.params.toList ++ Rows.fnExactSetsTextSpec.plain.varTypes Try.prog) (ds ++ gs)).all (· ≤ reachBytes) = true := hsz0
  have hval : ∀ (j : Nat) t v, Try.f18.params[j]? = some t → args[j]? = some v → Value.okWide Try.prog W .any base t v := hval0
  have hW' := hW
  obtain ⟨p, q, hA0, hV, rfl, hfz, hnd⟩ := hW
  have hA : DataW.TrodAll enc Try.prog W 0 (fun _ => true) true Try.f18.params.toList args.toList ds p := hA0
  rw [Try.params18] at hA hval hsz
  obtain ⟨v0, vs0, d0, ds0, p0, q0, hargs, rfl, rfl, h0, r0⟩ := trodAll_cons hA
  obtain ⟨rfl, rfl, rfl⟩ := trodAll_nil r0
  obtain rfl : args = #[v0] := by cases args; simp_all
  obtain ⟨rfl, rfl⟩ := trodVars_none hV
  have k0 := h0
  have lt0 : ∀ x ∈ p0, x.block < W.heap.size := by obtain ⟨m, hm⟩ := k0; exact DataW.trod_lt m _ _ _ hm
  obtain ⟨a0_, len0_, cap0_, rfl⟩ := okWide_slice Try.underlying22 (hval 0 22 v0 rfl rfl)
  obtain ⟨m0, hf0⟩ := h0
  have hf0 := row_one hf0
  obtain ⟨A0, c0, l0, hv0_, hc0, hm0, hr0, hw0⟩ := row_ints Try.underlying22 Try.underlying3 (by kernel_rfl) hf0
  simp only [Value.slice.injEq] at hv0_
  obtain ⟨rfl, rfl, rfl⟩ := hv0_
  obtain ⟨k, h⟩ := Pure.FnExactSetsText l0 hm0 hw0
  clear hA0 hval0 hsz0 hsz
  refine (PFnExactSetsText.laws_FnExactSetsText.calls k _ _ l0 true W hr0 hc0 h).mono fun e W' hpost => ?_
  obtain ⟨he, bel⟩ := hpost
  subst he
  exact ⟨_, rfl, _, _, _, [], _, [], hW', trodAll_mk1 (shut_bool Try.underlying4 _), (trodAll_cons_mk (Below.trod laidOut (by kernel_rfl) (of_decide_eq_true (by kernel_rfl)) k0 bel lt0) trodAll_mk0), rfl, bel.frame _, fun h => by cases h⟩
theorem cf0 : (Rows.fnExactSetsTextRow.wf (OpenSpec.ofChange Rows.fnExactSetsTextSpec)) = true := by kernel_rfl
theorem cf1 : (laidOutB Try.prog) = true := laidOut
theorem cf2 : (mapsRowed Try.prog) = true := by kernel_rfl
theorem cf3 : (Try.f18.params.all (Try.prog.readableRec ·)) = true := by kernel_rfl
theorem cf4 : (namedTie Try.prog Rows.fnExactSetsTextRow.named Rows.fnExactSetsTextSpec.vars) = true := by kernel_rfl
theorem cf5 : (Rows.fnExactSetsTextRow.stops == []) = true := by kernel_rfl
theorem cf6 : (Try.prog.stops == []) = true := by kernel_rfl
theorem cf7 : (Rows.fnExactSetsTextRow.knobs == []) = true := by kernel_rfl
theorem cf8 : (Try.prog.stopKnobs == []) = true := by kernel_rfl
theorem cf9 : (Rows.fnExactSetsTextRow.inPlace == Try.prog.inPlace 18) = true := by kernel_rfl
theorem cf10 : (Rows.fnExactSetsTextRow.unfollowed == Try.prog.unfollowed 18) = true := by kernel_rfl
theorem cf11 : (Rows.fnExactSetsTextRow.recurses == Try.prog.recurses 18) = true := by kernel_rfl
theorem cf12 : (Rows.fnExactSetsTextRow.named == Try.prog.varsNamed 18) = true := by kernel_rfl
theorem cf13 : (Rows.fnExactSetsTextRow.maps == (Try.f18.params.toList ++ Rows.fnExactSetsTextSpec.plain.varTypes Try.prog).any (Try.prog.mapsRec ·)) = true := by kernel_rfl
theorem cf14 : (Rows.fnExactSetsTextRow.ifaces == (Try.f18.params.toList ++ Rows.fnExactSetsTextSpec.plain.varTypes Try.prog).any (Try.prog.ifacesRec ·)) = true := by kernel_rfl
theorem cf15 : (Rows.fnExactSetsTextRow.mapsOut == Try.prog.mapsAmong Try.f18.resultTypes.toList) = true := by kernel_rfl
theorem cf16 : (Rows.fnExactSetsTextRow.loops == (Try.f18.params.toList ++ Rows.fnExactSetsTextSpec.plain.varTypes Try.prog).any (Try.prog.loopsFrom ·)) = true := by kernel_rfl
theorem cf17 : (Rows.fnExactSetsTextRow.wideKeys == (Try.f18.params.toList ++ Rows.fnExactSetsTextSpec.plain.varTypes Try.prog ++ Try.f18.resultTypes.toList).any (Try.prog.wideKeysFrom ·)) = true := by kernel_rfl
theorem cf18 : (Rows.fnExactSetsTextSpec.vars.all (Try.prog.varReadable ·)) = true := by kernel_rfl
theorem cf19 : (Try.f18.resultTypes.all (fun t => Try.prog.readableRec t && decide (t < Try.prog.types.size))) = true := by kernel_rfl
theorem cf20 : (Rows.fnExactSetsTextRow.ifacesOut == Try.f18.resultTypes.toList.any (Try.prog.ifacesRec ·)) = true := by kernel_rfl
theorem cf21 : (Rows.fnExactSetsTextRow.loopsOut == Try.f18.resultTypes.toList.any (Try.prog.loopsFrom ·)) = true := by kernel_rfl
theorem cf22 : (Rows.fnExactSetsTextRow.plainKeys == Try.prog.plainKeys) = true := by kernel_rfl
theorem cf23 : (Rows.fnExactSetsTextRow.shortTexts.isNone) = true := by kernel_rfl
theorem cf24 : (Try.prog.stopsHeard) = true := by kernel_rfl
theorem cf25 : (Try.prog.mayEnter) = true := YtpijdephgmcoeaaFacts.may
theorem cf26 : (Rows.fnExactSetsTextRow.lifted == Try.prog.liftsFinal) = true := by rw [YtpijdephgmcoeaaFacts.lif]; kernel_rfl
theorem cf27 : (Try.prog.make == some Rows.fnExactSetsTextRow.make) = true := by rw [YtpijdephgmcoeaaFacts.mak]; kernel_rfl
theorem cf28 : (Rows.fnExactSetsTextRow.kinds == (if Rows.fnExactSetsTextRow.domain.isEmpty then [] else Try.f18.params.toList.map fun t => match Try.prog.underlying t with | some (.int k) => some k | _ => none)) = true := by kernel_rfl
theorem cf29 : (Rows.fnExactSetsTextRow.pinned == Rows.fnExactSetsTextRow.pinnedBy) = true := by kernel_rfl
theorem cf30 : (Rows.fnExactSetsTextRow.veiled == (Try.f18.params.toList ++ Rows.fnExactSetsTextSpec.plain.varTypes Try.prog ++ Try.f18.resultTypes.toList).any (Try.prog.veiledRec ·)) = true := by kernel_rfl
theorem cf31 : (Rows.fnExactSetsTextRow.veiledFits Try.prog Try.f18.params.toList (Try.f18.params.toList ++ Rows.fnExactSetsTextSpec.plain.varTypes Try.prog ++ Try.f18.resultTypes.toList)) = true := by kernel_rfl
theorem closed : joinedFacts Try.prog 18 Try.f18 Rows.fnExactSetsTextSpec Rows.fnExactSetsTextRow = true := by
  unfold joinedFacts
  simp only [Bool.and_eq_true]
  exact ⟨⟨⟨⟨⟨⟨⟨⟨⟨⟨⟨⟨⟨⟨⟨⟨⟨⟨⟨⟨⟨⟨⟨⟨⟨⟨⟨⟨⟨⟨⟨cf0, cf1⟩, cf2⟩, cf3⟩, cf4⟩, cf5⟩, cf6⟩, cf7⟩, cf8⟩, cf9⟩, cf10⟩, cf11⟩, cf12⟩, cf13⟩, cf14⟩, cf15⟩, cf16⟩, cf17⟩, cf18⟩, cf19⟩, cf20⟩, cf21⟩, cf22⟩, cf23⟩, cf24⟩, cf25⟩, cf26⟩, cf27⟩, cf28⟩, cf29⟩, cf30⟩, cf31⟩
theorem over : Rows.fnExactSetsTextRow.holds Try.pinned (OpenSpec.ofChange Rows.fnExactSetsTextSpec) :=
  OpenClaim.holds_of_wide 18 Try.f18 rfl rfl rfl rfl rfl rfl rfl ⟨rfl, rfl, rfl, rfl, rfl⟩ rfl rfl rfl rfl rfl (by kernel_rfl) Try.func18 closed
    (of_decide_eq_true (by kernel_rfl)) (by unfold Func.isWrapper; first | (rw [if_pos (by decide +kernel)]; kernel_rfl) | (rw [if_neg (by decide +kernel)]; exact ⟨rfl, rfl⟩))
    (fun os started H enc _ => lifted os started H enc)
theorem proved : Rows.FnExactSetsTextSaid := over
#print axioms proved
end Go.Proofs.Ytpijdephgmcoeaa.fnExactSetsText
namespace Go.Proofs.Ytpijdephgmcoeaa
/-- The row, under a short name, for the claim. -/
theorem fnExactSetsText_holds : Rows.FnExactSetsTextSaid := fnExactSetsText.proved
end Go.Proofs.Ytpijdephgmcoeaa
