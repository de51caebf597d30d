-- Written by a program of this session (wip/myprint.py), which runs the kit's print with contracts proved by hand; not the kit's own print. Lean checks it.
import Derived.Test.YtpijdephgmcoeaaRows
import Derived.Test.YtpijdephgmcoeaaPFnExactDualContextx4
import Derived.Test.YtpijdephgmcoeaaPureFnExactDualContext
import Derived.Test.YtpijdephgmcoeaaRd
import Derived.Test.YtpijdephgmcoeaaFacts
import Derived.WalkKit
import Derived.ProofKit
import Derived.OpenShut
import Derived.ShutString
import Derived.ChangeOld
import Derived.Below
import Derived.SizedLaws
import Derived.Lib.SmallJoins
namespace Go.Proofs.Ytpijdephgmcoeaa.fnExactDualContext
open Go.ChangeShapes Go.WideShapes Go.ChangeAt Go.RowKit Go.Proofs.YtpijdephgmcoeaaRd
open Go.ChangeMaps (open_string shut_string)
set_option linter.unusedVariables false
theorem own : ownKnob Try.prog.godebug = none := by kernel_rfl
theorem laidOut : laidOutB Try.prog = true := YtpijdephgmcoeaaFacts.laidOut
set_option maxRecDepth 100000 in
theorem lifted (os : Os) (started : os.Started) (H : Type) (enc : TypeId × Value → H) :
    ReturnsInHanded {} Try.checked os 10 .any (Rows.fnExactDualContextSpec.pre6 enc Try.prog Try.f10 Rows.fnExactDualContextRow.domain false) (Rows.fnExactDualContextSpec.post enc Try.prog Try.f10 false true false false) := by
  refine returnsInHanded_of_change_sized (C := Try.checked) own started (by kernel_rfl) Try.func10
    (ChangeSpec.witness6 (enc := enc) (C := Try.checked) false ⟨#[], #[.agg #[.int .i64 0, .slice none 0 0]], []⟩ 8 (by kernel_rfl) (by kernel_rfl) (by kernel_rfl) (by kernel_rfl)) ?_
  intro W base args ds gs before hval0 hW hcnd hsz0 _
  have hsz : (DataW.weightsEach Try.prog (Try.f10.params.toList ++ Rows.fnExactDualContextSpec.plain.varTypes Try.prog) (ds ++ gs)).all (· ≤ reachBytes) = true := hsz0
  have hval : ∀ (j : Nat) t v, Try.f10.params[j]? = some t → args[j]? = some v → Value.okWide Try.prog W .any base t v := hval0
  have hW' := hW
  obtain ⟨p, q, hA0, hV, rfl, hfz, hnd⟩ := hW
  have hA : DataW.TrodAll enc Try.prog W 0 (fun _ => true) true Try.f10.params.toList args.toList ds p := hA0
  rw [Try.params10] at hA hval hsz
  obtain ⟨v0, vs0, d0, ds0, p0, q0, hargs, rfl, rfl, h0, r0⟩ := trodAll_cons hA
  obtain ⟨rfl, rfl, rfl⟩ := trodAll_nil r0
  obtain rfl : args = #[v0] := by cases args; simp_all
  obtain ⟨rfl, rfl⟩ := trodVars_none hV
  have k0 := h0
  have lt0 : ∀ x ∈ p0, x.block < W.heap.size := by obtain ⟨m, hm⟩ := k0; exact DataW.trod_lt m _ _ _ hm
  obtain ⟨v0_0, v0_1, y0_0, y0_1, n0, rfl, rfl, rfl, t0_0, t0_1⟩ := Joins.open_agg2 Try.underlying24 (by kernel_rfl) (by kernel_rfl) (hval 0 24 v0 rfl rfl) h0
  obtain ⟨a0_0, rfl, hw0_0⟩ := row_int Try.underlying3 t0_0
  obtain ⟨A0_1, c0_1, l0_1, rfl, hc0_1, hm0_1, hr0_1, hw0_1⟩ := row_ints Try.underlying22 Try.underlying3 (by kernel_rfl) t0_1
  obtain ⟨k, h⟩ := Pure.FnExactDualContext a0_0 l0_1 hw0_0 hm0_1 hw0_1
  clear hA0 hval0 hsz0 hsz
  refine (PFnExactDualContext.laws_FnExactDualContext.calls k a0_0 _ _ l0_1 true W hr0_1 hc0_1 h).mono fun e W' hpost => ?_
  obtain ⟨he, bel⟩ := hpost
  subst he
  exact ⟨_, rfl, _, _, _, [], _, [], hW', trodAll_mk1 (shut_bool Try.underlying4 _), (trodAll_cons_mk (Below.trod laidOut (by kernel_rfl) (of_decide_eq_true (by kernel_rfl)) k0 bel lt0) trodAll_mk0), rfl, bel.frame _, fun h => by cases h⟩
theorem cf0 : (Rows.fnExactDualContextRow.wf (OpenSpec.ofChange Rows.fnExactDualContextSpec)) = true := by kernel_rfl
theorem cf1 : (laidOutB Try.prog) = true := laidOut
theorem cf2 : (mapsRowed Try.prog) = true := by kernel_rfl
theorem cf3 : (Try.f10.params.all (Try.prog.readableRec ·)) = true := by kernel_rfl
theorem cf4 : (namedTie Try.prog Rows.fnExactDualContextRow.named Rows.fnExactDualContextSpec.vars) = true := by kernel_rfl
theorem cf5 : (Rows.fnExactDualContextRow.stops == []) = true := by kernel_rfl
theorem cf6 : (Try.prog.stops == []) = true := by kernel_rfl
theorem cf7 : (Rows.fnExactDualContextRow.knobs == []) = true := by kernel_rfl
theorem cf8 : (Try.prog.stopKnobs == []) = true := by kernel_rfl
theorem cf9 : (Rows.fnExactDualContextRow.inPlace == Try.prog.inPlace 10) = true := by kernel_rfl
theorem cf10 : (Rows.fnExactDualContextRow.unfollowed == Try.prog.unfollowed 10) = true := by kernel_rfl
theorem cf11 : (Rows.fnExactDualContextRow.recurses == Try.prog.recurses 10) = true := by kernel_rfl
theorem cf12 : (Rows.fnExactDualContextRow.named == Try.prog.varsNamed 10) = true := by kernel_rfl
theorem cf13 : (Rows.fnExactDualContextRow.maps == (Try.f10.params.toList ++ Rows.fnExactDualContextSpec.plain.varTypes Try.prog).any (Try.prog.mapsRec ·)) = true := by kernel_rfl
theorem cf14 : (Rows.fnExactDualContextRow.ifaces == (Try.f10.params.toList ++ Rows.fnExactDualContextSpec.plain.varTypes Try.prog).any (Try.prog.ifacesRec ·)) = true := by kernel_rfl
theorem cf15 : (Rows.fnExactDualContextRow.mapsOut == Try.prog.mapsAmong Try.f10.resultTypes.toList) = true := by kernel_rfl
theorem cf16 : (Rows.fnExactDualContextRow.loops == (Try.f10.params.toList ++ Rows.fnExactDualContextSpec.plain.varTypes Try.prog).any (Try.prog.loopsFrom ·)) = true := by kernel_rfl
theorem cf17 : (Rows.fnExactDualContextRow.wideKeys == (Try.f10.params.toList ++ Rows.fnExactDualContextSpec.plain.varTypes Try.prog ++ Try.f10.resultTypes.toList).any (Try.prog.wideKeysFrom ·)) = true := by kernel_rfl
theorem cf18 : (Rows.fnExactDualContextSpec.vars.all (Try.prog.varReadable ·)) = true := by kernel_rfl
theorem cf19 : (Try.f10.resultTypes.all (fun t => Try.prog.readableRec t && decide (t < Try.prog.types.size))) = true := by kernel_rfl
theorem cf20 : (Rows.fnExactDualContextRow.ifacesOut == Try.f10.resultTypes.toList.any (Try.prog.ifacesRec ·)) = true := by kernel_rfl
theorem cf21 : (Rows.fnExactDualContextRow.loopsOut == Try.f10.resultTypes.toList.any (Try.prog.loopsFrom ·)) = true := by kernel_rfl
theorem cf22 : (Rows.fnExactDualContextRow.plainKeys == Try.prog.plainKeys) = true := by kernel_rfl
theorem cf23 : (Rows.fnExactDualContextRow.shortTexts.isNone) = true := by kernel_rfl
theorem cf24 : (Try.prog.stopsHeard) = true := by kernel_rfl
theorem cf25 : (Try.prog.mayEnter) = true := YtpijdephgmcoeaaFacts.may
theorem cf26 : (Rows.fnExactDualContextRow.lifted == Try.prog.liftsFinal) = true := by rw [YtpijdephgmcoeaaFacts.lif]; kernel_rfl
theorem cf27 : (Try.prog.make == some Rows.fnExactDualContextRow.make) = true := by rw [YtpijdephgmcoeaaFacts.mak]; kernel_rfl
theorem cf28 : (Rows.fnExactDualContextRow.kinds == (if Rows.fnExactDualContextRow.domain.isEmpty then [] else Try.f10.params.toList.map fun t => match Try.prog.underlying t with | some (.int k) => some k | _ => none)) = true := by kernel_rfl
theorem cf29 : (Rows.fnExactDualContextRow.pinned == Rows.fnExactDualContextRow.pinnedBy) = true := by kernel_rfl
theorem cf30 : (Rows.fnExactDualContextRow.veiled == (Try.f10.params.toList ++ Rows.fnExactDualContextSpec.plain.varTypes Try.prog ++ Try.f10.resultTypes.toList).any (Try.prog.veiledRec ·)) = true := by kernel_rfl
theorem cf31 : (Rows.fnExactDualContextRow.veiledFits Try.prog Try.f10.params.toList (Try.f10.params.toList ++ Rows.fnExactDualContextSpec.plain.varTypes Try.prog ++ Try.f10.resultTypes.toList)) = true := by kernel_rfl
theorem closed : joinedFacts Try.prog 10 Try.f10 Rows.fnExactDualContextSpec Rows.fnExactDualContextRow = true := by
  unfold joinedFacts
  simp only [Bool.and_eq_true]
  exact ⟨⟨⟨⟨⟨⟨⟨⟨⟨⟨⟨⟨⟨⟨⟨⟨⟨⟨⟨⟨⟨⟨⟨⟨⟨⟨⟨⟨⟨⟨⟨cf0, cf1⟩, cf2⟩, cf3⟩, cf4⟩, cf5⟩, cf6⟩, cf7⟩, cf8⟩, cf9⟩, cf10⟩, cf11⟩, cf12⟩, cf13⟩, cf14⟩, cf15⟩, cf16⟩, cf17⟩, cf18⟩, cf19⟩, cf20⟩, cf21⟩, cf22⟩, cf23⟩, cf24⟩, cf25⟩, cf26⟩, cf27⟩, cf28⟩, cf29⟩, cf30⟩, cf31⟩
theorem over : Rows.fnExactDualContextRow.holds Try.pinned (OpenSpec.ofChange Rows.fnExactDualContextSpec) :=
  OpenClaim.holds_of_wide 10 Try.f10 rfl rfl rfl rfl rfl rfl rfl ⟨rfl, rfl, rfl, rfl, rfl⟩ rfl rfl rfl rfl rfl (by kernel_rfl) Try.func10 closed
    (of_decide_eq_true (by kernel_rfl)) (by unfold Func.isWrapper; first | (rw [if_pos (by decide +kernel)]; kernel_rfl) | (rw [if_neg (by decide +kernel)]; exact ⟨rfl, rfl⟩))
    (fun os started H enc _ => lifted os started H enc)
theorem proved : Rows.FnExactDualContextSaid := over
#print axioms proved
end Go.Proofs.Ytpijdephgmcoeaa.fnExactDualContext
namespace Go.Proofs.Ytpijdephgmcoeaa
/-- The row, under a short name, for the claim. -/
theorem fnExactDualContext_holds : Rows.FnExactDualContextSaid := fnExactDualContext.proved
end Go.Proofs.Ytpijdephgmcoeaa
