-- Written by a program of this session (wip/myprint.py), which runs the kit's print with contracts proved by hand; not the kit's own print. Lean checks it.
import Derived.Test.YtodmfdkmmpefpaaGreatDoorRows
import Derived.Test.YtodmfdkmmpefpaaGreatDoorPFnConceptsx18
import Derived.Test.YtodmfdkmmpefpaaGreatDoorPFnConceptsx19
import Derived.Test.YtodmfdkmmpefpaaGreatDoorPureFnConcepts
import Derived.Test.YtodmfdkmmpefpaaGreatDoorRd
import Derived.Test.YtodmfdkmmpefpaaGreatDoorTie
import Derived.Test.YtodmfdkmmpefpaaGreatDoorCards
import Derived.LaidMore
import Derived.Stop.Joined
import Derived.Lib.LaidTab
import Derived.SevenTiedAt
import Derived.Test.YtodmfdkmmpefpaaGreatDoorFacts
import Derived.WalkKit
import Derived.ProofKit
import Derived.OpenShut
import Derived.ShutString
import Derived.ChangeOld
import Derived.Below
import Derived.SizedLaws
import Derived.Lib.SmallJoins
namespace Go.Proofs.YtodmfdkmmpefpaaGreatDoor.fnConcepts
open Go.ChangeShapes Go.WideShapes Go.ChangeAt Go.RowKit Go.Proofs.YtodmfdkmmpefpaaGreatDoorRd
open Go.ChangeMaps (open_string shut_string)
set_option linter.unusedVariables false
theorem own : ownKnob Tryz.prog.godebug = none := by kernel_rfl
theorem laidOut : laidOutB Tryz.prog = true := YtodmfdkmmpefpaaGreatDoorFacts.laidOut
theorem door_met (os : Os) (args : Array Value) : laidMetH Tryz.prog Rows.fnConceptsRow.laid ((World.doorLaid Tryz.prog 19 os).forCall (fun _ _ => 0) ⟨#[], args, []⟩).memory :=
  laidMetH_of_parts3 (fuel := 8) (laidMet_of_run' 8 (by kernel_rfl) (by kernel_rfl)) (by kernel_rfl) (by kernel_rfl)
/-- What the form asks of a world that fits, handed on whole: what the row lists, and the world's shape. -/
theorem wrapShaped {H : Type} {enc : TypeId × Value → H} {a : Assume} {C : Checked} {os : Os} {f : FuncId} {fn : Func} {s : ChangeSpec} {conds : List PathCond} {apart fresh handsOn again : Bool} {X : World → Array Value → Prop}
    (hX : ∀ (w w' : World) (args : Array Value), w.heap = w'.heap → X w args → X w' args)
    (own : ownKnob C.prog.godebug = none) (started : os.Started) (noInit : C.prog.inits.idxOf? f = none) (hfn : C.prog.funcs[f]? = some fn)
    (witness : ∃ (w : World) (tape : Tape) (i : Input), w.os = os ∧ (w.forCall tape i).Shaped C.prog ∧ i.vars = [] ∧ Input.okWide C.prog (w.forCall tape i) .any w.heap.size f i ∧ ((s.pre enc C.prog fn conds apart (w.forCall tape i).memory i.args ∧ X (w.forCall tape i).memory i.args) ∧ sizedMet enc C.prog fn (OpenSpec.ofChange s) apart (w.forCall tape i).memory i.args) ∧ a.holds C.prog (lone (Frame.enter C.prog f i.args .normal) [] (w.forCall tape i)))
    (contract : ∀ (W : World) (base : Nat) (args : Array Value) (ds gs : List (DataW H)) (before : List MemPlace), (∀ (j : Nat) t v, fn.params[j]? = some t → args[j]? = some v → Value.okWide C.prog W .any base t v) → DataW.Whole enc C.prog fn.params.toList s.vars apart W args.toList ds gs before →
      conds.all (PathCond.test C.prog ⟨fn.params.toList, ds, s.plain.varTypes C.prog, gs⟩) = true → (DataW.weightsEach C.prog (fn.params.toList ++ s.plain.varTypes C.prog) (ds ++ gs)).all (· ≤ reachBytes) = true → X W args → W.ShapedOpen C.prog → a.holds C.prog (lone (Frame.enter C.prog f args .normal) [] W) →
      Calls C.prog f args W fun e W' => ∃ v, e = .returned v ∧ s.post enc C.prog fn apart fresh handsOn again W args v W') :
    ReturnsInHanded a C os f .any (fun w args => (s.pre enc C.prog fn conds apart w args ∧ X w args) ∧ sizedMet enc C.prog fn (OpenSpec.ofChange s) apart w args) (s.post enc C.prog fn apart fresh handsOn again) := by
  refine returnsInHanded_of_calls own started noInit witness fun w tape i _ hsh _ hok hpre hh => ?_
  obtain ⟨_, _, _, fn2, hfn2, _, _, _, _, hval⟩ := hok
  obtain rfl : fn2 = fn := Option.some.inj (hfn2.symm.trans hfn)
  obtain ⟨⟨⟨ds, gs, before, hw, hc⟩, hx⟩, hz⟩ := hpre
  exact (contract (w.forCall tape i) w.heap.size i.args ds gs before hval (DataW.Whole.of_heap (w' := w.forCall tape i) (by rfl) hw) hc (hz.weights hw) (hX _ _ _ (by rfl) hx) hsh hh).mono fun e W' ⟨v, he, hp⟩ => by
    subst he
    exact ChangeSpec.post_blind hp
theorem tab_of_laid {W : World} (h : laidMetH Tryz.prog Rows.fnConceptsRow.laid W) (hsh : W.ShapedOpen Tryz.prog) : PFnConcepts.TabW W := by
  rw [MakeChecks.laidMetH_plain _ _ _ (by kernel_rfl)] at h
  obtain ⟨ps, ⟨g0, t0, cs0, f0, p0, q0, hg0, ht0, hv0, hd0, ⟨g1, t1, cs1, f1, p1, q1, hg1, ht1, hv1, hd1, _, _⟩, _⟩, _⟩ := h
  obtain rfl := Option.some.inj ((show Tryz.prog.globalNamed "math/bits.deBruijn64tab" = some 1 by kernel_rfl).symm.trans hg1)
  obtain rfl := Option.some.inj ((show (Tryz.prog.globals[1]?).map (·.type) = some 79 by kernel_rfl).symm.trans ht1)
  have e1 : cs1.toList = (PFnConcepts.tz64).map (fun z => Value.int .u8 z) := Lib.cells_of_tab Tryz.underlying79 Tryz.underlying5 (by kernel_rfl) (by kernel_rfl) (show DataW.trod _ Tryz.prog W 0 _ _ f1 79 cs1.toList = some (Lib.tabData .u8 PFnConcepts.tz64, p1) from by rw [show Lib.tabData .u8 PFnConcepts.tz64 = Rows.laid_math_bits_deBruijn64tab from by kernel_rfl]; exact hd1)
  exact ⟨PFnConcepts.AtVar.of_var (by kernel_rfl) hv1 e1, trivial⟩
set_option maxRecDepth 100000 in
theorem lifted (os : Os) (started : os.Started) (H : Type) (enc : TypeId × Value → H) :
    ReturnsInHanded {} Tryz.checked os 3 .any (fun w args => (Rows.fnConceptsSpec.pre enc Tryz.prog Tryz.f3 [] false w args ∧ laidMetH Tryz.prog Rows.fnConceptsRow.laid w) ∧ sizedMet enc Tryz.prog Tryz.f3 (OpenSpec.ofChange Rows.fnConceptsSpec) false w args) (Rows.fnConceptsSpec.post enc Tryz.prog Tryz.f3 false true false false) := by
  refine wrapShaped (C := Tryz.checked) (X := fun w _ => laidMetH Tryz.prog Rows.fnConceptsRow.laid w) (fun _ _ _ hh h => h.of_heap hh) own started (by kernel_rfl) Tryz.func3
    (ChangeSpec.witness_shaped (enc := enc) (C := Tryz.checked) (os := os) (X := fun w _ => laidMetH Tryz.prog Rows.fnConceptsRow.laid w) false (World.doorLaid Tryz.prog 19 os) #[.slice none 0 0] 8 rfl (World.shaped_of_RefB (by kernel_rfl) (by kernel_rfl)) (by kernel_rfl) (by kernel_rfl) (by kernel_rfl) (door_met os _)) ?_
  intro W base args ds gs before hval0 hW _ hsz0 hL hSh _
  have hsz : (DataW.weightsEach Tryz.prog (Tryz.f3.params.toList ++ Rows.fnConceptsSpec.plain.varTypes Tryz.prog) (ds ++ gs)).all (· ≤ reachBytes) = true := hsz0
  have hval : ∀ (j : Nat) t v, Tryz.f3.params[j]? = some t → args[j]? = some v → Value.okWide Tryz.prog W .any base t v := hval0
  have hW' := hW
  obtain ⟨p, q, hA0, hV, rfl, hfz, hnd⟩ := hW
  have hA : DataW.TrodAll enc Tryz.prog W 0 (fun _ => true) true Tryz.f3.params.toList args.toList ds p := hA0
  rw [Tryz.params3] at hA hval hsz
  obtain ⟨v0, vs0, d0, ds0, p0, q0, hargs, rfl, rfl, h0, r0⟩ := trodAll_cons hA
  obtain ⟨rfl, rfl, rfl⟩ := trodAll_nil r0
  obtain rfl : args = #[v0] := by cases args; simp_all
  obtain ⟨rfl, rfl⟩ := trodVars_none hV
  have k0 := h0
  have lt0 : ∀ x ∈ p0, x.block < W.heap.size := by obtain ⟨m, hm⟩ := k0; exact DataW.trod_lt m _ _ _ hm
  obtain ⟨a0_, len0_, cap0_, rfl⟩ := okWide_slice Tryz.underlying22 (hval 0 22 v0 rfl rfl)
  obtain ⟨m0, hf0⟩ := h0
  have hf0 := row_one hf0
  obtain ⟨A0, c0, l0, hv0_, hc0, hm0, hr0, hw0⟩ := row_ints Tryz.underlying22 Tryz.underlying5 (by kernel_rfl) hf0
  simp only [Value.slice.injEq] at hv0_
  obtain ⟨rfl, rfl, rfl⟩ := hv0_
  obtain ⟨k, h⟩ := Pure.FnConcepts l0 hm0 hw0
  clear hA0 hval0 hsz0 hsz
  refine (PFnConcepts.laws_FnConcepts.calls k _ _ l0 true W hr0 hc0 rfl (tab_of_laid hL hSh) h).mono fun e W' hpost => ?_
  obtain ⟨he, bel⟩ := hpost
  subst he
  exact ⟨_, rfl, _, _, _, [], _, [], hW', trodAll_mk1 (shut_bool Tryz.underlying4 _), (trodAll_cons_mk (Below.trod laidOut (by kernel_rfl) (of_decide_eq_true (by kernel_rfl)) k0 bel lt0) trodAll_mk0), rfl, bel.frame _, fun h => by cases h⟩
theorem cf0 : (Rows.fnConceptsRow.wf (OpenSpec.ofChange Rows.fnConceptsSpec)) = true := by kernel_rfl
theorem cf1 : (laidOutB Tryz.prog) = true := laidOut
theorem cf2 : (mapsRowed Tryz.prog) = true := by kernel_rfl
theorem cf3 : (Tryz.f3.params.all (Tryz.prog.readableRec ·)) = true := by kernel_rfl
theorem cf4 : (namedTie Tryz.prog Rows.fnConceptsRow.named Rows.fnConceptsSpec.vars) = true := by kernel_rfl
theorem cf5 : (Rows.fnConceptsRow.stops == []) = true := by kernel_rfl
theorem cf6 : (Tryz.prog.stops == []) = true := by kernel_rfl
theorem cf7 : (Rows.fnConceptsRow.knobs == []) = true := by kernel_rfl
theorem cf8 : (Tryz.prog.stopKnobs == []) = true := by kernel_rfl
theorem cf9 : (Rows.fnConceptsRow.inPlace == Tryz.prog.inPlace 3) = true := by kernel_rfl
theorem cf10 : (Rows.fnConceptsRow.unfollowed == Tryz.prog.unfollowed 3) = true := by kernel_rfl
theorem cf11 : (Rows.fnConceptsRow.recurses == Tryz.prog.recurses 3) = true := by kernel_rfl
theorem cf12 : (Rows.fnConceptsRow.named == Tryz.prog.varsNamed 3) = true := by kernel_rfl
theorem cf13 : (Rows.fnConceptsRow.maps == (Tryz.f3.params.toList ++ Rows.fnConceptsSpec.plain.varTypes Tryz.prog).any (Tryz.prog.mapsRec ·)) = true := by kernel_rfl
theorem cf14 : (Rows.fnConceptsRow.ifaces == (Tryz.f3.params.toList ++ Rows.fnConceptsSpec.plain.varTypes Tryz.prog).any (Tryz.prog.ifacesRec ·)) = true := by kernel_rfl
theorem cf15 : (Rows.fnConceptsRow.mapsOut == Tryz.prog.mapsAmong Tryz.f3.resultTypes.toList) = true := by kernel_rfl
theorem cf16 : (Rows.fnConceptsRow.loops == (Tryz.f3.params.toList ++ Rows.fnConceptsSpec.plain.varTypes Tryz.prog).any (Tryz.prog.loopsFrom ·)) = true := by kernel_rfl
theorem cf17 : (Rows.fnConceptsRow.wideKeys == (Tryz.f3.params.toList ++ Rows.fnConceptsSpec.plain.varTypes Tryz.prog ++ Tryz.f3.resultTypes.toList).any (Tryz.prog.wideKeysFrom ·)) = true := by kernel_rfl
theorem cf18 : (Rows.fnConceptsSpec.vars.all (Tryz.prog.varReadable ·)) = true := by kernel_rfl
theorem cf19 : (Tryz.f3.resultTypes.all (fun t => Tryz.prog.readableRec t && decide (t < Tryz.prog.types.size))) = true := by kernel_rfl
theorem cf20 : (Rows.fnConceptsRow.ifacesOut == Tryz.f3.resultTypes.toList.any (Tryz.prog.ifacesRec ·)) = true := by kernel_rfl
theorem cf21 : (Rows.fnConceptsRow.loopsOut == Tryz.f3.resultTypes.toList.any (Tryz.prog.loopsFrom ·)) = true := by kernel_rfl
theorem cf22 : (Rows.fnConceptsRow.plainKeys == Tryz.prog.plainKeys) = true := by kernel_rfl
theorem cf23 : (Rows.fnConceptsRow.shortTexts.isNone) = true := by kernel_rfl
theorem cf24 : (Tryz.prog.stopsHeard) = true := by kernel_rfl
theorem cf25 : (Tryz.prog.mayEnter) = true := YtodmfdkmmpefpaaGreatDoorFacts.may
theorem cf26 : (Rows.fnConceptsRow.lifted == Tryz.prog.liftsFinal) = true := by rw [YtodmfdkmmpefpaaGreatDoorFacts.lif]; kernel_rfl
theorem cf27 : (Tryz.prog.make == some Rows.fnConceptsRow.make) = true := by rw [YtodmfdkmmpefpaaGreatDoorFacts.mak]; kernel_rfl
theorem cf28 : (Rows.fnConceptsRow.kinds == (if Rows.fnConceptsRow.domain.isEmpty then [] else Tryz.f3.params.toList.map fun t => match Tryz.prog.underlying t with | some (.int k) => some k | _ => none)) = true := by kernel_rfl
theorem cf29 : (Rows.fnConceptsRow.pinned == Rows.fnConceptsRow.pinnedBy) = true := by kernel_rfl
theorem cf30 : (Rows.fnConceptsRow.veiled == (Tryz.f3.params.toList ++ Rows.fnConceptsSpec.plain.varTypes Tryz.prog ++ Tryz.f3.resultTypes.toList).any (Tryz.prog.veiledRec ·)) = true := by kernel_rfl
theorem cf31 : (Rows.fnConceptsRow.veiledFits Tryz.prog Tryz.f3.params.toList (Tryz.f3.params.toList ++ Rows.fnConceptsSpec.plain.varTypes Tryz.prog ++ Tryz.f3.resultTypes.toList)) = true := by kernel_rfl
set_option maxRecDepth 100000 in
theorem closed : joinedFacts Tryz.prog 3 Tryz.f3 Rows.fnConceptsSpec Rows.fnConceptsRow = true := by
  unfold joinedFacts
  simp only [Bool.and_eq_true]
  exact ⟨⟨⟨⟨⟨⟨⟨⟨⟨⟨⟨⟨⟨⟨⟨⟨⟨⟨⟨⟨⟨⟨⟨⟨⟨⟨⟨⟨⟨⟨⟨cf0, cf1⟩, cf2⟩, cf3⟩, cf4⟩, cf5⟩, cf6⟩, cf7⟩, cf8⟩, cf9⟩, cf10⟩, cf11⟩, cf12⟩, cf13⟩, cf14⟩, cf15⟩, cf16⟩, cf17⟩, cf18⟩, cf19⟩, cf20⟩, cf21⟩, cf22⟩, cf23⟩, cf24⟩, cf25⟩, cf26⟩, cf27⟩, cf28⟩, cf29⟩, cf30⟩, cf31⟩
theorem over : Rows.fnConceptsRow.holds Tryz.pinned (OpenSpec.ofChange Rows.fnConceptsSpec) :=
  OpenClaim.holds_of_wide 3 Tryz.f3 rfl rfl rfl rfl rfl rfl rfl ⟨rfl, rfl, rfl, rfl, rfl⟩ rfl rfl rfl rfl rfl (by kernel_rfl) Tryz.func3 closed
    (of_decide_eq_true (by kernel_rfl)) (by unfold Func.isWrapper; first | (rw [if_pos (by decide +kernel)]; kernel_rfl) | (rw [if_neg (by decide +kernel)]; exact ⟨rfl, rfl⟩))
    (fun os started H enc _ => lifted os started H enc)
theorem proved : Rows.FnConceptsSaid := over
theorem carded : Rows.FnConceptsCardSaid :=
  Claim7.holds_tied_plain_at .later [] [.data, .data] true (true, "55f94a9c9728cb97e09c4a13844081c352072781b345543896ce8bfcc3edce77") false
    proved (fun _ h => by cases h) (by kernel_rfl) (fun _ h => by cases h) fnConcepts_row_tie rfl ⟨rfl, rfl⟩ (by kernel_rfl) rfl
    (fun f fn hf hfn => by
      obtain rfl : f = 3 := Option.some.inj ((show Tryz.prog.funcNamed "loop.example/g00596/laws.FnConcepts" = some 3 by kernel_rfl).symm.trans hf) |>.symm
      obtain rfl : fn = Tryz.f3 := (Option.some.inj (Tryz.func3.symm.trans hfn)).symm
      exact ⟨by kernel_rfl, fun j t ht => by
        rw [Tryz.params3] at ht
        have hm : t ∈ [22] := by simpa using Array.mem_of_getElem? ht
        have hall : ([22].all fun u => !Tryz.prog.wantsStandIn u) = true := by kernel_rfl
        exact (show Tryz.prog.wantsStandIn t = false by simpa using List.all_eq_true.1 hall t hm)⟩)
    (by kernel_rfl)
#print axioms carded
end Go.Proofs.YtodmfdkmmpefpaaGreatDoor.fnConcepts
namespace Go.Proofs.YtodmfdkmmpefpaaGreatDoor
/-- The tied card, under a short name, for the claim. -/
theorem fnConcepts_holds : Rows.FnConceptsCardSaid := fnConcepts.carded
end Go.Proofs.YtodmfdkmmpefpaaGreatDoor
