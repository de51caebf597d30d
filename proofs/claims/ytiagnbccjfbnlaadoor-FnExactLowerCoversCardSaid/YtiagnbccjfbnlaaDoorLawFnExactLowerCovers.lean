-- Written by a program of this session (wip/myprint.py), which runs the kit's print with contracts proved by hand; not the kit's own print. Lean checks it.
import Derived.Test.YtiagnbccjfbnlaaDoorRows
import Derived.Test.YtiagnbccjfbnlaaDoorPFnExactLowerCoversx9
import Derived.Test.YtiagnbccjfbnlaaDoorPureFnExactLowerCovers
import Derived.Test.YtiagnbccjfbnlaaDoorRd
import Derived.Test.YtiagnbccjfbnlaaDoorTie
import Derived.Test.YtiagnbccjfbnlaaDoorCards
import Derived.LaidMore
import Derived.Stop.Joined
import Derived.Lib.LaidTab
import Derived.SevenTiedAt
import Derived.Test.YtiagnbccjfbnlaaDoorFacts
import Derived.WalkKit
import Derived.ProofKit
import Derived.OpenShut
import Derived.ShutString
import Derived.ChangeOld
import Derived.Below
import Derived.SizedLaws
import Derived.Lib.SmallJoins
namespace Go.Proofs.YtiagnbccjfbnlaaDoor.fnExactLowerCovers
open Go.ChangeShapes Go.WideShapes Go.ChangeAt Go.RowKit Go.Proofs.YtiagnbccjfbnlaaDoorRd
open Go.ChangeMaps (open_string shut_string)
set_option linter.unusedVariables false
theorem own : ownKnob Tryd.prog.godebug = none := by kernel_rfl
theorem laidOut : laidOutB Tryd.prog = true := YtiagnbccjfbnlaaDoorFacts.laidOut
theorem door_met (os : Os) (args : Array Value) : laidMetH Tryd.prog Rows.fnExactLowerCoversRow.laid ((World.doorLaid Tryd.prog 19 os).forCall (fun _ _ => 0) ⟨#[], args, []⟩).memory :=
  laidMetH_of_parts3 (fuel := 8) (laidMet_of_run' 8 (by kernel_rfl) (by kernel_rfl)) (by kernel_rfl) (by kernel_rfl)
theorem tab_of_laid {W : World} (h : laidMetH Tryd.prog Rows.fnExactLowerCoversRow.laid W) : PFnExactLowerCovers.TabW W := by
  rw [MakeChecks.laidMetH_plain _ _ _ (by kernel_rfl)] at h
  obtain ⟨ps, ⟨g0, t0, cs0, f0, p0, q0, hg0, ht0, hv0, hd0, ⟨g1, t1, cs1, f1, p1, q1, hg1, ht1, hv1, hd1, _, _⟩, _⟩, _⟩ := h
  obtain rfl := Option.some.inj ((show Tryd.prog.globalNamed "math/bits.deBruijn64tab" = some 1 by kernel_rfl).symm.trans hg1)
  obtain rfl := Option.some.inj ((show (Tryd.prog.globals[1]?).map (·.type) = some 86 by kernel_rfl).symm.trans ht1)
  have e : cs1.toList = PFnExactLowerCovers.tz64.map (fun z => Value.int .u8 z) := Lib.cells_of_tab Tryd.underlying86 Tryd.underlying5 (by kernel_rfl) (by kernel_rfl) (show DataW.trod _ Tryd.prog W 0 _ _ f1 86 cs1.toList = some (Lib.tabData .u8 PFnExactLowerCovers.tz64, p1) from hd1)
  refine YtiagnbccjfbnlaaDoorW.PrintWords.Kd.C_of_reads (d := (0 : Int)) (h1 := fun _ => rfl) (⟨rfl, by decide, fun _ => ⟨_, rfl, fun j hj => ?_⟩⟩ : YtiagnbccjfbnlaaDoorW.PrintWords.ReadsInt W .u8 _ 64 PFnExactLowerCovers.tz64)
  have := World.var?_cell hg1 hv1 j
  rw [YtiagnbccjfbnlaaDoorW.PrintWords.add_at, Nat.zero_add, this, ← Array.getElem?_toList, e, List.getElem?_map]
  rw [List.getD_eq_getElem?_getD]
  have hl : j < PFnExactLowerCovers.tz64.length := hj
  rw [List.getElem?_eq_getElem hl]
  rfl
set_option maxRecDepth 100000 in
theorem lifted (os : Os) (started : os.Started) (H : Type) (enc : TypeId × Value → H) :
    ReturnsInHanded {} Tryd.checked os 5 .any (fun w args => (Rows.fnExactLowerCoversSpec.pre enc Tryd.prog Tryd.f5 [] false w args ∧ laidMetH Tryd.prog Rows.fnExactLowerCoversRow.laid w) ∧ sizedMet enc Tryd.prog Tryd.f5 (OpenSpec.ofChange Rows.fnExactLowerCoversSpec) false w args) (Rows.fnExactLowerCoversSpec.post enc Tryd.prog Tryd.f5 false true false false) := by
  refine returnsInHanded_of_change_and (C := Tryd.checked) (X := fun w _ => laidMetH Tryd.prog Rows.fnExactLowerCoversRow.laid w) (fun _ _ _ hh h => h.of_heap hh) own started (by kernel_rfl) Tryd.func5
    (ChangeSpec.witness_shaped (enc := enc) (C := Tryd.checked) (os := os) (X := fun w _ => laidMetH Tryd.prog Rows.fnExactLowerCoversRow.laid w) false (World.doorLaid Tryd.prog 19 os) #[.agg #[.int .i64 0, .slice none 0 0], .int .i64 0] 8 rfl (World.shaped_of_RefB (by kernel_rfl) (by kernel_rfl)) (by kernel_rfl) (by kernel_rfl) (by kernel_rfl) (door_met os _)) ?_
  intro W base args ds gs before hval0 hW _ hsz0 hL _
  have hsz : (DataW.weightsEach Tryd.prog (Tryd.f5.params.toList ++ Rows.fnExactLowerCoversSpec.plain.varTypes Tryd.prog) (ds ++ gs)).all (· ≤ reachBytes) = true := hsz0
  have hval : ∀ (j : Nat) t v, Tryd.f5.params[j]? = some t → args[j]? = some v → Value.okWide Tryd.prog W .any base t v := hval0
  have hW' := hW
  obtain ⟨p, q, hA0, hV, rfl, hfz, hnd⟩ := hW
  have hA : DataW.TrodAll enc Tryd.prog W 0 (fun _ => true) true Tryd.f5.params.toList args.toList ds p := hA0
  rw [Tryd.params5] at hA hval hsz
  obtain ⟨v0, vs0, d0, ds0, p0, q0, hargs, rfl, rfl, h0, r0⟩ := trodAll_cons hA
  obtain ⟨v1, vs1, d1, ds1, p1, q1, rfl, rfl, rfl, h1, r1⟩ := trodAll_cons r0
  obtain ⟨rfl, rfl, rfl⟩ := trodAll_nil r1
  obtain rfl : args = #[v0, v1] := by cases args; simp_all
  obtain ⟨rfl, rfl⟩ := trodVars_none hV
  have k0 := h0
  have lt0 : ∀ x ∈ p0, x.block < W.heap.size := by obtain ⟨m, hm⟩ := k0; exact DataW.trod_lt m _ _ _ hm
  obtain ⟨v0_0, v0_1, y0_0, y0_1, n0, rfl, rfl, rfl, t0_0, t0_1⟩ := Joins.open_agg2 Tryd.underlying24 (by kernel_rfl) (by kernel_rfl) (hval 0 24 v0 rfl rfl) h0
  obtain ⟨a0_0, rfl, hw0_0⟩ := row_int Tryd.underlying3 t0_0
  obtain ⟨A0_1, c0_1, l0_1, rfl, hc0_1, hm0_1, hr0_1, hw0_1⟩ := row_ints Tryd.underlying22 Tryd.underlying3 (by kernel_rfl) t0_1
  obtain ⟨a1, rfl, rfl, rfl, hw1⟩ := open_int Tryd.underlying3 (hval 1 3 v1 rfl rfl) h1
  obtain ⟨k, h⟩ := Pure.FnExactLowerCovers a0_0 l0_1 a1 hw0_0 hm0_1 hw0_1 hw1
  clear hA0 hval0 hsz0 hsz
  refine (PFnExactLowerCovers.laws_FnExactLowerCovers.calls k a0_0 _ _ l0_1 a1 true W hr0_1 hc0_1 (tab_of_laid hL) h).mono fun e W' hpost => ?_
  obtain ⟨he, bel⟩ := hpost
  subst he
  exact ⟨_, rfl, _, _, _, [], _, [], hW', trodAll_mk1 (shut_bool Tryd.underlying4 _), (trodAll_cons_mk (Below.trod laidOut (by kernel_rfl) (of_decide_eq_true (by kernel_rfl)) k0 bel lt0) (trodAll_cons_mk (shut_int Tryd.underlying3 hw1) trodAll_mk0)), rfl, bel.frame _, fun h => by cases h⟩
theorem cf0 : (Rows.fnExactLowerCoversRow.wf (OpenSpec.ofChange Rows.fnExactLowerCoversSpec)) = true := by kernel_rfl
theorem cf1 : (laidOutB Tryd.prog) = true := laidOut
theorem cf2 : (mapsRowed Tryd.prog) = true := by kernel_rfl
theorem cf3 : (Tryd.f5.params.all (Tryd.prog.readableRec ·)) = true := by kernel_rfl
theorem cf4 : (namedTie Tryd.prog Rows.fnExactLowerCoversRow.named Rows.fnExactLowerCoversSpec.vars) = true := by kernel_rfl
theorem cf5 : (Rows.fnExactLowerCoversRow.stops == []) = true := by kernel_rfl
theorem cf6 : (Tryd.prog.stops == []) = true := by kernel_rfl
theorem cf7 : (Rows.fnExactLowerCoversRow.knobs == []) = true := by kernel_rfl
theorem cf8 : (Tryd.prog.stopKnobs == []) = true := by kernel_rfl
theorem cf9 : (Rows.fnExactLowerCoversRow.inPlace == Tryd.prog.inPlace 5) = true := by kernel_rfl
theorem cf10 : (Rows.fnExactLowerCoversRow.unfollowed == Tryd.prog.unfollowed 5) = true := by kernel_rfl
theorem cf11 : (Rows.fnExactLowerCoversRow.recurses == Tryd.prog.recurses 5) = true := by kernel_rfl
theorem cf12 : (Rows.fnExactLowerCoversRow.named == Tryd.prog.varsNamed 5) = true := by kernel_rfl
theorem cf13 : (Rows.fnExactLowerCoversRow.maps == (Tryd.f5.params.toList ++ Rows.fnExactLowerCoversSpec.plain.varTypes Tryd.prog).any (Tryd.prog.mapsRec ·)) = true := by kernel_rfl
theorem cf14 : (Rows.fnExactLowerCoversRow.ifaces == (Tryd.f5.params.toList ++ Rows.fnExactLowerCoversSpec.plain.varTypes Tryd.prog).any (Tryd.prog.ifacesRec ·)) = true := by kernel_rfl
theorem cf15 : (Rows.fnExactLowerCoversRow.mapsOut == Tryd.prog.mapsAmong Tryd.f5.resultTypes.toList) = true := by kernel_rfl
theorem cf16 : (Rows.fnExactLowerCoversRow.loops == (Tryd.f5.params.toList ++ Rows.fnExactLowerCoversSpec.plain.varTypes Tryd.prog).any (Tryd.prog.loopsFrom ·)) = true := by kernel_rfl
theorem cf17 : (Rows.fnExactLowerCoversRow.wideKeys == (Tryd.f5.params.toList ++ Rows.fnExactLowerCoversSpec.plain.varTypes Tryd.prog ++ Tryd.f5.resultTypes.toList).any (Tryd.prog.wideKeysFrom ·)) = true := by kernel_rfl
theorem cf18 : (Rows.fnExactLowerCoversSpec.vars.all (Tryd.prog.varReadable ·)) = true := by kernel_rfl
theorem cf19 : (Tryd.f5.resultTypes.all (fun t => Tryd.prog.readableRec t && decide (t < Tryd.prog.types.size))) = true := by kernel_rfl
theorem cf20 : (Rows.fnExactLowerCoversRow.ifacesOut == Tryd.f5.resultTypes.toList.any (Tryd.prog.ifacesRec ·)) = true := by kernel_rfl
theorem cf21 : (Rows.fnExactLowerCoversRow.loopsOut == Tryd.f5.resultTypes.toList.any (Tryd.prog.loopsFrom ·)) = true := by kernel_rfl
theorem cf22 : (Rows.fnExactLowerCoversRow.plainKeys == Tryd.prog.plainKeys) = true := by kernel_rfl
theorem cf23 : (Rows.fnExactLowerCoversRow.shortTexts.isNone) = true := by kernel_rfl
theorem cf24 : (Tryd.prog.stopsHeard) = true := by kernel_rfl
theorem cf25 : (Tryd.prog.mayEnter) = true := YtiagnbccjfbnlaaDoorFacts.may
theorem cf26 : (Rows.fnExactLowerCoversRow.lifted == Tryd.prog.liftsFinal) = true := by rw [YtiagnbccjfbnlaaDoorFacts.lif]; kernel_rfl
theorem cf27 : (Tryd.prog.make == some Rows.fnExactLowerCoversRow.make) = true := by rw [YtiagnbccjfbnlaaDoorFacts.mak]; kernel_rfl
theorem cf28 : (Rows.fnExactLowerCoversRow.kinds == (if Rows.fnExactLowerCoversRow.domain.isEmpty then [] else Tryd.f5.params.toList.map fun t => match Tryd.prog.underlying t with | some (.int k) => some k | _ => none)) = true := by kernel_rfl
theorem cf29 : (Rows.fnExactLowerCoversRow.pinned == Rows.fnExactLowerCoversRow.pinnedBy) = true := by kernel_rfl
theorem cf30 : (Rows.fnExactLowerCoversRow.veiled == (Tryd.f5.params.toList ++ Rows.fnExactLowerCoversSpec.plain.varTypes Tryd.prog ++ Tryd.f5.resultTypes.toList).any (Tryd.prog.veiledRec ·)) = true := by kernel_rfl
theorem cf31 : (Rows.fnExactLowerCoversRow.veiledFits Tryd.prog Tryd.f5.params.toList (Tryd.f5.params.toList ++ Rows.fnExactLowerCoversSpec.plain.varTypes Tryd.prog ++ Tryd.f5.resultTypes.toList)) = true := by kernel_rfl
theorem closed : joinedFacts Tryd.prog 5 Tryd.f5 Rows.fnExactLowerCoversSpec Rows.fnExactLowerCoversRow = true := by
  unfold joinedFacts
  simp only [Bool.and_eq_true]
  exact ⟨⟨⟨⟨⟨⟨⟨⟨⟨⟨⟨⟨⟨⟨⟨⟨⟨⟨⟨⟨⟨⟨⟨⟨⟨⟨⟨⟨⟨⟨⟨cf0, cf1⟩, cf2⟩, cf3⟩, cf4⟩, cf5⟩, cf6⟩, cf7⟩, cf8⟩, cf9⟩, cf10⟩, cf11⟩, cf12⟩, cf13⟩, cf14⟩, cf15⟩, cf16⟩, cf17⟩, cf18⟩, cf19⟩, cf20⟩, cf21⟩, cf22⟩, cf23⟩, cf24⟩, cf25⟩, cf26⟩, cf27⟩, cf28⟩, cf29⟩, cf30⟩, cf31⟩
theorem over : Rows.fnExactLowerCoversRow.holds Tryd.pinned (OpenSpec.ofChange Rows.fnExactLowerCoversSpec) :=
  OpenClaim.holds_of_wide 5 Tryd.f5 rfl rfl rfl rfl rfl rfl rfl ⟨rfl, rfl, rfl, rfl, rfl⟩ rfl rfl rfl rfl rfl (by kernel_rfl) Tryd.func5 closed
    (of_decide_eq_true (by kernel_rfl)) (by unfold Func.isWrapper; first | (rw [if_pos (by decide +kernel)]; kernel_rfl) | (rw [if_neg (by decide +kernel)]; exact ⟨rfl, rfl⟩))
    (fun os started H enc _ => lifted os started H enc)
theorem proved : Rows.FnExactLowerCoversSaid := over
theorem carded : Rows.FnExactLowerCoversCardSaid :=
  Claim7.holds_tied_plain_at .later [] [.data, .data] true (true, "c9ed0f0dd03667e3896edcb2c0de13b5ab6d02a3f36efe0a7a5724e2ecddf95c") false
    proved (fun _ h => by cases h) (by kernel_rfl) (fun _ h => by cases h) fnExactLowerCovers_row_tie rfl ⟨rfl, rfl⟩ (by kernel_rfl) rfl
    (fun f fn hf hfn => by
      obtain rfl : f = 5 := Option.some.inj ((show Tryd.prog.funcNamed "loop.example/g00596/laws.FnExactLowerCovers" = some 5 by kernel_rfl).symm.trans hf) |>.symm
      obtain rfl : fn = Tryd.f5 := (Option.some.inj (Tryd.func5.symm.trans hfn)).symm
      exact ⟨by kernel_rfl, fun j t ht => by
        rw [Tryd.params5] at ht
        have hm : t ∈ [24, 3] := by simpa using Array.mem_of_getElem? ht
        have hall : ([24, 3].all fun u => !Tryd.prog.wantsStandIn u) = true := by kernel_rfl
        exact (show Tryd.prog.wantsStandIn t = false by simpa using List.all_eq_true.1 hall t hm)⟩)
    (by kernel_rfl)
#print axioms carded
end Go.Proofs.YtiagnbccjfbnlaaDoor.fnExactLowerCovers
namespace Go.Proofs.YtiagnbccjfbnlaaDoor
/-- The tied card, under a short name, for the claim. -/
theorem fnExactLowerCovers_holds : Rows.FnExactLowerCoversCardSaid := fnExactLowerCovers.carded
end Go.Proofs.YtiagnbccjfbnlaaDoor
