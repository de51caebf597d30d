-- Written by a program of this session (wip/myprint.py), which runs the kit's print with contracts proved by hand; not the kit's own print. Lean checks it.
import Derived.Test.YtpnnichlkaedlaaDoorRows
import Derived.Test.YtpnnichlkaedlaaDoorPFnNumbersx3
import Derived.Test.YtpnnichlkaedlaaDoorPureFnNumbers
import Derived.Test.YtpnnichlkaedlaaDoorRd
import Derived.Test.YtpnnichlkaedlaaDoorTie
import Derived.Test.YtpnnichlkaedlaaDoorCards
import Derived.LaidMore
import Derived.Stop.Joined
import Derived.Lib.LaidTab
import Derived.SevenTiedAt
import Derived.Test.YtpnnichlkaedlaaDoorFacts
import Derived.WalkKit
import Derived.ProofKit
import Derived.OpenShut
import Derived.ShutString
import Derived.ChangeOld
import Derived.Below
import Derived.SizedLaws
import Derived.Lib.SmallJoins
namespace Go.Proofs.YtpnnichlkaedlaaDoor.fnNumbers
open Go.ChangeShapes Go.WideShapes Go.ChangeAt Go.RowKit Go.Proofs.YtpnnichlkaedlaaDoorRd
open Go.ChangeMaps (open_string shut_string)
set_option linter.unusedVariables false
theorem own : ownKnob Tryd.prog.godebug = none := by kernel_rfl
theorem laidOut : laidOutB Tryd.prog = true := YtpnnichlkaedlaaDoorFacts.laidOut
theorem door_met (os : Os) (args : Array Value) : laidMetH Tryd.prog Rows.fnNumbersRow.laid ((World.doorLaid Tryd.prog 62 os).forCall (fun _ _ => 0) ⟨#[], args, []⟩).memory :=
  laidMetH_of_parts3 (fuel := 8) (laidMet_of_run' 8 (by kernel_rfl) (by kernel_rfl)) (by kernel_rfl) (by kernel_rfl)
/-- What the form asks of a world that fits, handed on whole: what the row lists, and the world's shape. -/
theorem wrapShaped {H : Type} {enc : TypeId × Value → H} {a : Assume} {C : Checked} {os : Os} {f : FuncId} {fn : Func} {s : ChangeSpec} {conds : List PathCond} {apart fresh handsOn again : Bool} {X : World → Array Value → Prop}
    (hX : ∀ (w w' : World) (args : Array Value), w.heap = w'.heap → X w args → X w' args)
    (own : ownKnob C.prog.godebug = none) (started : os.Started) (noInit : C.prog.inits.idxOf? f = none) (hfn : C.prog.funcs[f]? = some fn)
    (witness : ∃ (w : World) (tape : Tape) (i : Input), w.os = os ∧ (w.forCall tape i).Shaped C.prog ∧ i.vars = [] ∧ Input.okWide C.prog (w.forCall tape i) .any w.heap.size f i ∧ ((s.pre enc C.prog fn conds apart (w.forCall tape i).memory i.args ∧ X (w.forCall tape i).memory i.args) ∧ sizedMet enc C.prog fn (OpenSpec.ofChange s) apart (w.forCall tape i).memory i.args) ∧ a.holds C.prog (lone (Frame.enter C.prog f i.args .normal) [] (w.forCall tape i)))
    (contract : ∀ (W : World) (base : Nat) (args : Array Value) (ds gs : List (DataW H)) (before : List MemPlace), (∀ (j : Nat) t v, fn.params[j]? = some t → args[j]? = some v → Value.okWide C.prog W .any base t v) → DataW.Whole enc C.prog fn.params.toList s.vars apart W args.toList ds gs before →
      conds.all (PathCond.test C.prog ⟨fn.params.toList, ds, s.plain.varTypes C.prog, gs⟩) = true → (DataW.weightsEach C.prog (fn.params.toList ++ s.plain.varTypes C.prog) (ds ++ gs)).all (· ≤ reachBytes) = true → X W args → W.ShapedOpen C.prog → a.holds C.prog (lone (Frame.enter C.prog f args .normal) [] W) →
      Calls C.prog f args W fun e W' => ∃ v, e = .returned v ∧ s.post enc C.prog fn apart fresh handsOn again W args v W') :
    ReturnsInHanded a C os f .any (fun w args => (s.pre enc C.prog fn conds apart w args ∧ X w args) ∧ sizedMet enc C.prog fn (OpenSpec.ofChange s) apart w args) (s.post enc C.prog fn apart fresh handsOn again) := by
  refine returnsInHanded_of_calls own started noInit witness fun w tape i _ hsh _ hok hpre hh => ?_
  obtain ⟨_, _, _, fn2, hfn2, _, _, _, _, hval⟩ := hok
  obtain rfl : fn2 = fn := Option.some.inj (hfn2.symm.trans hfn)
  obtain ⟨⟨⟨ds, gs, before, hw, hc⟩, hx⟩, hz⟩ := hpre
  exact (contract (w.forCall tape i) w.heap.size i.args ds gs before hval (DataW.Whole.of_heap (w' := w.forCall tape i) (by rfl) hw) hc (hz.weights hw) (hX _ _ _ (by rfl) hx) hsh hh).mono fun e W' ⟨v, he, hp⟩ => by
    subst he
    exact ChangeSpec.post_blind hp
theorem tab_of_laid {W : World} (h : laidMetH Tryd.prog Rows.fnNumbersRow.laid W) (hsh : W.ShapedOpen Tryd.prog) : PFnNumbers.TabW W := by
  rw [MakeChecks.laidMetH_plain _ _ _ (by kernel_rfl)] at h
  obtain ⟨ps, ⟨g0, t0, cs0, f0, p0, q0, hg0, ht0, hv0, hd0, ⟨g1, t1, cs1, f1, p1, q1, hg1, ht1, hv1, hd1, ⟨g2, t2, cs2, f2, p2, q2, hg2, ht2, hv2, hd2, ⟨g3, t3, cs3, f3, p3, q3, hg3, ht3, hv3, hd3, ⟨g4, t4, cs4, f4, p4, q4, hg4, ht4, hv4, hd4, _, _⟩, _⟩, _⟩, _⟩, _⟩, _⟩ := h
  obtain rfl := Option.some.inj ((show Tryd.prog.globalNamed "math/bits.deBruijn64tab" = some 4 by kernel_rfl).symm.trans hg1)
  obtain rfl := Option.some.inj ((show (Tryd.prog.globals[4]?).map (·.type) = some 83 by kernel_rfl).symm.trans ht1)
  have e1 : cs1.toList = (PFnNumbers.tz64).map (fun z => Value.int .u8 z) := Lib.cells_of_tab Tryd.underlying83 Tryd.underlying5 (by kernel_rfl) (by kernel_rfl) (show DataW.trod _ Tryd.prog W 0 _ _ f1 83 cs1.toList = some (Lib.tabData .u8 PFnNumbers.tz64, p1) from by rw [show Lib.tabData .u8 PFnNumbers.tz64 = Rows.laid_math_bits_deBruijn64tab from by kernel_rfl]; exact hd1)
  obtain rfl := Option.some.inj ((show Tryd.prog.globalNamed "internal/strconv.uint64pow10" = some 0 by kernel_rfl).symm.trans hg2)
  obtain rfl := Option.some.inj ((show (Tryd.prog.globals[0]?).map (·.type) = some 66 by kernel_rfl).symm.trans ht2)
  have e2 : cs2.toList = (Lib.pow10Tab).map (fun z => Value.int .u64 z) := Lib.cells_of_tab Tryd.underlying66 Tryd.underlying52 (by kernel_rfl) (by kernel_rfl) (show DataW.trod _ Tryd.prog W 0 _ _ f2 66 cs2.toList = some (Lib.tabData .u64 Lib.pow10Tab, p2) from by rw [show Lib.tabData .u64 Lib.pow10Tab = Rows.laid_internal_strconv_uint64pow10 from by kernel_rfl]; exact hd2)
  obtain rfl := Option.some.inj ((show Tryd.prog.globalNamed "strconv.ErrRange" = some 2 by kernel_rfl).symm.trans hg3)
  have e3 : ∃ ev, cs3[0]? = some ev ∧ (ev = Value.nilIface ∨ ∃ te pe, ev = Value.iface te pe) := by
    have hti : (Tryd.prog.globals[2]?).map (·.type) = some 40 := by kernel_rfl
    obtain rfl := Option.some.inj (hti.symm.trans ht3)
    obtain ⟨f_, u_, v_, e_, _⟩ := iface_of_trod Tryd.underlying40 (show DataW.trod _ Tryd.prog W 0 _ false f3 40 cs3.toList = some (.iface _ _, p3) from hd3)
    exact ⟨Value.iface u_ v_, by rw [← Array.getElem?_toList, e_]; rfl, .inr ⟨_, _, rfl⟩⟩
  obtain rfl := Option.some.inj ((show Tryd.prog.globalNamed "strconv.ErrSyntax" = some 1 by kernel_rfl).symm.trans hg4)
  have e4 : ∃ ev, cs4[0]? = some ev ∧ (ev = Value.nilIface ∨ ∃ te pe, ev = Value.iface te pe) := by
    have hti : (Tryd.prog.globals[1]?).map (·.type) = some 40 := by kernel_rfl
    obtain rfl := Option.some.inj (hti.symm.trans ht4)
    obtain ⟨f_, u_, v_, e_, _⟩ := iface_of_trod Tryd.underlying40 (show DataW.trod _ Tryd.prog W 0 _ false f4 40 cs4.toList = some (.iface _ _, p4) from hd4)
    exact ⟨Value.iface u_ v_, by rw [← Array.getElem?_toList, e_]; rfl, .inr ⟨_, _, rfl⟩⟩
  exact ⟨PFnNumbers.AtVar.of_var (by kernel_rfl) hv1 e1, PFnNumbers.AtVar.of_var (by kernel_rfl) hv2 e2, PFnNumbers.AtVar.of_var (by kernel_rfl) hv3 e3, PFnNumbers.AtVar.of_var (by kernel_rfl) hv4 e4, trivial⟩
set_option maxRecDepth 100000 in
theorem lifted (os : Os) (started : os.Started) (H : Type) (enc : TypeId × Value → H) :
    ReturnsInHanded {} Tryd.checked os 6 .any (fun w args => (Rows.fnNumbersSpec.pre enc Tryd.prog Tryd.f6 [] false w args ∧ laidMetH Tryd.prog Rows.fnNumbersRow.laid w) ∧ sizedMet enc Tryd.prog Tryd.f6 (OpenSpec.ofChange Rows.fnNumbersSpec) false w args) (Rows.fnNumbersSpec.post enc Tryd.prog Tryd.f6 false true false false) := by
  refine wrapShaped (C := Tryd.checked) (X := fun w _ => laidMetH Tryd.prog Rows.fnNumbersRow.laid w) (fun _ _ _ hh h => h.of_heap hh) own started (by kernel_rfl) Tryd.func6
    (ChangeSpec.witness_shaped (enc := enc) (C := Tryd.checked) (os := os) (X := fun w _ => laidMetH Tryd.prog Rows.fnNumbersRow.laid w) false (World.doorLaid Tryd.prog 62 os) #[.slice none 0 0] 8 rfl (World.shaped_of_RefB (by kernel_rfl) (by kernel_rfl)) (by kernel_rfl) (by kernel_rfl) (by kernel_rfl) (door_met os _)) ?_
  intro W base args ds gs before hval0 hW _ hsz0 hL hSh _
  have hsz : (DataW.weightsEach Tryd.prog (Tryd.f6.params.toList ++ Rows.fnNumbersSpec.plain.varTypes Tryd.prog) (ds ++ gs)).all (· ≤ reachBytes) = true := hsz0
  have hval : ∀ (j : Nat) t v, Tryd.f6.params[j]? = some t → args[j]? = some v → Value.okWide Tryd.prog W .any base t v := hval0
  have hW' := hW
  obtain ⟨p, q, hA0, hV, rfl, hfz, hnd⟩ := hW
  have hA : DataW.TrodAll enc Tryd.prog W 0 (fun _ => true) true Tryd.f6.params.toList args.toList ds p := hA0
  rw [Tryd.params6] at hA hval hsz
  obtain ⟨v0, vs0, d0, ds0, p0, q0, hargs, rfl, rfl, h0, r0⟩ := trodAll_cons hA
  obtain ⟨rfl, rfl, rfl⟩ := trodAll_nil r0
  obtain rfl : args = #[v0] := by cases args; simp_all
  obtain ⟨rfl, rfl⟩ := trodVars_none hV
  have k0 := h0
  have lt0 : ∀ x ∈ p0, x.block < W.heap.size := by obtain ⟨m, hm⟩ := k0; exact DataW.trod_lt m _ _ _ hm
  obtain ⟨a0_, len0_, cap0_, rfl⟩ := okWide_slice Tryd.underlying27 (hval 0 27 v0 rfl rfl)
  obtain ⟨m0, hf0⟩ := h0
  have hf0 := row_one hf0
  obtain ⟨A0, c0, l0, hv0_, hc0, hm0, hr0, hw0⟩ := row_ints Tryd.underlying27 Tryd.underlying5 (by kernel_rfl) hf0
  simp only [Value.slice.injEq] at hv0_
  obtain ⟨rfl, rfl, rfl⟩ := hv0_
  obtain ⟨k, h⟩ := Pure.FnNumbers l0 hm0 hw0
  clear hA0 hval0 hsz0 hsz
  refine (PFnNumbers.laws_FnNumbers.calls k _ _ l0 true W hr0 hc0 (tab_of_laid hL hSh) h).mono fun e W' hpost => ?_
  obtain ⟨he, bel⟩ := hpost
  subst he
  exact ⟨_, rfl, _, _, _, [], _, [], hW', trodAll_mk1 (shut_bool Tryd.underlying4 _), (trodAll_cons_mk (Below.trod laidOut (by kernel_rfl) (of_decide_eq_true (by kernel_rfl)) k0 bel lt0) trodAll_mk0), rfl, bel.frame _, fun h => by cases h⟩
theorem cf0 : (Rows.fnNumbersRow.wf (OpenSpec.ofChange Rows.fnNumbersSpec)) = true := by kernel_rfl
theorem cf1 : (laidOutB Tryd.prog) = true := laidOut
theorem cf2 : (mapsRowed Tryd.prog) = true := by kernel_rfl
theorem cf3 : (Tryd.f6.params.all (Tryd.prog.readableRec ·)) = true := by kernel_rfl
theorem cf4 : (namedTie Tryd.prog Rows.fnNumbersRow.named Rows.fnNumbersSpec.vars) = true := by kernel_rfl
theorem cf5 : (Rows.fnNumbersRow.stops == []) = true := by kernel_rfl
theorem cf6 : (Tryd.prog.stops == []) = true := by kernel_rfl
theorem cf7 : (Rows.fnNumbersRow.knobs == []) = true := by kernel_rfl
theorem cf8 : (Tryd.prog.stopKnobs == []) = true := by kernel_rfl
theorem cf9 : (Rows.fnNumbersRow.inPlace == Tryd.prog.inPlace 6) = true := by kernel_rfl
theorem cf10 : (Rows.fnNumbersRow.unfollowed == Tryd.prog.unfollowed 6) = true := by kernel_rfl
theorem cf11 : (Rows.fnNumbersRow.recurses == Tryd.prog.recurses 6) = true := by kernel_rfl
theorem cf12 : (Rows.fnNumbersRow.named == Tryd.prog.varsNamed 6) = true := by kernel_rfl
theorem cf13 : (Rows.fnNumbersRow.maps == (Tryd.f6.params.toList ++ Rows.fnNumbersSpec.plain.varTypes Tryd.prog).any (Tryd.prog.mapsRec ·)) = true := by kernel_rfl
theorem cf14 : (Rows.fnNumbersRow.ifaces == (Tryd.f6.params.toList ++ Rows.fnNumbersSpec.plain.varTypes Tryd.prog).any (Tryd.prog.ifacesRec ·)) = true := by kernel_rfl
theorem cf15 : (Rows.fnNumbersRow.mapsOut == Tryd.prog.mapsAmong Tryd.f6.resultTypes.toList) = true := by kernel_rfl
theorem cf16 : (Rows.fnNumbersRow.loops == (Tryd.f6.params.toList ++ Rows.fnNumbersSpec.plain.varTypes Tryd.prog).any (Tryd.prog.loopsFrom ·)) = true := by kernel_rfl
theorem cf17 : (Rows.fnNumbersRow.wideKeys == (Tryd.f6.params.toList ++ Rows.fnNumbersSpec.plain.varTypes Tryd.prog ++ Tryd.f6.resultTypes.toList).any (Tryd.prog.wideKeysFrom ·)) = true := by kernel_rfl
theorem cf18 : (Rows.fnNumbersSpec.vars.all (Tryd.prog.varReadable ·)) = true := by kernel_rfl
theorem cf19 : (Tryd.f6.resultTypes.all (fun t => Tryd.prog.readableRec t && decide (t < Tryd.prog.types.size))) = true := by kernel_rfl
theorem cf20 : (Rows.fnNumbersRow.ifacesOut == Tryd.f6.resultTypes.toList.any (Tryd.prog.ifacesRec ·)) = true := by kernel_rfl
theorem cf21 : (Rows.fnNumbersRow.loopsOut == Tryd.f6.resultTypes.toList.any (Tryd.prog.loopsFrom ·)) = true := by kernel_rfl
theorem cf22 : (Rows.fnNumbersRow.plainKeys == Tryd.prog.plainKeys) = true := by kernel_rfl
theorem cf23 : (Rows.fnNumbersRow.shortTexts.isNone) = true := by kernel_rfl
theorem cf24 : (Tryd.prog.stopsHeard) = true := by kernel_rfl
theorem cf25 : (Tryd.prog.mayEnter) = true := YtpnnichlkaedlaaDoorFacts.may
theorem cf26 : (Rows.fnNumbersRow.lifted == Tryd.prog.liftsFinal) = true := by rw [YtpnnichlkaedlaaDoorFacts.lif]; kernel_rfl
theorem cf27 : (Tryd.prog.make == some Rows.fnNumbersRow.make) = true := by rw [YtpnnichlkaedlaaDoorFacts.mak]; kernel_rfl
theorem cf28 : (Rows.fnNumbersRow.kinds == (if Rows.fnNumbersRow.domain.isEmpty then [] else Tryd.f6.params.toList.map fun t => match Tryd.prog.underlying t with | some (.int k) => some k | _ => none)) = true := by kernel_rfl
theorem cf29 : (Rows.fnNumbersRow.pinned == Rows.fnNumbersRow.pinnedBy) = true := by kernel_rfl
theorem cf30 : (Rows.fnNumbersRow.veiled == (Tryd.f6.params.toList ++ Rows.fnNumbersSpec.plain.varTypes Tryd.prog ++ Tryd.f6.resultTypes.toList).any (Tryd.prog.veiledRec ·)) = true := by kernel_rfl
theorem cf31 : (Rows.fnNumbersRow.veiledFits Tryd.prog Tryd.f6.params.toList (Tryd.f6.params.toList ++ Rows.fnNumbersSpec.plain.varTypes Tryd.prog ++ Tryd.f6.resultTypes.toList)) = true := by kernel_rfl
theorem closed : joinedFacts Tryd.prog 6 Tryd.f6 Rows.fnNumbersSpec Rows.fnNumbersRow = true := by
  unfold joinedFacts
  simp only [Bool.and_eq_true]
  exact ⟨⟨⟨⟨⟨⟨⟨⟨⟨⟨⟨⟨⟨⟨⟨⟨⟨⟨⟨⟨⟨⟨⟨⟨⟨⟨⟨⟨⟨⟨⟨cf0, cf1⟩, cf2⟩, cf3⟩, cf4⟩, cf5⟩, cf6⟩, cf7⟩, cf8⟩, cf9⟩, cf10⟩, cf11⟩, cf12⟩, cf13⟩, cf14⟩, cf15⟩, cf16⟩, cf17⟩, cf18⟩, cf19⟩, cf20⟩, cf21⟩, cf22⟩, cf23⟩, cf24⟩, cf25⟩, cf26⟩, cf27⟩, cf28⟩, cf29⟩, cf30⟩, cf31⟩
theorem over : Rows.fnNumbersRow.holds Tryd.pinned (OpenSpec.ofChange Rows.fnNumbersSpec) :=
  OpenClaim.holds_of_wide 6 Tryd.f6 rfl rfl rfl rfl rfl rfl rfl ⟨rfl, rfl, rfl, rfl, rfl⟩ rfl rfl rfl rfl rfl (by kernel_rfl) Tryd.func6 closed
    (of_decide_eq_true (by kernel_rfl)) (by unfold Func.isWrapper; first | (rw [if_pos (by decide +kernel)]; kernel_rfl) | (rw [if_neg (by decide +kernel)]; exact ⟨rfl, rfl⟩))
    (fun os started H enc _ => lifted os started H enc)
theorem proved : Rows.FnNumbersSaid := over
theorem carded : Rows.FnNumbersCardSaid :=
  Claim7.holds_tied_plain_at .later [] [.data, .data, .data, .sentinel, .sentinel] true (true, "af3b06872a65cd3eedf4c5823969ee3180be03412d57e6e295c9ff4246307607") true
    proved (fun _ h => by cases h) (by kernel_rfl) (fun _ h => by cases h) fnNumbers_row_tie rfl ⟨rfl, rfl⟩ (by kernel_rfl) rfl
    (fun f fn hf hfn => by
      obtain rfl : f = 6 := Option.some.inj ((show Tryd.prog.funcNamed "loop.example/g00596/laws.FnNumbers" = some 6 by kernel_rfl).symm.trans hf) |>.symm
      obtain rfl : fn = Tryd.f6 := (Option.some.inj (Tryd.func6.symm.trans hfn)).symm
      exact ⟨by kernel_rfl, fun j t ht => by
        rw [Tryd.params6] at ht
        have hm : t ∈ [27] := by simpa using Array.mem_of_getElem? ht
        have hall : ([27].all fun u => !Tryd.prog.wantsStandIn u) = true := by kernel_rfl
        exact (show Tryd.prog.wantsStandIn t = false by simpa using List.all_eq_true.1 hall t hm)⟩)
    (by kernel_rfl)
#print axioms carded
end Go.Proofs.YtpnnichlkaedlaaDoor.fnNumbers
namespace Go.Proofs.YtpnnichlkaedlaaDoor
/-- The tied card, under a short name, for the claim. -/
theorem fnNumbers_holds : Rows.FnNumbersCardSaid := fnNumbers.carded
end Go.Proofs.YtpnnichlkaedlaaDoor
