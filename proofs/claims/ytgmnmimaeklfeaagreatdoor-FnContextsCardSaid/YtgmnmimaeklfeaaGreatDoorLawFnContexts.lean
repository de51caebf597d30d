-- Written by a program of this session (wip/myprint.py), which runs the kit's print with contracts proved by hand; not the kit's own print. Lean checks it.
import Derived.Test.YtgmnmimaeklfeaaGreatDoorRows
import Derived.Test.YtgmnmimaeklfeaaGreatDoorPFnContextsx14
import Derived.Test.YtgmnmimaeklfeaaGreatDoorPFnContextsx15
import Derived.Test.YtgmnmimaeklfeaaGreatDoorPureFnContexts
import Derived.Test.YtgmnmimaeklfeaaGreatDoorRd
import Derived.Test.YtgmnmimaeklfeaaGreatDoorTie
import Derived.Test.YtgmnmimaeklfeaaGreatDoorCards
import Derived.LaidMore
import Derived.Stop.Joined
import Derived.Lib.LaidTab
import Derived.SevenTiedAt
import Derived.Lay
import Derived.LaidOnce
import Derived.Shelf.Vars
import Derived.Test.YtgmnmimaeklfeaaGreatDoorFacts
import Derived.WalkKit
import Derived.ProofKit
import Derived.OpenShut
import Derived.ShutString
import Derived.ChangeOld
import Derived.Below
import Derived.SizedLaws
import Derived.Lib.SmallJoins
namespace Go.Proofs.YtgmnmimaeklfeaaGreatDoor.fnContexts
open Go.ChangeShapes Go.WideShapes Go.ChangeAt Go.RowKit Go.Proofs.YtgmnmimaeklfeaaGreatDoorRd
open Go.ChangeMaps (open_string shut_string)
set_option linter.unusedVariables false
theorem own : ownKnob Tryz.prog.godebug = none := by kernel_rfl
theorem laidOut : laidOutB Tryz.prog = true := YtgmnmimaeklfeaaGreatDoorFacts.laidOut
/-- What the form asks of a world that fits, handed on whole: what the row lists, and the world's shape. -/
theorem wrapShaped {H : Type} {enc : TypeId × Value → H} {a : Assume} {C : Checked} {os : Os} {f : FuncId} {fn : Func} {s : ChangeSpec} {conds : List PathCond} {apart fresh handsOn again : Bool} {X : World → Array Value → Prop}
    (hX : ∀ (w w' : World) (args : Array Value), w.heap = w'.heap → X w args → X w' args)
    (own : ownKnob C.prog.godebug = none) (started : os.Started) (noInit : C.prog.inits.idxOf? f = none) (hfn : C.prog.funcs[f]? = some fn)
    (witness : ∃ (w : World) (tape : Tape) (i : Input), w.os = os ∧ (w.forCall tape i).Shaped C.prog ∧ i.vars = [] ∧ Input.okWide C.prog (w.forCall tape i) .any w.heap.size f i ∧ ((s.pre enc C.prog fn conds apart (w.forCall tape i).memory i.args ∧ X (w.forCall tape i).memory i.args) ∧ sizedMet enc C.prog fn (OpenSpec.ofChange s) apart (w.forCall tape i).memory i.args) ∧ a.holds C.prog (lone (Frame.enter C.prog f i.args .normal) [] (w.forCall tape i)))
    (contract : ∀ (W : World) (base : Nat) (args : Array Value) (ds gs : List (DataW H)) (before : List MemPlace), (∀ (j : Nat) t v, fn.params[j]? = some t → args[j]? = some v → Value.okWide C.prog W .any base t v) → DataW.Whole enc C.prog fn.params.toList s.vars apart W args.toList ds gs before →
      conds.all (PathCond.test C.prog ⟨fn.params.toList, ds, s.plain.varTypes C.prog, gs⟩) = true → (DataW.weightsEach C.prog (fn.params.toList ++ s.plain.varTypes C.prog) (ds ++ gs)).all (· ≤ reachBytes) = true → X W args → W.ShapedOpen C.prog → a.holds C.prog (lone (Frame.enter C.prog f args .normal) [] W) →
      Calls C.prog f args W fun e W' => ∃ v, e = .returned v ∧ s.post enc C.prog fn apart fresh handsOn again W args v W') :
    ReturnsInHanded a C os f .any (fun w args => (s.pre enc C.prog fn conds apart w args ∧ X w args) ∧ sizedMet enc C.prog fn (OpenSpec.ofChange s) apart w args) (s.post enc C.prog fn apart fresh handsOn again) := by
  refine returnsInHanded_of_calls own started noInit witness fun w tape i _ hsh _ hok hpre hh => ?_
  obtain ⟨_, _, _, fn2, hfn2, _, _, _, _, hval⟩ := hok
  obtain rfl : fn2 = fn := Option.some.inj (hfn2.symm.trans hfn)
  obtain ⟨⟨⟨ds, gs, before, hw, hc⟩, hx⟩, hz⟩ := hpre
  exact (contract (w.forCall tape i) w.heap.size i.args ds gs before hval (DataW.Whole.of_heap (w' := w.forCall tape i) (by rfl) hw) hc (hz.weights hw) (hX _ _ _ (by rfl) hx) hsh hh).mono fun e W' ⟨v, he, hp⟩ => by
    subst he
    exact ChangeSpec.post_blind hp
theorem tab_of_laid {W : World} (h : laidMetH Tryz.prog Rows.fnContextsRow.laid W) (hsh : W.ShapedOpen Tryz.prog) : PFnContexts.TabW W := by
  rw [MakeChecks.laidMetH_plain _ _ _ (by kernel_rfl)] at h
  obtain ⟨ps, ⟨g0, t0, cs0, f0, p0, q0, hg0, ht0, hv0, hd0, ⟨g1, t1, cs1, f1, p1, q1, hg1, ht1, hv1, hd1, ⟨g2, t2, cs2, f2, p2, q2, hg2, ht2, hv2, hd2, ⟨g3, t3, cs3, f3, p3, q3, hg3, ht3, hv3, hd3, ⟨g4, t4, cs4, f4, p4, q4, hg4, ht4, hv4, hd4, ⟨g5, t5, cs5, f5, p5, q5, hg5, ht5, hv5, hd5, _, _⟩, _⟩, _⟩, _⟩, _⟩, _⟩, _⟩ := h
  obtain rfl := Option.some.inj ((show Tryz.prog.globalNamed "math/bits.deBruijn64tab" = some 7 by kernel_rfl).symm.trans hg1)
  obtain rfl := Option.some.inj ((show (Tryz.prog.globals[7]?).map (·.type) = some 138 by kernel_rfl).symm.trans ht1)
  have e1 : cs1.toList = (PFnContexts.tz64).map (fun z => Value.int .u8 z) := Lib.cells_of_tab Tryz.underlying138 Tryz.underlying5 (by kernel_rfl) (by kernel_rfl) (show DataW.trod _ Tryz.prog W 0 _ _ f1 138 cs1.toList = some (Lib.tabData .u8 PFnContexts.tz64, p1) from by rw [show Lib.tabData .u8 PFnContexts.tz64 = Rows.laid_math_bits_deBruijn64tab from by kernel_rfl]; exact hd1)
  obtain rfl := Option.some.inj ((show Tryz.prog.globalNamed "internal/strconv.uint64pow10" = some 3 by kernel_rfl).symm.trans hg2)
  obtain rfl := Option.some.inj ((show (Tryz.prog.globals[3]?).map (·.type) = some 121 by kernel_rfl).symm.trans ht2)
  have e2 : cs2.toList = (Lib.pow10Tab).map (fun z => Value.int .u64 z) := Lib.cells_of_tab Tryz.underlying121 Tryz.underlying108 (by kernel_rfl) (by kernel_rfl) (show DataW.trod _ Tryz.prog W 0 _ _ f2 121 cs2.toList = some (Lib.tabData .u64 Lib.pow10Tab, p2) from by rw [show Lib.tabData .u64 Lib.pow10Tab = Rows.laid_internal_strconv_uint64pow10 from by kernel_rfl]; exact hd2)
  obtain rfl := Option.some.inj ((show Tryz.prog.globalNamed "strconv.ErrRange" = some 2 by kernel_rfl).symm.trans hg4)
  have e4 : ∃ ev, cs4[0]? = some ev ∧ (ev = Value.nilIface ∨ ∃ te pe, ev = Value.iface te pe) := by
    have hti : (Tryz.prog.globals[2]?).map (·.type) = some 81 := by kernel_rfl
    obtain rfl := Option.some.inj (hti.symm.trans ht4)
    obtain ⟨f_, u_, v_, e_, _⟩ := iface_of_trod Tryz.underlying81 (show DataW.trod _ Tryz.prog W 0 _ false f4 81 cs4.toList = some (.iface _ _, p4) from hd4)
    exact ⟨Value.iface u_ v_, by rw [← Array.getElem?_toList, e_]; rfl, .inr ⟨_, _, rfl⟩⟩
  obtain rfl := Option.some.inj ((show Tryz.prog.globalNamed "strconv.ErrSyntax" = some 1 by kernel_rfl).symm.trans hg5)
  have e5 : ∃ ev, cs5[0]? = some ev ∧ (ev = Value.nilIface ∨ ∃ te pe, ev = Value.iface te pe) := by
    have hti : (Tryz.prog.globals[1]?).map (·.type) = some 81 := by kernel_rfl
    obtain rfl := Option.some.inj (hti.symm.trans ht5)
    obtain ⟨f_, u_, v_, e_, _⟩ := iface_of_trod Tryz.underlying81 (show DataW.trod _ Tryz.prog W 0 _ false f5 81 cs5.toList = some (.iface _ _, p5) from hd5)
    exact ⟨Value.iface u_ v_, by rw [← Array.getElem?_toList, e_]; rfl, .inr ⟨_, _, rfl⟩⟩
  exact ⟨PFnContexts.AtVar.of_var (by kernel_rfl) hv1 e1, PFnContexts.AtVar.of_var (by kernel_rfl) hv2 e2, PFnContexts.AtVar.of_var (by kernel_rfl) hv4 e4, PFnContexts.AtVar.of_var (by kernel_rfl) hv5 e5, PFnContexts.AtVar.of_cell (cell_of_shapedOpen_int (k := .i64) hsh (g := 0) (t := 3) (zero := #[.int .i64 0]) (of_decide_eq_true (by kernel_rfl)) (by kernel_rfl) (by kernel_rfl) (by kernel_rfl) (by kernel_rfl) (by kernel_rfl)), trivial⟩
set_option maxRecDepth 100000 in
theorem lifted (os : Os) (started : os.Started) (H : Type) (enc : TypeId × Value → H) :
    ReturnsInHanded {} Tryz.checked os 3 .any (fun w args => (Rows.fnContextsSpec.pre enc Tryz.prog Tryz.f3 [] false w args ∧ laidMetH Tryz.prog Rows.fnContextsRow.laid w) ∧ sizedMet enc Tryz.prog Tryz.f3 (OpenSpec.ofChange Rows.fnContextsSpec) false w args) (Rows.fnContextsSpec.post enc Tryz.prog Tryz.f3 false true false false) := by
  refine wrapShaped (C := Tryz.checked) (X := fun w _ => laidMetH Tryz.prog Rows.fnContextsRow.laid w) (fun _ _ _ hh h => h.of_heap hh) own started (by kernel_rfl) Tryz.func3
    (ChangeSpec.witness_shaped (enc := enc) (C := Tryz.checked) (os := os) (X := fun w _ => laidMetH Tryz.prog Rows.fnContextsRow.laid w) false (World.laidAll Tryz.prog os Rows.fnContextsRow.laid) #[.slice none 0 0] 8 (World.laidAll_os _ _ _) (World.shaped_of_ZipB (by kernel_rfl) (by kernel_rfl)) (by kernel_rfl) (by kernel_rfl) (by kernel_rfl) (by rw [MakeChecks.laidMetH_plain _ _ _ (by kernel_rfl)]; exact laidMet_laidAll _ (by kernel_rfl) (by kernel_rfl))) ?_
  intro W base args ds gs before hval0 hW _ hsz0 hL hSh _
  have hsz : (DataW.weightsEach Tryz.prog (Tryz.f3.params.toList ++ Rows.fnContextsSpec.plain.varTypes Tryz.prog) (ds ++ gs)).all (· ≤ reachBytes) = true := hsz0
  have hval : ∀ (j : Nat) t v, Tryz.f3.params[j]? = some t → args[j]? = some v → Value.okWide Tryz.prog W .any base t v := hval0
  have hW' := hW
  obtain ⟨p, q, hA0, hV, rfl, hfz, hnd⟩ := hW
  have hA : DataW.TrodAll enc Tryz.prog W 0 (fun _ => true) true Tryz.f3.params.toList args.toList ds p := hA0
  rw [Tryz.params3] at hA hval hsz
  obtain ⟨v0, vs0, d0, ds0, p0, q0, hargs, rfl, rfl, h0, r0⟩ := trodAll_cons hA
  obtain ⟨rfl, rfl, rfl⟩ := trodAll_nil r0
  obtain rfl : args = #[v0] := by cases args; simp_all
  obtain ⟨rfl, rfl⟩ := trodVars_none hV
  have k0 := h0
  have lt0 : ∀ x ∈ p0, x.block < W.heap.size := by obtain ⟨m, hm⟩ := k0; exact DataW.trod_lt m _ _ _ hm
  obtain ⟨a0_, len0_, cap0_, rfl⟩ := okWide_slice Tryz.underlying22 (hval 0 22 v0 rfl rfl)
  obtain ⟨m0, hf0⟩ := h0
  have hf0 := row_one hf0
  obtain ⟨A0, c0, l0, hv0_, hc0, hm0, hr0, hw0⟩ := row_ints Tryz.underlying22 Tryz.underlying5 (by kernel_rfl) hf0
  simp only [Value.slice.injEq] at hv0_
  obtain ⟨rfl, rfl, rfl⟩ := hv0_
  obtain ⟨k, h⟩ := Pure.FnContexts l0 hm0 hw0
  clear hA0 hval0 hsz0 hsz
  refine (PFnContexts.laws_FnContexts.calls k _ _ l0 true W hr0 hc0 rfl (tab_of_laid hL hSh) h).mono fun e W' hpost => ?_
  obtain ⟨he, bel⟩ := hpost
  subst he
  exact ⟨_, rfl, _, _, _, [], _, [], hW', trodAll_mk1 (shut_bool Tryz.underlying4 _), (trodAll_cons_mk (Below.trod laidOut (by kernel_rfl) (of_decide_eq_true (by kernel_rfl)) k0 bel lt0) trodAll_mk0), rfl, bel.frame _, fun h => by cases h⟩
theorem cf0 : (Rows.fnContextsRow.wf (OpenSpec.ofChange Rows.fnContextsSpec)) = true := by kernel_rfl
theorem cf1 : (laidOutB Tryz.prog) = true := laidOut
theorem cf2 : (mapsRowed Tryz.prog) = true := by kernel_rfl
theorem cf3 : (Tryz.f3.params.all (Tryz.prog.readableRec ·)) = true := by kernel_rfl
theorem cf4 : (namedTie Tryz.prog Rows.fnContextsRow.named Rows.fnContextsSpec.vars) = true := by kernel_rfl
theorem cf5 : (Rows.fnContextsRow.stops == []) = true := by kernel_rfl
theorem cf6 : (Tryz.prog.stops == []) = true := by kernel_rfl
theorem cf7 : (Rows.fnContextsRow.knobs == []) = true := by kernel_rfl
theorem cf8 : (Tryz.prog.stopKnobs == []) = true := by kernel_rfl
theorem cf9 : (Rows.fnContextsRow.inPlace == Tryz.prog.inPlace 3) = true := by kernel_rfl
theorem cf10 : (Rows.fnContextsRow.unfollowed == Tryz.prog.unfollowed 3) = true := by kernel_rfl
theorem cf11 : (Rows.fnContextsRow.recurses == Tryz.prog.recurses 3) = true := by kernel_rfl
theorem cf12 : (Rows.fnContextsRow.named == Tryz.prog.varsNamed 3) = true := by kernel_rfl
theorem cf13 : (Rows.fnContextsRow.maps == (Tryz.f3.params.toList ++ Rows.fnContextsSpec.plain.varTypes Tryz.prog).any (Tryz.prog.mapsRec ·)) = true := by kernel_rfl
theorem cf14 : (Rows.fnContextsRow.ifaces == (Tryz.f3.params.toList ++ Rows.fnContextsSpec.plain.varTypes Tryz.prog).any (Tryz.prog.ifacesRec ·)) = true := by kernel_rfl
theorem cf15 : (Rows.fnContextsRow.mapsOut == Tryz.prog.mapsAmong Tryz.f3.resultTypes.toList) = true := by kernel_rfl
theorem cf16 : (Rows.fnContextsRow.loops == (Tryz.f3.params.toList ++ Rows.fnContextsSpec.plain.varTypes Tryz.prog).any (Tryz.prog.loopsFrom ·)) = true := by kernel_rfl
theorem cf17 : (Rows.fnContextsRow.wideKeys == (Tryz.f3.params.toList ++ Rows.fnContextsSpec.plain.varTypes Tryz.prog ++ Tryz.f3.resultTypes.toList).any (Tryz.prog.wideKeysFrom ·)) = true := by kernel_rfl
theorem cf18 : (Rows.fnContextsSpec.vars.all (Tryz.prog.varReadable ·)) = true := by kernel_rfl
theorem cf19 : (Tryz.f3.resultTypes.all (fun t => Tryz.prog.readableRec t && decide (t < Tryz.prog.types.size))) = true := by kernel_rfl
theorem cf20 : (Rows.fnContextsRow.ifacesOut == Tryz.f3.resultTypes.toList.any (Tryz.prog.ifacesRec ·)) = true := by kernel_rfl
theorem cf21 : (Rows.fnContextsRow.loopsOut == Tryz.f3.resultTypes.toList.any (Tryz.prog.loopsFrom ·)) = true := by kernel_rfl
theorem cf22 : (Rows.fnContextsRow.plainKeys == Tryz.prog.plainKeys) = true := by kernel_rfl
theorem cf23 : (Rows.fnContextsRow.shortTexts.isNone) = true := by kernel_rfl
theorem cf24 : (Tryz.prog.stopsHeard) = true := by kernel_rfl
theorem cf25 : (Tryz.prog.mayEnter) = true := YtgmnmimaeklfeaaGreatDoorFacts.may
theorem cf26 : (Rows.fnContextsRow.lifted == Tryz.prog.liftsFinal) = true := by rw [YtgmnmimaeklfeaaGreatDoorFacts.lif]; kernel_rfl
theorem cf27 : (Tryz.prog.make == some Rows.fnContextsRow.make) = true := by rw [YtgmnmimaeklfeaaGreatDoorFacts.mak]; kernel_rfl
theorem cf28 : (Rows.fnContextsRow.kinds == (if Rows.fnContextsRow.domain.isEmpty then [] else Tryz.f3.params.toList.map fun t => match Tryz.prog.underlying t with | some (.int k) => some k | _ => none)) = true := by kernel_rfl
theorem cf29 : (Rows.fnContextsRow.pinned == Rows.fnContextsRow.pinnedBy) = true := by kernel_rfl
theorem cf30 : (Rows.fnContextsRow.veiled == (Tryz.f3.params.toList ++ Rows.fnContextsSpec.plain.varTypes Tryz.prog ++ Tryz.f3.resultTypes.toList).any (Tryz.prog.veiledRec ·)) = true := by kernel_rfl
theorem cf31 : (Rows.fnContextsRow.veiledFits Tryz.prog Tryz.f3.params.toList (Tryz.f3.params.toList ++ Rows.fnContextsSpec.plain.varTypes Tryz.prog ++ Tryz.f3.resultTypes.toList)) = true := by kernel_rfl
set_option maxRecDepth 100000 in
theorem closed : joinedFacts Tryz.prog 3 Tryz.f3 Rows.fnContextsSpec Rows.fnContextsRow = true := by
  unfold joinedFacts
  simp only [Bool.and_eq_true]
  exact ⟨⟨⟨⟨⟨⟨⟨⟨⟨⟨⟨⟨⟨⟨⟨⟨⟨⟨⟨⟨⟨⟨⟨⟨⟨⟨⟨⟨⟨⟨⟨cf0, cf1⟩, cf2⟩, cf3⟩, cf4⟩, cf5⟩, cf6⟩, cf7⟩, cf8⟩, cf9⟩, cf10⟩, cf11⟩, cf12⟩, cf13⟩, cf14⟩, cf15⟩, cf16⟩, cf17⟩, cf18⟩, cf19⟩, cf20⟩, cf21⟩, cf22⟩, cf23⟩, cf24⟩, cf25⟩, cf26⟩, cf27⟩, cf28⟩, cf29⟩, cf30⟩, cf31⟩
theorem over : Rows.fnContextsRow.holds Tryz.pinned (OpenSpec.ofChange Rows.fnContextsSpec) :=
  OpenClaim.holds_of_wide 3 Tryz.f3 rfl rfl rfl rfl rfl rfl rfl ⟨rfl, rfl, rfl, rfl, rfl⟩ rfl rfl rfl rfl rfl (by kernel_rfl) Tryz.func3 closed
    (of_decide_eq_true (by kernel_rfl)) (by unfold Func.isWrapper; first | (rw [if_pos (by decide +kernel)]; kernel_rfl) | (rw [if_neg (by decide +kernel)]; exact ⟨rfl, rfl⟩))
    (fun os started H enc _ => lifted os started H enc)
theorem proved : Rows.FnContextsSaid := over
theorem carded : Rows.FnContextsCardSaid :=
  Claim7.holds_tied_plain_at .later [] [.data, .data, .data, .data, .sentinel, .sentinel, .pinned] true (true, "4fb96d62014147d6d333014c9d5c23b29a9577f065b754ed766c6b34750b7c6e") true
    proved (fun _ h => by cases h) (by kernel_rfl) (fun _ h => by cases h) fnContexts_row_tie rfl ⟨rfl, rfl⟩ (by kernel_rfl) rfl
    (fun f fn hf hfn => by
      obtain rfl : f = 3 := Option.some.inj ((show Tryz.prog.funcNamed "loop.example/g00596/laws.FnContexts" = some 3 by kernel_rfl).symm.trans hf) |>.symm
      obtain rfl : fn = Tryz.f3 := (Option.some.inj (Tryz.func3.symm.trans hfn)).symm
      exact ⟨by kernel_rfl, fun j t ht => by
        rw [Tryz.params3] at ht
        have hm : t ∈ [22] := by simpa using Array.mem_of_getElem? ht
        have hall : ([22].all fun u => !Tryz.prog.wantsStandIn u) = true := by kernel_rfl
        exact (show Tryz.prog.wantsStandIn t = false by simpa using List.all_eq_true.1 hall t hm)⟩)
    (by kernel_rfl)
#print axioms carded
end Go.Proofs.YtgmnmimaeklfeaaGreatDoor.fnContexts
namespace Go.Proofs.YtgmnmimaeklfeaaGreatDoor
/-- The tied card, under a short name, for the claim. -/
theorem fnContexts_holds : Rows.FnContextsCardSaid := fnContexts.carded
end Go.Proofs.YtgmnmimaeklfeaaGreatDoor
