-- Written by a program of this session (wip/myprint.py), which runs the kit's print with contracts proved by hand; not the kit's own print. Lean checks it.
import Derived.Test.YtodmfdkmmpefpaaGreatDoorPFnConceptsx18
namespace Go.Proofs.YtodmfdkmmpefpaaGreatDoor.PFnConcepts
open Go.RowKit Go.Proofs.YtodmfdkmmpefpaaGreatDoorW.PrintWords Go.Proofs.YtodmfdkmmpefpaaGreatDoorW.PrintLast Go.Proofs.YtodmfdkmmpefpaaGreatDoorW.PrintMore
attribute [local go_sem] max2_int min2_int max_two min_two max_three min_three max_four min_four   -- for this text's walks alone
set_option linter.unusedVariables false
set_option linter.unusedSimpArgs false

/-! ### laws_FnConcepts: function 3 -/
open List (setIfInBounds_toArray set_cons_zero set_cons_succ)
def laws_FnConcepts.T18 : Bool × List (List Nat × List Nat) := (true, [([], []), ([], []), ([1], [1]), ([0, 2, 2], [0, 2]), ([3], [3]), ([4, 3], [4]), ([5], [5]), ([5], [5]), ([6, 7, 5, 5], [5, 6, 7]), ([5], [5]), ([5], [5]), ([9, 10, 8, 5], [5, 9, 10]), ([8, 11, 5], [5, 8, 11]), ([5, 12], [5, 12]), ([13, 11], [13]), ([14], [14]), ([14], [14]), ([15, 16, 14], [14, 15, 16]), ([14, 17], [14, 17]), ([18, 14], [18]), ([19], [19]), ([19], [19]), ([20, 21, 19], [19, 20, 21]), ([19, 22], [19, 22]), ([23, 19], [23]), ([24], [24]), ([24], [24]), ([25, 26, 24], [24, 25, 26]), ([24, 27], [24, 27]), ([28, 24], [28]), ([29], [29]), ([29], [29]), ([30, 31, 29], [29, 30, 31]), ([29, 32], [29, 32]), ([33, 29], [33]), ([34], [34]), ([34], [34]), ([35, 36, 34], [34, 35, 36]), ([34, 37], [34, 37]), ([38, 34], [38]), ([39], [39]), ([39], [39]), ([40, 41, 39], [39, 40, 41]), ([39, 42], [39, 42]), ([43, 39], [43]), ([44], [44]), ([44], [44]), ([45, 46, 44], [44, 45, 46]), ([44, 47], [44, 47]), ([48, 44], [48]), ([49], [49]), ([49], [49]), ([50, 51, 49], [49, 50, 51]), ([49, 52], [49, 52]), ([53, 49], [53]), ([54], [54]), ([55, 54, 54], [54, 55]), ([54], [54]), ([57, 56, 54], [54, 57]), ([56, 58, 54], [54, 56, 58]), ([54, 59], [54, 59])])
def laws_FnConcepts.B18 : List Nat := [0, 0, 2, 7, 15, 31, 63, 63, 255, 63, 63, 2047, 4095, 8191, 16383, 32767, 32767, 131071, 262143, 524287, 1048575, 1048575, 4194303, 8388607, 16777215, 33554431, 33554431, 134217727, 268435455, 536870911, 1073741823, 1073741823, 4294967295, 8589934591, 17179869183, 34359738367, 34359738367, 137438953471, 274877906943, 549755813887, 1099511627775, 1099511627775, 4398046511103, 8796093022207, 17592186044415, 35184372088831, 35184372088831, 140737488355327, 281474976710655, 562949953421311, 1125899906842623, 1125899906842623, 4503599627370495, 9007199254740991, 18014398509481983, 36028797018963967, 72057594037927935, 36028797018963967, 288230376151711743, 576460752303423487, 1152921504606846975]
theorem laws_FnConcepts.tab18 : rtab .any (opsOf Tryz.f3 18) = laws_FnConcepts.T18 := by kernel_rfl
theorem laws_FnConcepts.bits18 : waitsOk laws_FnConcepts.T18.2 laws_FnConcepts.B18 = true := by kernel_rfl
def laws_FnConcepts.T29 : Bool × List (List Nat × List Nat) := (true, [([], []), ([], []), ([], []), ([1, 2], [1, 2]), ([3], [3]), ([0, 4], [0, 4]), ([5], [5]), ([6, 5], [6]), ([7], [7]), ([8, 7], [7, 8]), ([9, 7, 7], [7, 9]), ([10], [10]), ([10], [10]), ([12, 10], [10, 12]), ([11, 13, 10], [10, 11, 13]), ([14, 10], [10, 14]), ([15, 10], [10, 15]), ([10], [10]), ([10], [10]), ([17, 18, 10], [10, 17, 18]), ([19, 10], [10, 19]), ([20, 10], [10, 20]), ([16, 21, 10, 10], [10, 16, 21]), ([22, 10], [10, 22]), ([10, 23, 7], [7, 10, 23]), ([7, 24], [7, 24])])
def laws_FnConcepts.B29 : List Nat := [0, 0, 0, 6, 14, 31, 63, 127, 255, 511, 1023, 2047, 2047, 6143, 16383, 32767, 65535, 2047, 2047, 395263, 919551, 1968127, 4194303, 8388607, 16777215, 33554431]
theorem laws_FnConcepts.tab29 : rtab .any (opsOf Tryz.f3 29) = laws_FnConcepts.T29 := by kernel_rfl
theorem laws_FnConcepts.bits29 : waitsOk laws_FnConcepts.T29.2 laws_FnConcepts.B29 = true := by kernel_rfl
theorem laws_FnConcepts.j0_dead (k : Nat) (a0_ : List (S31)) (a1_ : Int) (a2_ : Int) (a3_ : Bool) (a5_ : Int) (a6_ : List Int) (a7_ : Int) (a8_ : List Int) (h : laws_FnConcepts.j0 k a0_ a1_ a2_ a3_ true a5_ a6_ a7_ a8_ = some true) : False := by cases k <;> simp [laws_FnConcepts.j0] at h
set_option maxHeartbeats 8000000 in
set_option maxRecDepth 100000 in
theorem laws_FnConcepts.calls (k : Nat) (A0 : Option Addr) (c0 : Nat) (l0 : List Int) (r : Bool) (w : World) (hr0 : Kd.C (Kd.int .u8) w A0 l0.length l0) (hc0 : l0.length ≤ c0) (hr_ : r = true) (hrT : TabW w) (h : laws_FnConcepts.f k l0 = some r) :
    Calls Tryz.prog 3 #[.slice A0 l0.length c0] w fun e w' => e = .returned (.bool r) ∧ Below w.heap.size w w' := by
  have HRT := Aside0.mk hrT
  clear hrT
  have HRR := Aside0.mk hr_
  clear hr_
  have hu26 := Tryz.underlying26
  have hu31 := Tryz.underlying31
  have hq31 := eqA31
  have HR0 := Aside0.mk hr0
  have HC0 := Aside0.mk hc0
  clear hr0 hc0
  have HB := Aside0.mk (Below.refl w.heap.size w)
  have H : ((laws_big.f l0).bind fun t541 => (if t541 = true then (some true) else ((spec_DrawConcepts.f k l0).bind fun bt542 => ((impl_Concepts.f k bt542.1 bt542.2).bind fun t547 => ((spec_DrawIsConcept.f k l0).bind fun bt550 => ((spec_DrawNextClosed.f k l0).bind fun bt558 => ((impl_NextClosed.f k bt558.1 bt558.2.1 bt558.2.2).bind fun bt564 => ((spec_NextClosed.f k bt558.1 bt558.2.1 bt558.2.2).bind fun bt566 => ((spec_DrawConceptAt.f k l0).bind fun bt568 => ((impl_ConceptAt.f k bt568.1 bt568.2.1 bt568.2.2).bind fun bt574 => ((spec_ConceptAt.f k bt568.1 bt568.2.1 bt568.2.2).bind fun bt578 => ((spec_DrawObjectConcept.f k l0).bind fun bt582 => ((impl_ObjectConcept.f k bt582.1 bt582.2.1 bt582.2.2).bind fun bt588 => ((spec_ObjectConcept.f k bt582.1 bt582.2.1 bt582.2.2).bind fun bt592 => ((impl_AttributeConcept.f k bt582.1 bt582.2.1 bt582.2.2).bind fun bt596 => ((spec_AttributeConcept.f k bt582.1 bt582.2.1 bt582.2.2).bind fun bt600 => ((spec_DrawConceptText.f k l0).bind fun bt604 => ((spec_Concepts.f k bt542.1 bt542.2).bind fun t607 => ((laws_sameConcepts.f k t547 t607).bind fun t610 => (if t610 = true then ((impl_IsConcept.f k bt550.1 bt550.2.1 bt550.2.2.1 bt550.2.2.2).bind fun t611 => ((spec_IsConcept.f k bt550.1 bt550.2.1 bt550.2.2.1 bt550.2.2.2).bind fun t612 => (if (t611 != t612) = true then (laws_FnConcepts.j0 k t547 bt558.2.2 bt564.1 bt564.2 true bt542.1 bt542.2 bt558.1 bt558.2.1) else (if bt564.1 = bt566.1 then (if (bt564.2 != bt566.2) = true then (laws_FnConcepts.j0 k t547 bt558.2.2 bt564.1 bt564.2 true bt542.1 bt542.2 bt558.1 bt558.2.1) else (if (!(bt574.1 == bt578.1) || (!(bt574.2.1 == bt578.2.1))) = true then (laws_FnConcepts.j0 k t547 bt558.2.2 bt564.1 bt564.2 true bt542.1 bt542.2 bt558.1 bt558.2.1) else (if (bt574.2.2 != bt578.2.2) = true then (laws_FnConcepts.j0 k t547 bt558.2.2 bt564.1 bt564.2 true bt542.1 bt542.2 bt558.1 bt558.2.1) else (if (!(bt588.1 == bt592.1) || (!(bt588.2.1 == bt592.2.1))) = true then (laws_FnConcepts.j0 k t547 bt558.2.2 bt564.1 bt564.2 true bt542.1 bt542.2 bt558.1 bt558.2.1) else (if (bt588.2.2 != bt592.2.2) = true then (laws_FnConcepts.j0 k t547 bt558.2.2 bt564.1 bt564.2 true bt542.1 bt542.2 bt558.1 bt558.2.1) else (if (!(bt596.1 == bt600.1) || (!(bt596.2.1 == bt600.2.1))) = true then (laws_FnConcepts.j0 k t547 bt558.2.2 bt564.1 bt564.2 true bt542.1 bt542.2 bt558.1 bt558.2.1) else (if (bt596.2.2 != bt600.2.2) = true then (laws_FnConcepts.j0 k t547 bt558.2.2 bt564.1 bt564.2 true bt542.1 bt542.2 bt558.1 bt558.2.1) else ((impl_ConceptText.f k bt604.1 bt604.2).bind fun t613 => ((spec_ConceptText.f k bt604.1 bt604.2).bind fun t614 => (laws_FnConcepts.j0 k t547 bt558.2.2 bt564.1 bt564.2 (t613.toList != t614.toList) bt542.1 bt542.2 bt558.1 bt558.2.1)))))))))) else (laws_FnConcepts.j0 k t547 bt558.2.2 bt564.1 bt564.2 true bt542.1 bt542.2 bt558.1 bt558.2.1))))) else (laws_FnConcepts.j0 k t547 bt558.2.2 bt564.1 bt564.2 true bt542.1 bt542.2 bt558.1 bt558.2.1))))))))))))))))))))) = some r := h
  clear h
  replace H := aB H
  obtain ⟨t541, A2, H⟩ := H
  by_cases c3 : t541 = true
  · subst c3
    replace H := ifT H
    obtain rfl := Option.some.inj H
    go_enter Tryz.func3, Tryz.ntmps3
    go_wp2_with (first | ((with_reducible refine gate_callee (f := 4) rfl ?_); refine goesL_ (some 34) rfl rfl Tryz.func4 (by kernel_rfl) rfl #[.slice A0 l0.length c0] rfl gL_ ?_; (with_reducible refine (laws_big.calls _ _ l0 true _ ?side1 ?side2 A2.out).mono ?_); (case side1 => exact cW HR0.out); (case side2 => exact HC0.out); rintro e w' ⟨rfl, ⟨nd, rfl⟩⟩; refine ⟨_, rfl, ?_⟩))
    go_ret
    exact ⟨eR_, hB_⟩
  · replace c3 := Bool.eq_false_iff.mpr c3
    subst c3
    replace H := ifF H
    replace H := aB H
    obtain ⟨⟨t542, t543⟩, A4, H⟩ := H
    dsimp only at H
    replace H := aB H
    obtain ⟨t547, A5, H⟩ := H
    replace H := aB H
    obtain ⟨⟨t550, t551, t554, t555⟩, A6, H⟩ := H
    dsimp only at H
    replace H := aB H
    obtain ⟨⟨t558, t559, t562⟩, A7, H⟩ := H
    dsimp only at H
    replace H := aB H
    obtain ⟨⟨t564, t565⟩, A8, H⟩ := H
    dsimp only at H
    replace H := aB H
    obtain ⟨⟨t566, t567⟩, A9, H⟩ := H
    dsimp only at H
    replace H := aB H
    obtain ⟨⟨t568, t569, t572⟩, A10, H⟩ := H
    dsimp only at H
    replace H := aB H
    obtain ⟨⟨t574, t575, t576⟩, A11, H⟩ := H
    dsimp only at H
    replace H := aB H
    obtain ⟨⟨t578, t579, t580⟩, A12, H⟩ := H
    dsimp only at H
    replace H := aB H
    obtain ⟨⟨t582, t583, t586⟩, A13, H⟩ := H
    dsimp only at H
    replace H := aB H
    obtain ⟨⟨t588, t589, t590⟩, A14, H⟩ := H
    dsimp only at H
    replace H := aB H
    obtain ⟨⟨t592, t593, t594⟩, A15, H⟩ := H
    dsimp only at H
    replace H := aB H
    obtain ⟨⟨t596, t597, t598⟩, A16, H⟩ := H
    dsimp only at H
    replace H := aB H
    obtain ⟨⟨t600, t601, t602⟩, A17, H⟩ := H
    dsimp only at H
    replace H := aB H
    obtain ⟨⟨t604, t605⟩, A18, H⟩ := H
    dsimp only at H
    have HC19 := Aside0.mk H
    clear H
    go_enter Tryz.func3, Tryz.ntmps3
    go_upto_region 18 with (first | ((with_reducible refine gate_callee (f := 4) rfl ?_); refine goesL_ (some 34) rfl rfl Tryz.func4 (by kernel_rfl) rfl #[.slice A0 l0.length c0] rfl gL_ ?_; (with_reducible refine (laws_big.calls _ _ l0 false _ ?side1 ?side2 A2.out).mono ?_); (case side1 => exact cW HR0.out); (case side2 => exact HC0.out); rintro e w' ⟨rfl, ⟨nd, rfl⟩⟩; refine ⟨_, rfl, ?_⟩) | ((with_reducible refine gate_callee (f := 5) rfl ?_); refine goesL_ (some 36) rfl rfl Tryz.func5 (by kernel_rfl) rfl #[.slice A0 l0.length c0] rfl gL_ ?_; (with_reducible refine (spec_DrawConcepts.calls k _ _ l0 t542 t543 _ ?side1 ?side2 A4.out).mono ?_); (case side1 => exact cW HR0.out); (case side2 => exact HC0.out); rintro e w20 ⟨v544, rfl, ho0, hb⟩; refine ⟨_, rfl, ?_⟩; have HO545 := Aside0.mk (Kd.R_lower ho0 (below_size hB_)); replace HB := kH HB hb; clear hb ho0) | ((with_reducible refine gate_dst (N := 3) rfl ?_); refine box_event ?hg (N := 3) ?hd (cs := #[.int .i64 0, .slice none 0 0]) (t := 26) ?hr ?_; (case hd => rfl); (case hg => rfl); (case hr => first | (go_simp; done) | (go_simp; rfl)); intro gb546 hg w21 hbox hb; replace HO545 := kR HO545 hb; have BK546 := Aside0.mk (hbox); have GE546 := kG HB hg; replace HB := kH HB hb; clear hb hbox hg; have hcz22_0 : w21.cell? ⟨gb546, 0, none⟩ = some (.int .i64 0) := (blk_cell BK546.out 0).trans rfl; have hcz22_1 : w21.cell? ⟨gb546, 1, none⟩ = some (.slice none 0 0) := (blk_cell BK546.out 1).trans rfl; have hfz22_0 := blk_frozen BK546.out 0; have hfz22_1 := blk_frozen BK546.out 1; obtain ⟨Ao23, co23, eo23⟩ := Kd.R_slice HO545.out; subst eo23) | ((with_reducible refine gate_callee (f := 6) rfl ?_); refine goesL_ (some 38) rfl rfl Tryz.func6 (by kernel_rfl) rfl #[.agg #[.int .i64 t542, .slice Ao23 t543.length co23]] rfl gL_ ?_; (with_reducible refine (impl_Concepts.calls k t542 _ _ t543 t547 _ ?side1 ?side2 ?sideT A5.out).mono ?_); (case sideT => exact hT_); (case side1 => exact rC (kT HO545 BK546)); (case side2 => exact (Kd.R_reads' HO545.out).2.1); rintro e w24 ⟨v548, rfl, ho0, hb⟩; refine ⟨_, rfl, ?_⟩; replace HO545 := kR (kT HO545 BK546) hb; have HO549 := Aside0.mk (Kd.R_lower ho0 (below_size hB_)); replace BK546 := kB (kP BK546) hb; replace HB := kH HB hb; clear hb ho0) | ((with_reducible refine gate_callee (f := 7) rfl ?_); refine goesL_ (some 41) rfl rfl Tryz.func7 (by kernel_rfl) rfl #[.slice A0 l0.length c0] rfl gL_ ?_; (with_reducible refine (spec_DrawIsConcept.calls k _ _ l0 t550 t551 t554 t555 _ ?side1 ?side2 A6.out).mono ?_); (case side1 => exact cW (Kd.C_below HR0.out HB.out)); (case side2 => exact HC0.out); rintro e w25 ⟨v552, rfl, ho0, hb⟩; refine ⟨_, rfl, ?_⟩; replace HO549 := kR HO549 hb; have HO553 := Aside0.mk (Kd.R_lower ho0 (below_size hB_)); replace HO545 := kR HO545 hb; replace BK546 := kB BK546 hb; replace HB := kH HB hb; clear hb ho0) | ((with_reducible refine gate_dst (N := 5) rfl ?_); refine box_event ?hg (N := 5) ?hd (cs := #[.int .i64 0, .slice none 0 0]) (t := 26) ?hr ?_; (case hd => rfl); (case hg => rfl); (case hr => first | (go_simp; done) | (go_simp; rfl)); intro gb556 hg w26 hbox hb; replace HO545 := kR HO545 hb; replace HO549 := kR HO549 hb; replace HO553 := kR HO553 hb; have BK556 := Aside0.mk (hbox); have GE556 := kG HB hg; replace HB := kH HB hb; have NB546_556 := kN BK546 hg; replace BK546 := kB BK546 hb; clear hb hbox hg) | ((with_reducible refine gate_dst (N := 6) rfl ?_); refine box_event ?hg (N := 6) ?hd (cs := #[.int .i64 0, .int .i64 0]) (t := 31) ?hr ?_; (case hd => rfl); (case hg => rfl); (case hr => first | (go_simp; done) | (go_simp; rfl)); intro gb557 hg w27 hbox hb; replace HO545 := kR HO545 hb; replace HO549 := Aside0.mk (Kd.R_below (Kd.R_elderB (rW HO549.out) gb557 (Nat.le_of_eq hg.symm)) hb); replace HO553 := kR HO553 hb; have BK557 := Aside0.mk (hbox); have GE557 := kG HB hg; replace HB := kH HB hb; have NB546_557 := kN BK546 hg; replace BK546 := kB BK546 hb; have NB556_557 := kN BK556 hg; have NB557_556 := kM BK556 hg; replace BK556 := kB BK556 hb; clear hb hbox hg; have hnb29 := NB556_557.out; have hnc29 := NB557_556.out; have hcz30_0 : w27.cell? ⟨gb556, 0, none⟩ = some (.int .i64 0) := (blk_cell BK556.out 0).trans rfl; have hcz30_1 : w27.cell? ⟨gb556, 1, none⟩ = some (.slice none 0 0) := (blk_cell BK556.out 1).trans rfl; have hfz30_0 := blk_frozen BK556.out 0; have hfz30_1 := blk_frozen BK556.out 1; obtain ⟨Ao31, co31, eo31⟩ := Kd.R_slice HO553.out; subst eo31; have hcz33_0 : w27.cell? ⟨gb557, 0, none⟩ = some (.int .i64 0) := (blk_cell BK557.out 0).trans rfl; have hcz33_1 : w27.cell? ⟨gb557, 1, none⟩ = some (.int .i64 0) := (blk_cell BK557.out 1).trans rfl; have hfz33_0 := blk_frozen BK557.out 0; have hfz33_1 := blk_frozen BK557.out 1) | ((with_reducible refine gate_callee (f := 8) rfl ?_); refine goesL_ (some 46) rfl rfl Tryz.func8 (by kernel_rfl) rfl #[.slice A0 l0.length c0] rfl gL_ ?_; (with_reducible refine (spec_DrawNextClosed.calls k _ _ l0 t558 t559 t562 _ ?side1 ?side2 A7.out).mono ?_); (case side1 => exact Kd.C_below HR0.out hB_); (case side2 => exact HC0.out); rintro e w34 ⟨v560, rfl, ho0, hb⟩; refine ⟨_, rfl, ?_⟩; replace HO549 := Aside0.mk (Kd.R_below (rW (Kd.R_mono (Kd.R_mono (Kd.R_far (p := ⟨gb557, 1, none⟩) (Kd.R_far (p := ⟨gb557, 0, none⟩) (Kd.R_far (p := ⟨gb556, 1, none⟩) (Kd.R_far (p := ⟨gb556, 0, none⟩) (Kd.R_mono (Kd.R_types HO549.out BK556.out (by decide)) (fun k_ hk => (⟨hk, hk.1.2⟩ : _ ∧ k_ ≠ gb557))) (fun _ hk => hk.1.2) (.int .i64 t550)) (fun _ hk => hk.1.2) (.slice Ao31 t551.length co31)) (fun _ hk => hk.2) (.int .i64 t554)) (fun _ hk => hk.2) (.int .i64 t555)) (fun _ h_ => h_.1)) (fun _ h_ => h_.1))) hb); have HO561 := Aside0.mk (Kd.R_lower ho0 (below_size hB_)); replace HO545 := kR (kS HO545 BK556 BK557) hb; replace HO553 := kR (kS HO553 BK556 BK557) hb; replace BK546 := kB (kF NB546_557 (kF NB546_556 BK546)) hb; replace BK556 := kB (kF NB556_557 (kP BK556)) hb; replace BK557 := kB (kP (kF NB557_556 BK557)) hb; replace HB := kH HB hb; (try clear hb); (try clear hb2); (try clear hk); (try clear hi); (try clear ho0)) | ((with_reducible refine gate_dst (N := 7) rfl ?_); refine box_event ?hg (N := 7) ?hd (cs := #[.int .i64 0, .slice none 0 0]) (t := 26) ?hr ?_; (case hd => rfl); (case hg => rfl); (case hr => first | (go_simp; done) | (go_simp; rfl)); intro gb563 hg w35 hbox hb; replace HO545 := kR HO545 hb; replace HO549 := kR HO549 hb; replace HO553 := kR HO553 hb; replace HO561 := kR HO561 hb; have BK563 := Aside0.mk (hbox); have GE563 := kG HB hg; replace HB := kH HB hb; have NB546_563 := kN BK546 hg; replace BK546 := kB BK546 hb; have NB556_563 := kN BK556 hg; replace BK556 := kB BK556 hb; have NB557_563 := kN BK557 hg; replace BK557 := kB BK557 hb; clear hb hbox hg; have hcz39_0 : w35.cell? ⟨gb563, 0, none⟩ = some (.int .i64 0) := (blk_cell BK563.out 0).trans rfl; have hcz39_1 : w35.cell? ⟨gb563, 1, none⟩ = some (.slice none 0 0) := (blk_cell BK563.out 1).trans rfl; have hfz39_0 := blk_frozen BK563.out 0; have hfz39_1 := blk_frozen BK563.out 1; obtain ⟨Ao40, co40, eo40⟩ := Kd.R_slice HO561.out; subst eo40) | ((with_reducible refine gate_callee (f := 9) rfl ?_); refine goesL_ (some 52) rfl rfl Tryz.func9 (by kernel_rfl) rfl #[.agg #[.int .i64 t558, .slice Ao40 t559.length co40], .int .i64 t562] rfl gL_ ?_; (with_reducible refine (impl_NextClosed.calls k t558 _ _ t559 t562 t564 t565 _ ?side1 ?side2 ?sideT A8.out).mono ?_); (case sideT => exact hT_); (case side1 => exact rC (kT HO561 BK563)); (case side2 => exact (Kd.R_reads' HO561.out).2.1); rintro e w41 ⟨rfl, hb⟩; refine ⟨_, rfl, ?_⟩; replace HO545 := kR (kT HO545 BK563) hb; replace HO549 := kR (kT HO549 BK563) hb; replace HO553 := kR (kT HO553 BK563) hb; replace HO561 := kR (kT HO561 BK563) hb; replace BK546 := kB (kF NB546_563 BK546) hb; replace BK556 := kB (kF NB556_563 BK556) hb; replace BK557 := kB (kF NB557_563 BK557) hb; replace BK563 := kB (kP BK563) hb; replace HB := kH HB hb; clear hb; have hcz42_0 : w41.cell? ⟨gb563, 0, none⟩ = some (.int .i64 t558) := (blk_cell BK563.out 0).trans rfl; have hcz42_1 : w41.cell? ⟨gb563, 1, none⟩ = some (.slice Ao40 t559.length co40) := (blk_cell BK563.out 1).trans rfl; have hfz42_0 := blk_frozen BK563.out 0; have hfz42_1 := blk_frozen BK563.out 1) | ((with_reducible refine gate_callee (f := 10) rfl ?_); refine goesL_ (some 58) rfl rfl Tryz.func10 (by kernel_rfl) rfl #[.agg #[.int .i64 t558, .slice Ao40 t559.length co40], .int .i64 t562] rfl gL_ ?_; (with_reducible refine (spec_NextClosed.calls k t558 _ _ t559 t562 t566 t567 _ ?side1 ?side2 A9.out).mono ?_); (case side1 => exact rC HO561); (case side2 => exact (Kd.R_reads' HO561.out).2.1); rintro e w43 ⟨rfl, hb⟩; refine ⟨_, rfl, ?_⟩; replace HO545 := kR HO545 hb; replace HO549 := kR HO549 hb; replace HO553 := kR HO553 hb; replace HO561 := kR HO561 hb; replace BK546 := kB BK546 hb; replace BK556 := kB BK556 hb; replace BK557 := kB BK557 hb; replace BK563 := kB BK563 hb; replace HB := kH HB hb; clear hb) | ((with_reducible refine gate_callee (f := 11) rfl ?_); refine goesL_ (some 63) rfl rfl Tryz.func11 (by kernel_rfl) rfl #[.slice A0 l0.length c0] rfl gL_ ?_; (with_reducible refine (spec_DrawConceptAt.calls k _ _ l0 t568 t569 t572 _ ?side1 ?side2 A10.out).mono ?_); (case side1 => exact cW (Kd.C_below HR0.out HB.out)); (case side2 => exact HC0.out); rintro e w44 ⟨v570, rfl, ho0, hb⟩; refine ⟨_, rfl, ?_⟩; replace HO549 := kR HO549 hb; have HO571 := Aside0.mk (Kd.R_lower ho0 (below_size hB_)); replace HO545 := kR HO545 hb; replace HO553 := kR HO553 hb; replace HO561 := kR HO561 hb; replace BK546 := kB BK546 hb; replace BK556 := kB BK556 hb; replace BK557 := kB BK557 hb; replace BK563 := kB BK563 hb; replace HB := kH HB hb; clear hb ho0) | ((with_reducible refine gate_dst (N := 13) rfl ?_); refine box_event ?hg (N := 13) ?hd (cs := #[.int .i64 0, .slice none 0 0]) (t := 26) ?hr ?_; (case hd => rfl); (case hg => rfl); (case hr => first | (go_simp; done) | (go_simp; rfl)); intro gb573 hg w45 hbox hb; replace HO545 := kR HO545 hb; replace HO549 := kR HO549 hb; replace HO553 := kR HO553 hb; replace HO561 := kR HO561 hb; replace HO571 := kR HO571 hb; have BK573 := Aside0.mk (hbox); have GE573 := kG HB hg; replace HB := kH HB hb; have NB546_573 := kN BK546 hg; replace BK546 := kB BK546 hb; have NB556_573 := kN BK556 hg; replace BK556 := kB BK556 hb; have NB557_573 := kN BK557 hg; replace BK557 := kB BK557 hb; have NB563_573 := kN BK563 hg; replace BK563 := kB BK563 hb; clear hb hbox hg; have hcz50_0 : w45.cell? ⟨gb573, 0, none⟩ = some (.int .i64 0) := (blk_cell BK573.out 0).trans rfl; have hcz50_1 : w45.cell? ⟨gb573, 1, none⟩ = some (.slice none 0 0) := (blk_cell BK573.out 1).trans rfl; have hfz50_0 := blk_frozen BK573.out 0; have hfz50_1 := blk_frozen BK573.out 1; obtain ⟨Ao51, co51, eo51⟩ := Kd.R_slice HO571.out; subst eo51) | ((with_reducible refine gate_callee (f := 12) rfl ?_); refine goesL_ (some 69) rfl rfl Tryz.func12 (by kernel_rfl) rfl #[.agg #[.int .i64 t568, .slice Ao51 t569.length co51], .int .i64 t572] rfl gL_ ?_; (with_reducible refine (impl_ConceptAt.calls k t568 _ _ t569 t572 t574 t575 t576 _ ?side1 ?side2 A11.out).mono ?_); (case side1 => exact rC (kT HO571 BK573)); (case side2 => exact (Kd.R_reads' HO571.out).2.1); rintro e w52 ⟨rfl, hb⟩; refine ⟨_, rfl, ?_⟩; replace HO545 := kR (kT HO545 BK573) hb; replace HO549 := kR (kT HO549 BK573) hb; replace HO553 := kR (kT HO553 BK573) hb; replace HO561 := kR (kT HO561 BK573) hb; replace HO571 := kR (kT HO571 BK573) hb; replace BK546 := kB (kF NB546_573 BK546) hb; replace BK556 := kB (kF NB556_573 BK556) hb; replace BK557 := kB (kF NB557_573 BK557) hb; replace BK563 := kB (kF NB563_573 BK563) hb; replace BK573 := kB (kP BK573) hb; replace HB := kH HB hb; clear hb) | ((with_reducible refine gate_dst (N := 15) rfl ?_); refine box_event ?hg (N := 15) ?hd (cs := #[.int .i64 0, .int .i64 0]) (t := 31) ?hr ?_; (case hd => rfl); (case hg => rfl); (case hr => first | (go_simp; done) | (go_simp; rfl)); intro gb577 hg w53 hbox hb; replace HO545 := kR HO545 hb; replace HO549 := Aside0.mk (Kd.R_below (Kd.R_elderB (rW HO549.out) gb577 (Nat.le_of_eq hg.symm)) hb); replace HO553 := kR HO553 hb; replace HO561 := kR HO561 hb; replace HO571 := kR HO571 hb; have BK577 := Aside0.mk (hbox); have GE577 := kG HB hg; replace HB := kH HB hb; have NB546_577 := kN BK546 hg; replace BK546 := kB BK546 hb; have NB556_577 := kN BK556 hg; replace BK556 := kB BK556 hb; have NB557_577 := kN BK557 hg; replace BK557 := kB BK557 hb; have NB563_577 := kN BK563 hg; replace BK563 := kB BK563 hb; have NB573_577 := kN BK573 hg; have NB577_573 := kM BK573 hg; replace BK573 := kB BK573 hb; clear hb hbox hg; have hnb58 := NB577_573.out; have hnc58 := NB573_577.out; have hcz59_0 : w53.cell? ⟨gb577, 0, none⟩ = some (.int .i64 0) := (blk_cell BK577.out 0).trans rfl; have hcz59_1 : w53.cell? ⟨gb577, 1, none⟩ = some (.int .i64 0) := (blk_cell BK577.out 1).trans rfl; have hfz59_0 := blk_frozen BK577.out 0; have hfz59_1 := blk_frozen BK577.out 1; have hcz60_0 : w53.cell? ⟨gb573, 0, none⟩ = some (.int .i64 t568) := (blk_cell BK573.out 0).trans rfl; have hcz60_1 : w53.cell? ⟨gb573, 1, none⟩ = some (.slice Ao51 t569.length co51) := (blk_cell BK573.out 1).trans rfl; have hfz60_0 := blk_frozen BK573.out 0; have hfz60_1 := blk_frozen BK573.out 1) | ((with_reducible refine gate_callee (f := 13) rfl ?_); refine goesL_ (some 75) rfl rfl Tryz.func13 (by kernel_rfl) rfl #[.agg #[.int .i64 t568, .slice Ao51 t569.length co51], .int .i64 t572] rfl gL_ ?_; (with_reducible refine (spec_ConceptAt.calls k t568 _ _ t569 t572 t578 t579 t580 _ ?side1 ?side2 A12.out).mono ?_); (case side1 => exact rC (kT HO571 BK577)); (case side2 => exact (Kd.R_reads' HO571.out).2.1); rintro e w61 ⟨rfl, hb⟩; refine ⟨_, rfl, ?_⟩; replace HO545 := kR (kT HO545 BK577) hb; replace HO549 := Aside0.mk (Kd.R_below (rW (Kd.R_mono (Kd.R_far (p := ⟨gb577, 1, none⟩) (Kd.R_far (p := ⟨gb577, 0, none⟩) (Kd.R_mono HO549.out (fun k_ hk => (⟨hk, hk.2⟩ : _ ∧ k_ ≠ gb577))) (fun _ hk => hk.2) (.int .i64 t574)) (fun _ hk => hk.2) (.int .i64 t575)) (fun _ h_ => h_.1))) hb); replace HO553 := kR (kT HO553 BK577) hb; replace HO561 := kR (kT HO561 BK577) hb; replace HO571 := kR (kT HO571 BK577) hb; replace BK546 := kB (kF NB546_577 BK546) hb; replace BK556 := kB (kF NB556_577 BK556) hb; replace BK557 := kB (kF NB557_577 BK557) hb; replace BK563 := kB (kF NB563_577 BK563) hb; replace BK573 := kB (kF NB573_577 BK573) hb; replace BK577 := kB (kP BK577) hb; replace HB := kH HB hb; (try clear hb); (try clear hb2); (try clear hk); (try clear hi)) | ((with_reducible refine gate_dst (N := 17) rfl ?_); refine box_event ?hg (N := 17) ?hd (cs := #[.int .i64 0, .int .i64 0]) (t := 31) ?hr ?_; (case hd => rfl); (case hg => rfl); (case hr => first | (go_simp; done) | (go_simp; rfl)); intro gb581 hg w62 hbox hb; replace HO545 := kR HO545 hb; replace HO549 := Aside0.mk (Kd.R_below (Kd.R_elderB (rW HO549.out) gb581 (Nat.le_of_eq hg.symm)) hb); replace HO553 := kR HO553 hb; replace HO561 := kR HO561 hb; replace HO571 := kR HO571 hb; have BK581 := Aside0.mk (hbox); have GE581 := kG HB hg; replace HB := kH HB hb; have NB546_581 := kN BK546 hg; replace BK546 := kB BK546 hb; have NB556_581 := kN BK556 hg; replace BK556 := kB BK556 hb; have NB557_581 := kN BK557 hg; replace BK557 := kB BK557 hb; have NB563_581 := kN BK563 hg; replace BK563 := kB BK563 hb; have NB573_581 := kN BK573 hg; replace BK573 := kB BK573 hb; have NB577_581 := kN BK577 hg; replace BK577 := kB BK577 hb; clear hb hbox hg; have hcz69_0 : w62.cell? ⟨gb581, 0, none⟩ = some (.int .i64 0) := (blk_cell BK581.out 0).trans rfl; have hcz69_1 : w62.cell? ⟨gb581, 1, none⟩ = some (.int .i64 0) := (blk_cell BK581.out 1).trans rfl; have hfz69_0 := blk_frozen BK581.out 0; have hfz69_1 := blk_frozen BK581.out 1) | ((with_reducible refine gate_callee (f := 14) rfl ?_); refine goesL_ (some 80) rfl rfl Tryz.func14 (by kernel_rfl) rfl #[.slice A0 l0.length c0] rfl gL_ ?_; (with_reducible refine (spec_DrawObjectConcept.calls k _ _ l0 t582 t583 t586 _ ?side1 ?side2 A13.out).mono ?_); (case side1 => exact Kd.C_below HR0.out hB_); (case side2 => exact HC0.out); rintro e w70 ⟨v584, rfl, ho0, hb⟩; refine ⟨_, rfl, ?_⟩; replace HO549 := Aside0.mk (Kd.R_below (rW (Kd.R_mono (Kd.R_far (p := ⟨gb581, 1, none⟩) (Kd.R_far (p := ⟨gb581, 0, none⟩) (Kd.R_mono HO549.out (fun k_ hk => (⟨hk, hk.2⟩ : _ ∧ k_ ≠ gb581))) (fun _ hk => hk.2) (.int .i64 t578)) (fun _ hk => hk.2) (.int .i64 t579)) (fun _ h_ => h_.1))) hb); have HO585 := Aside0.mk (Kd.R_lower ho0 (below_size hB_)); replace HO545 := kR (kT HO545 BK581) hb; replace HO553 := kR (kT HO553 BK581) hb; replace HO561 := kR (kT HO561 BK581) hb; replace HO571 := kR (kT HO571 BK581) hb; replace BK546 := kB (kF NB546_581 BK546) hb; replace BK556 := kB (kF NB556_581 BK556) hb; replace BK557 := kB (kF NB557_581 BK557) hb; replace BK563 := kB (kF NB563_581 BK563) hb; replace BK573 := kB (kF NB573_581 BK573) hb; replace BK577 := kB (kF NB577_581 BK577) hb; replace BK581 := kB (kP BK581) hb; replace HB := kH HB hb; (try clear hb); (try clear hb2); (try clear hk); (try clear hi); (try clear ho0)) | ((with_reducible refine gate_dst (N := 19) rfl ?_); refine box_event ?hg (N := 19) ?hd (cs := #[.int .i64 0, .slice none 0 0]) (t := 26) ?hr ?_; (case hd => rfl); (case hg => rfl); (case hr => first | (go_simp; done) | (go_simp; rfl)); intro gb587 hg w71 hbox hb; replace HO545 := kR HO545 hb; replace HO549 := kR HO549 hb; replace HO553 := kR HO553 hb; replace HO561 := kR HO561 hb; replace HO571 := kR HO571 hb; replace HO585 := kR HO585 hb; have BK587 := Aside0.mk (hbox); have GE587 := kG HB hg; replace HB := kH HB hb; have NB546_587 := kN BK546 hg; replace BK546 := kB BK546 hb; have NB556_587 := kN BK556 hg; replace BK556 := kB BK556 hb; have NB557_587 := kN BK557 hg; replace BK557 := kB BK557 hb; have NB563_587 := kN BK563 hg; replace BK563 := kB BK563 hb; have NB573_587 := kN BK573 hg; replace BK573 := kB BK573 hb; have NB577_587 := kN BK577 hg; replace BK577 := kB BK577 hb; have NB581_587 := kN BK581 hg; replace BK581 := kB BK581 hb; clear hb hbox hg; have hcz79_0 : w71.cell? ⟨gb587, 0, none⟩ = some (.int .i64 0) := (blk_cell BK587.out 0).trans rfl; have hcz79_1 : w71.cell? ⟨gb587, 1, none⟩ = some (.slice none 0 0) := (blk_cell BK587.out 1).trans rfl; have hfz79_0 := blk_frozen BK587.out 0; have hfz79_1 := blk_frozen BK587.out 1; obtain ⟨Ao80, co80, eo80⟩ := Kd.R_slice HO585.out; subst eo80) | ((with_reducible refine gate_callee (f := 15) rfl ?_); refine goesL_ (some 86) rfl rfl Tryz.func15 (by kernel_rfl) rfl #[.agg #[.int .i64 t582, .slice Ao80 t583.length co80], .int .i64 t586] rfl gL_ ?_; (with_reducible refine (impl_ObjectConcept.calls k t582 _ _ t583 t586 t588 t589 t590 _ ?side1 ?side2 A14.out).mono ?_); (case side1 => exact rC (kT HO585 BK587)); (case side2 => exact (Kd.R_reads' HO585.out).2.1); rintro e w81 ⟨rfl, hb⟩; refine ⟨_, rfl, ?_⟩; replace HO545 := kR (kT HO545 BK587) hb; replace HO549 := kR (kT HO549 BK587) hb; replace HO553 := kR (kT HO553 BK587) hb; replace HO561 := kR (kT HO561 BK587) hb; replace HO571 := kR (kT HO571 BK587) hb; replace HO585 := kR (kT HO585 BK587) hb; replace BK546 := kB (kF NB546_587 BK546) hb; replace BK556 := kB (kF NB556_587 BK556) hb; replace BK557 := kB (kF NB557_587 BK557) hb; replace BK563 := kB (kF NB563_587 BK563) hb; replace BK573 := kB (kF NB573_587 BK573) hb; replace BK577 := kB (kF NB577_587 BK577) hb; replace BK581 := kB (kF NB581_587 BK581) hb; replace BK587 := kB (kP BK587) hb; replace HB := kH HB hb; clear hb) | ((with_reducible refine gate_dst (N := 21) rfl ?_); refine box_event ?hg (N := 21) ?hd (cs := #[.int .i64 0, .int .i64 0]) (t := 31) ?hr ?_; (case hd => rfl); (case hg => rfl); (case hr => first | (go_simp; done) | (go_simp; rfl)); intro gb591 hg w82 hbox hb; replace HO545 := kR HO545 hb; replace HO549 := Aside0.mk (Kd.R_below (Kd.R_elderB (rW HO549.out) gb591 (Nat.le_of_eq hg.symm)) hb); replace HO553 := kR HO553 hb; replace HO561 := kR HO561 hb; replace HO571 := kR HO571 hb; replace HO585 := kR HO585 hb; have BK591 := Aside0.mk (hbox); have GE591 := kG HB hg; replace HB := kH HB hb; have NB546_591 := kN BK546 hg; replace BK546 := kB BK546 hb; have NB556_591 := kN BK556 hg; replace BK556 := kB BK556 hb; have NB557_591 := kN BK557 hg; replace BK557 := kB BK557 hb; have NB563_591 := kN BK563 hg; replace BK563 := kB BK563 hb; have NB573_591 := kN BK573 hg; replace BK573 := kB BK573 hb; have NB577_591 := kN BK577 hg; replace BK577 := kB BK577 hb; have NB581_591 := kN BK581 hg; replace BK581 := kB BK581 hb; have NB587_591 := kN BK587 hg; have NB591_587 := kM BK587 hg; replace BK587 := kB BK587 hb; clear hb hbox hg; have hnb90 := NB591_587.out; have hnc90 := NB587_591.out; have hcz91_0 : w82.cell? ⟨gb591, 0, none⟩ = some (.int .i64 0) := (blk_cell BK591.out 0).trans rfl; have hcz91_1 : w82.cell? ⟨gb591, 1, none⟩ = some (.int .i64 0) := (blk_cell BK591.out 1).trans rfl; have hfz91_0 := blk_frozen BK591.out 0; have hfz91_1 := blk_frozen BK591.out 1; have hcz92_0 : w82.cell? ⟨gb587, 0, none⟩ = some (.int .i64 t582) := (blk_cell BK587.out 0).trans rfl; have hcz92_1 : w82.cell? ⟨gb587, 1, none⟩ = some (.slice Ao80 t583.length co80) := (blk_cell BK587.out 1).trans rfl; have hfz92_0 := blk_frozen BK587.out 0; have hfz92_1 := blk_frozen BK587.out 1) | ((with_reducible refine gate_callee (f := 16) rfl ?_); refine goesL_ (some 92) rfl rfl Tryz.func16 (by kernel_rfl) rfl #[.agg #[.int .i64 t582, .slice Ao80 t583.length co80], .int .i64 t586] rfl gL_ ?_; (with_reducible refine (spec_ObjectConcept.calls k t582 _ _ t583 t586 t592 t593 t594 _ ?side1 ?side2 A15.out).mono ?_); (case side1 => exact rC (kT HO585 BK591)); (case side2 => exact (Kd.R_reads' HO585.out).2.1); rintro e w93 ⟨rfl, hb⟩; refine ⟨_, rfl, ?_⟩; replace HO545 := kR (kT HO545 BK591) hb; replace HO549 := Aside0.mk (Kd.R_below (rW (Kd.R_mono (Kd.R_far (p := ⟨gb591, 1, none⟩) (Kd.R_far (p := ⟨gb591, 0, none⟩) (Kd.R_mono HO549.out (fun k_ hk => (⟨hk, hk.2⟩ : _ ∧ k_ ≠ gb591))) (fun _ hk => hk.2) (.int .i64 t588)) (fun _ hk => hk.2) (.int .i64 t589)) (fun _ h_ => h_.1))) hb); replace HO553 := kR (kT HO553 BK591) hb; replace HO561 := kR (kT HO561 BK591) hb; replace HO571 := kR (kT HO571 BK591) hb; replace HO585 := kR (kT HO585 BK591) hb; replace BK546 := kB (kF NB546_591 BK546) hb; replace BK556 := kB (kF NB556_591 BK556) hb; replace BK557 := kB (kF NB557_591 BK557) hb; replace BK563 := kB (kF NB563_591 BK563) hb; replace BK573 := kB (kF NB573_591 BK573) hb; replace BK577 := kB (kF NB577_591 BK577) hb; replace BK581 := kB (kF NB581_591 BK581) hb; replace BK587 := kB (kF NB587_591 BK587) hb; replace BK591 := kB (kP BK591) hb; replace HB := kH HB hb; (try clear hb); (try clear hb2); (try clear hk); (try clear hi)) | ((with_reducible refine gate_dst (N := 23) rfl ?_); refine box_event ?hg (N := 23) ?hd (cs := #[.int .i64 0, .int .i64 0]) (t := 31) ?hr ?_; (case hd => rfl); (case hg => rfl); (case hr => first | (go_simp; done) | (go_simp; rfl)); intro gb595 hg w94 hbox hb; replace HO545 := kR HO545 hb; replace HO549 := Aside0.mk (Kd.R_below (Kd.R_elderB (rW HO549.out) gb595 (Nat.le_of_eq hg.symm)) hb); replace HO553 := kR HO553 hb; replace HO561 := kR HO561 hb; replace HO571 := kR HO571 hb; replace HO585 := kR HO585 hb; have BK595 := Aside0.mk (hbox); have GE595 := kG HB hg; replace HB := kH HB hb; have NB546_595 := kN BK546 hg; replace BK546 := kB BK546 hb; have NB556_595 := kN BK556 hg; replace BK556 := kB BK556 hb; have NB557_595 := kN BK557 hg; replace BK557 := kB BK557 hb; have NB563_595 := kN BK563 hg; replace BK563 := kB BK563 hb; have NB573_595 := kN BK573 hg; replace BK573 := kB BK573 hb; have NB577_595 := kN BK577 hg; replace BK577 := kB BK577 hb; have NB581_595 := kN BK581 hg; replace BK581 := kB BK581 hb; have NB587_595 := kN BK587 hg; have NB595_587 := kM BK587 hg; replace BK587 := kB BK587 hb; have NB591_595 := kN BK591 hg; replace BK591 := kB BK591 hb; clear hb hbox hg; have hnb102 := NB595_587.out; have hnc102 := NB587_595.out; have hcz104_0 : w94.cell? ⟨gb595, 0, none⟩ = some (.int .i64 0) := (blk_cell BK595.out 0).trans rfl; have hcz104_1 : w94.cell? ⟨gb595, 1, none⟩ = some (.int .i64 0) := (blk_cell BK595.out 1).trans rfl; have hfz104_0 := blk_frozen BK595.out 0; have hfz104_1 := blk_frozen BK595.out 1; have hcz105_0 : w94.cell? ⟨gb587, 0, none⟩ = some (.int .i64 t582) := (blk_cell BK587.out 0).trans rfl; have hcz105_1 : w94.cell? ⟨gb587, 1, none⟩ = some (.slice Ao80 t583.length co80) := (blk_cell BK587.out 1).trans rfl; have hfz105_0 := blk_frozen BK587.out 0; have hfz105_1 := blk_frozen BK587.out 1) | ((with_reducible refine gate_callee (f := 17) rfl ?_); refine goesL_ (some 98) rfl rfl Tryz.func17 (by kernel_rfl) rfl #[.agg #[.int .i64 t582, .slice Ao80 t583.length co80], .int .i64 t586] rfl gL_ ?_; (with_reducible refine (impl_AttributeConcept.calls k t582 _ _ t583 t586 t596 t597 t598 _ ?side1 ?side2 A16.out).mono ?_); (case side1 => exact rC (kT HO585 BK595)); (case side2 => exact (Kd.R_reads' HO585.out).2.1); rintro e w106 ⟨rfl, hb⟩; refine ⟨_, rfl, ?_⟩; replace HO545 := kR (kT HO545 BK595) hb; replace HO549 := Aside0.mk (Kd.R_below (rW (Kd.R_mono (Kd.R_far (p := ⟨gb595, 1, none⟩) (Kd.R_far (p := ⟨gb595, 0, none⟩) (Kd.R_mono HO549.out (fun k_ hk => (⟨hk, hk.2⟩ : _ ∧ k_ ≠ gb595))) (fun _ hk => hk.2) (.int .i64 t592)) (fun _ hk => hk.2) (.int .i64 t593)) (fun _ h_ => h_.1))) hb); replace HO553 := kR (kT HO553 BK595) hb; replace HO561 := kR (kT HO561 BK595) hb; replace HO571 := kR (kT HO571 BK595) hb; replace HO585 := kR (kT HO585 BK595) hb; replace BK546 := kB (kF NB546_595 BK546) hb; replace BK556 := kB (kF NB556_595 BK556) hb; replace BK557 := kB (kF NB557_595 BK557) hb; replace BK563 := kB (kF NB563_595 BK563) hb; replace BK573 := kB (kF NB573_595 BK573) hb; replace BK577 := kB (kF NB577_595 BK577) hb; replace BK581 := kB (kF NB581_595 BK581) hb; replace BK587 := kB (kF NB587_595 BK587) hb; replace BK591 := kB (kF NB591_595 BK591) hb; replace BK595 := kB (kP BK595) hb; replace HB := kH HB hb; (try clear hb); (try clear hb2); (try clear hk); (try clear hi)) | ((with_reducible refine gate_dst (N := 25) rfl ?_); refine box_event ?hg (N := 25) ?hd (cs := #[.int .i64 0, .int .i64 0]) (t := 31) ?hr ?_; (case hd => rfl); (case hg => rfl); (case hr => first | (go_simp; done) | (go_simp; rfl)); intro gb599 hg w107 hbox hb; replace HO545 := kR HO545 hb; replace HO549 := Aside0.mk (Kd.R_below (Kd.R_elderB (rW HO549.out) gb599 (Nat.le_of_eq hg.symm)) hb); replace HO553 := kR HO553 hb; replace HO561 := kR HO561 hb; replace HO571 := kR HO571 hb; replace HO585 := kR HO585 hb; have BK599 := Aside0.mk (hbox); have GE599 := kG HB hg; replace HB := kH HB hb; have NB546_599 := kN BK546 hg; replace BK546 := kB BK546 hb; have NB556_599 := kN BK556 hg; replace BK556 := kB BK556 hb; have NB557_599 := kN BK557 hg; replace BK557 := kB BK557 hb; have NB563_599 := kN BK563 hg; replace BK563 := kB BK563 hb; have NB573_599 := kN BK573 hg; replace BK573 := kB BK573 hb; have NB577_599 := kN BK577 hg; replace BK577 := kB BK577 hb; have NB581_599 := kN BK581 hg; replace BK581 := kB BK581 hb; have NB587_599 := kN BK587 hg; have NB599_587 := kM BK587 hg; replace BK587 := kB BK587 hb; have NB591_599 := kN BK591 hg; replace BK591 := kB BK591 hb; have NB595_599 := kN BK595 hg; replace BK595 := kB BK595 hb; clear hb hbox hg; have hnb115 := NB599_587.out; have hnc115 := NB587_599.out; have hcz118_0 : w107.cell? ⟨gb599, 0, none⟩ = some (.int .i64 0) := (blk_cell BK599.out 0).trans rfl; have hcz118_1 : w107.cell? ⟨gb599, 1, none⟩ = some (.int .i64 0) := (blk_cell BK599.out 1).trans rfl; have hfz118_0 := blk_frozen BK599.out 0; have hfz118_1 := blk_frozen BK599.out 1; have hcz119_0 : w107.cell? ⟨gb587, 0, none⟩ = some (.int .i64 t582) := (blk_cell BK587.out 0).trans rfl; have hcz119_1 : w107.cell? ⟨gb587, 1, none⟩ = some (.slice Ao80 t583.length co80) := (blk_cell BK587.out 1).trans rfl; have hfz119_0 := blk_frozen BK587.out 0; have hfz119_1 := blk_frozen BK587.out 1) | ((with_reducible refine gate_callee (f := 18) rfl ?_); refine goesL_ (some 104) rfl rfl Tryz.func18 (by kernel_rfl) rfl #[.agg #[.int .i64 t582, .slice Ao80 t583.length co80], .int .i64 t586] rfl gL_ ?_; (with_reducible refine (spec_AttributeConcept.calls k t582 _ _ t583 t586 t600 t601 t602 _ ?side1 ?side2 A17.out).mono ?_); (case side1 => exact rC (kT HO585 BK599)); (case side2 => exact (Kd.R_reads' HO585.out).2.1); rintro e w120 ⟨rfl, hb⟩; refine ⟨_, rfl, ?_⟩; replace HO545 := kR (kT HO545 BK599) hb; replace HO549 := Aside0.mk (Kd.R_below (rW (Kd.R_mono (Kd.R_far (p := ⟨gb599, 1, none⟩) (Kd.R_far (p := ⟨gb599, 0, none⟩) (Kd.R_mono HO549.out (fun k_ hk => (⟨hk, hk.2⟩ : _ ∧ k_ ≠ gb599))) (fun _ hk => hk.2) (.int .i64 t596)) (fun _ hk => hk.2) (.int .i64 t597)) (fun _ h_ => h_.1))) hb); replace HO553 := kR (kT HO553 BK599) hb; replace HO561 := kR (kT HO561 BK599) hb; replace HO571 := kR (kT HO571 BK599) hb; replace HO585 := kR (kT HO585 BK599) hb; replace BK546 := kB (kF NB546_599 BK546) hb; replace BK556 := kB (kF NB556_599 BK556) hb; replace BK557 := kB (kF NB557_599 BK557) hb; replace BK563 := kB (kF NB563_599 BK563) hb; replace BK573 := kB (kF NB573_599 BK573) hb; replace BK577 := kB (kF NB577_599 BK577) hb; replace BK581 := kB (kF NB581_599 BK581) hb; replace BK587 := kB (kF NB587_599 BK587) hb; replace BK591 := kB (kF NB591_599 BK591) hb; replace BK595 := kB (kF NB595_599 BK595) hb; replace BK599 := kB (kP BK599) hb; replace HB := kH HB hb; (try clear hb); (try clear hb2); (try clear hk); (try clear hi)) | ((with_reducible refine gate_dst (N := 27) rfl ?_); refine box_event ?hg (N := 27) ?hd (cs := #[.int .i64 0, .int .i64 0]) (t := 31) ?hr ?_; (case hd => rfl); (case hg => rfl); (case hr => first | (go_simp; done) | (go_simp; rfl)); intro gb603 hg w121 hbox hb; replace HO545 := kR HO545 hb; replace HO549 := Aside0.mk (Kd.R_below (Kd.R_elderB (rW HO549.out) gb603 (Nat.le_of_eq hg.symm)) hb); replace HO553 := kR HO553 hb; replace HO561 := kR HO561 hb; replace HO571 := kR HO571 hb; replace HO585 := kR HO585 hb; have BK603 := Aside0.mk (hbox); have GE603 := kG HB hg; replace HB := kH HB hb; have NB546_603 := kN BK546 hg; replace BK546 := kB BK546 hb; have NB556_603 := kN BK556 hg; replace BK556 := kB BK556 hb; have NB557_603 := kN BK557 hg; replace BK557 := kB BK557 hb; have NB563_603 := kN BK563 hg; replace BK563 := kB BK563 hb; have NB573_603 := kN BK573 hg; replace BK573 := kB BK573 hb; have NB577_603 := kN BK577 hg; replace BK577 := kB BK577 hb; have NB581_603 := kN BK581 hg; replace BK581 := kB BK581 hb; have NB587_603 := kN BK587 hg; replace BK587 := kB BK587 hb; have NB591_603 := kN BK591 hg; replace BK591 := kB BK591 hb; have NB595_603 := kN BK595 hg; replace BK595 := kB BK595 hb; have NB599_603 := kN BK599 hg; replace BK599 := kB BK599 hb; clear hb hbox hg; have hcz133_0 : w121.cell? ⟨gb603, 0, none⟩ = some (.int .i64 0) := (blk_cell BK603.out 0).trans rfl; have hcz133_1 : w121.cell? ⟨gb603, 1, none⟩ = some (.int .i64 0) := (blk_cell BK603.out 1).trans rfl; have hfz133_0 := blk_frozen BK603.out 0; have hfz133_1 := blk_frozen BK603.out 1) | ((with_reducible refine gate_callee (f := 19) rfl ?_); refine goesL_ (some 108) rfl rfl Tryz.func19 (by kernel_rfl) rfl #[.slice A0 l0.length c0] rfl gL_ ?_; (with_reducible refine (spec_DrawConceptText.calls k _ _ l0 t604 t605 _ ?side1 ?side2 A18.out).mono ?_); (case side1 => exact Kd.C_below HR0.out hB_); (case side2 => exact HC0.out); rintro e w134 ⟨rfl, hb⟩; refine ⟨_, rfl, ?_⟩; replace HO545 := kR (kT HO545 BK603) hb; replace HO549 := Aside0.mk (Kd.R_below (rW (Kd.R_mono (Kd.R_far (p := ⟨gb603, 1, none⟩) (Kd.R_far (p := ⟨gb603, 0, none⟩) (Kd.R_mono HO549.out (fun k_ hk => (⟨hk, hk.2⟩ : _ ∧ k_ ≠ gb603))) (fun _ hk => hk.2) (.int .i64 t600)) (fun _ hk => hk.2) (.int .i64 t601)) (fun _ h_ => h_.1))) hb); replace HO553 := kR (kT HO553 BK603) hb; replace HO561 := kR (kT HO561 BK603) hb; replace HO571 := kR (kT HO571 BK603) hb; replace HO585 := kR (kT HO585 BK603) hb; replace BK546 := kB (kF NB546_603 BK546) hb; replace BK556 := kB (kF NB556_603 BK556) hb; replace BK557 := kB (kF NB557_603 BK557) hb; replace BK563 := kB (kF NB563_603 BK563) hb; replace BK573 := kB (kF NB573_603 BK573) hb; replace BK577 := kB (kF NB577_603 BK577) hb; replace BK581 := kB (kF NB581_603 BK581) hb; replace BK587 := kB (kF NB587_603 BK587) hb; replace BK591 := kB (kF NB591_603 BK591) hb; replace BK595 := kB (kF NB595_603 BK595) hb; replace BK599 := kB (kF NB599_603 BK599) hb; replace BK603 := kB (kP BK603) hb; replace HB := kH HB hb; (try clear hb); (try clear hb2); (try clear hk); (try clear hi)) | ((with_reducible refine gate_dst (N := 29) rfl ?_); refine box_event ?hg (N := 29) ?hd (cs := #[.int .i64 0, .int .i64 0]) (t := 31) ?hr ?_; (case hd => rfl); (case hg => rfl); (case hr => first | (go_simp; done) | (go_simp; rfl)); intro gb606 hg w135 hbox hb; replace HO545 := kR HO545 hb; replace HO549 := Aside0.mk (Kd.R_below (Kd.R_elderB (rW HO549.out) gb606 (Nat.le_of_eq hg.symm)) hb); replace HO553 := kR HO553 hb; replace HO561 := kR HO561 hb; replace HO571 := kR HO571 hb; replace HO585 := kR HO585 hb; have BK606 := Aside0.mk (hbox); have GE606 := kG HB hg; replace HB := kH HB hb; have NB546_606 := kN BK546 hg; replace BK546 := kB BK546 hb; have NB556_606 := kN BK556 hg; replace BK556 := kB BK556 hb; have NB557_606 := kN BK557 hg; replace BK557 := kB BK557 hb; have NB563_606 := kN BK563 hg; replace BK563 := kB BK563 hb; have NB573_606 := kN BK573 hg; replace BK573 := kB BK573 hb; have NB577_606 := kN BK577 hg; replace BK577 := kB BK577 hb; have NB581_606 := kN BK581 hg; replace BK581 := kB BK581 hb; have NB587_606 := kN BK587 hg; replace BK587 := kB BK587 hb; have NB591_606 := kN BK591 hg; replace BK591 := kB BK591 hb; have NB595_606 := kN BK595 hg; replace BK595 := kB BK595 hb; have NB599_606 := kN BK599 hg; replace BK599 := kB BK599 hb; have NB603_606 := kN BK603 hg; replace BK603 := kB BK603 hb; clear hb hbox hg; have hcz148_0 : w135.cell? ⟨gb606, 0, none⟩ = some (.int .i64 0) := (blk_cell BK606.out 0).trans rfl; have hcz148_1 : w135.cell? ⟨gb606, 1, none⟩ = some (.int .i64 0) := (blk_cell BK606.out 1).trans rfl; have hfz148_0 := blk_frozen BK606.out 0; have hfz148_1 := blk_frozen BK606.out 1))
    (try simp only [Act.put, setIfInBounds_toArray, set_cons_zero, set_cons_succ])
    go_cut [169] (fun v169 wc => ∃ (kq : Nat) (x169_18 : Bool), v169 = .bool x169_18 ∧ Aside0 (laws_FnConcepts.j0 kq t547 t562 t564 t565 x169_18 t542 t543 t558 t559 = some r) ∧ Aside0 (kq ≤ k) ∧ Aside0 (Kd.R k31 31 wc w.heap.size (fun k_ => k_ ≠ gb557 ∧ k_ ≠ gb577 ∧ k_ ≠ gb581 ∧ k_ ≠ gb591 ∧ k_ ≠ gb595 ∧ k_ ≠ gb599 ∧ k_ ≠ gb603 ∧ k_ ≠ gb606) v548 t547) ∧ Aside0 (Kd.R (Kd.int .i64) 3 wc w.heap.size (ofs []) (.slice Ao23 t543.length co23) t543) ∧ Aside0 (Kd.R (Kd.int .i64) 3 wc w.heap.size (ofs []) (.slice Ao40 t559.length co40) t559) ∧ Aside0 (wc.heap[gb546]? = some (.cells #[.int .i64 t542, (.slice Ao23 t543.length co23)] 26 (0, 0))) ∧ Aside0 (wc.heap[gb563]? = some (.cells #[.int .i64 t558, (.slice Ao40 t559.length co40)] 26 (0, 0))) ∧ Aside0 (Below w.heap.size w wc))
    case first =>
      have H := HC19.out
      clear HC19
      replace H := aB H
      obtain ⟨t607, A149, H⟩ := H
      replace H := aB H
      obtain ⟨t610, A150, H⟩ := H
      by_cases c151 : t610 = true
      · subst c151
        replace H := ifT H
        replace H := aB H
        obtain ⟨t611, A152, H⟩ := H
        replace H := aB H
        obtain ⟨t612, A153, H⟩ := H
        by_cases c154 : (t611 != t612) = true
        · rw [if_pos c154] at H
          obtain ⟨c154b0, c154b1, c154b2, c154b3⟩ := neT c154
          clear c154
          (first | rw [c154b0] | (simp only [i64_w, i32_w]; rw [c154b0]) | skip)
          exact (laws_FnConcepts.j0_dead _ _ _ _ _ _ _ _ _ (by rw [HRR.out] at H; exact H)).elim
        · rw [if_neg c154] at H
          obtain ⟨c154b0, c154b1, c154b2⟩ := neF c154
          clear c154
          (first | rw [c154b0] | (simp only [i64_w, i32_w]; rw [c154b0]) | skip)
          by_cases c162 : t564 = t566
          · rw [if_pos c162] at H
            have c162b0 : (t564 == t566) = true := beq_iff_eq.mpr c162
            have c162b1 : (t564 != t566) = false := bne_eq_false_iff_eq.mpr c162
            clear c162
            by_cases c163 : (t565 != t567) = true
            · rw [if_pos c163] at H
              obtain ⟨c163b0, c163b1, c163b2, c163b3⟩ := neT c163
              clear c163
              exact (laws_FnConcepts.j0_dead _ _ _ _ _ _ _ _ _ (by rw [HRR.out] at H; exact H)).elim
            · rw [if_neg c163] at H
              obtain ⟨c163b0, c163b1, c163b2⟩ := neF c163
              clear c163
              by_cases c171 : (!(t574 == t578) || (!(t575 == t579))) = true
              · rw [if_pos c171] at H
                have c171b0 : (!(t574 == t578) || (!(t575 == t579))) = true := c171
                clear c171
                exact (laws_FnConcepts.j0_dead _ _ _ _ _ _ _ _ _ (by rw [HRR.out] at H; exact H)).elim
              · rw [if_neg c171] at H
                have c171b0 : (!(t574 == t578) || (!(t575 == t579))) = false := by simpa using c171
                clear c171
                by_cases c179 : (t576 != t580) = true
                · rw [if_pos c179] at H
                  obtain ⟨c179b0, c179b1, c179b2, c179b3⟩ := neT c179
                  clear c179
                  exact (laws_FnConcepts.j0_dead _ _ _ _ _ _ _ _ _ (by rw [HRR.out] at H; exact H)).elim
                · rw [if_neg c179] at H
                  obtain ⟨c179b0, c179b1, c179b2⟩ := neF c179
                  clear c179
                  by_cases c187 : (!(t588 == t592) || (!(t589 == t593))) = true
                  · rw [if_pos c187] at H
                    have c187b0 : (!(t588 == t592) || (!(t589 == t593))) = true := c187
                    clear c187
                    exact (laws_FnConcepts.j0_dead _ _ _ _ _ _ _ _ _ (by rw [HRR.out] at H; exact H)).elim
                  · rw [if_neg c187] at H
                    have c187b0 : (!(t588 == t592) || (!(t589 == t593))) = false := by simpa using c187
                    clear c187
                    by_cases c195 : (t590 != t594) = true
                    · rw [if_pos c195] at H
                      obtain ⟨c195b0, c195b1, c195b2, c195b3⟩ := neT c195
                      clear c195
                      exact (laws_FnConcepts.j0_dead _ _ _ _ _ _ _ _ _ (by rw [HRR.out] at H; exact H)).elim
                    · rw [if_neg c195] at H
                      obtain ⟨c195b0, c195b1, c195b2⟩ := neF c195
                      clear c195
                      by_cases c203 : (!(t596 == t600) || (!(t597 == t601))) = true
                      · rw [if_pos c203] at H
                        have c203b0 : (!(t596 == t600) || (!(t597 == t601))) = true := c203
                        clear c203
                        exact (laws_FnConcepts.j0_dead _ _ _ _ _ _ _ _ _ (by rw [HRR.out] at H; exact H)).elim
                      · rw [if_neg c203] at H
                        have c203b0 : (!(t596 == t600) || (!(t597 == t601))) = false := by simpa using c203
                        clear c203
                        by_cases c211 : (t598 != t602) = true
                        · rw [if_pos c211] at H
                          obtain ⟨c211b0, c211b1, c211b2, c211b3⟩ := neT c211
                          clear c211
                          exact (laws_FnConcepts.j0_dead _ _ _ _ _ _ _ _ _ (by rw [HRR.out] at H; exact H)).elim
                        · rw [if_neg c211] at H
                          obtain ⟨c211b0, c211b1, c211b2⟩ := neF c211
                          clear c211
                          replace H := aB H
                          obtain ⟨t613, A219, H⟩ := H
                          replace H := aB H
                          obtain ⟨t614, A220, H⟩ := H
                          have H' := Aside0.mk H
                          clear H
                          try go_wp2
                          have n0_ : Aside0 (Kd.R (Kd.int .i64) 3 ((w135.setCell ⟨gb606, 0, none⟩ (.int .i64 t604)).setCell ⟨gb606, 1, none⟩ (.int .i64 t605)) w.heap.size (ofs []) (.slice Ao23 t543.length co23) t543) := (rM (kT HO545 BK606))
                          have n1_ : Aside0 (Kd.R k31 31 ((w135.setCell ⟨gb606, 0, none⟩ (.int .i64 t604)).setCell ⟨gb606, 1, none⟩ (.int .i64 t605)) w.heap.size (fun k_ => k_ ≠ gb557 ∧ k_ ≠ gb577 ∧ k_ ≠ gb581 ∧ k_ ≠ gb591 ∧ k_ ≠ gb595 ∧ k_ ≠ gb599 ∧ k_ ≠ gb603 ∧ k_ ≠ gb606) v548 t547) := ⟨by (with_reducible repeat (first | apply Kd.R_alloc | apply Kd.R_drewN | apply Kd.R_drew)); exact Kd.R_mono (Kd.R_far (p := ⟨gb606, 1, none⟩) (Kd.R_far (p := ⟨gb606, 0, none⟩) (Kd.R_mono HO549.out (fun k_ hk => (⟨hk, hk.2⟩ : _ ∧ k_ ≠ gb606))) (fun _ hk => hk.2) (.int .i64 t604)) (fun _ hk => hk.2) (.int .i64 t605)) (fun _ hk => ⟨hk.1.1.1.1.1.1.1.1.2, ⟨hk.1.1.1.1.1.1.1.2, ⟨hk.1.1.1.1.1.1.2, ⟨hk.1.1.1.1.1.2, ⟨hk.1.1.1.1.2, ⟨hk.1.1.1.2, ⟨hk.1.1.2, hk.1.2⟩⟩⟩⟩⟩⟩⟩)⟩
                          have n2_ : Aside0 (Kd.R (Kd.int .i64) 3 ((w135.setCell ⟨gb606, 0, none⟩ (.int .i64 t604)).setCell ⟨gb606, 1, none⟩ (.int .i64 t605)) w.heap.size (ofs []) (.slice Ao31 t551.length co31) t551) := (rM (kT HO553 BK606))
                          have n3_ : Aside0 (Kd.R (Kd.int .i64) 3 ((w135.setCell ⟨gb606, 0, none⟩ (.int .i64 t604)).setCell ⟨gb606, 1, none⟩ (.int .i64 t605)) w.heap.size (ofs []) (.slice Ao40 t559.length co40) t559) := (rM (kT HO561 BK606))
                          have n4_ : Aside0 (Kd.R (Kd.int .i64) 3 ((w135.setCell ⟨gb606, 0, none⟩ (.int .i64 t604)).setCell ⟨gb606, 1, none⟩ (.int .i64 t605)) w.heap.size (ofs []) (.slice Ao51 t569.length co51) t569) := (rM (kT HO571 BK606))
                          have n5_ : Aside0 (Kd.R (Kd.int .i64) 3 ((w135.setCell ⟨gb606, 0, none⟩ (.int .i64 t604)).setCell ⟨gb606, 1, none⟩ (.int .i64 t605)) w.heap.size (ofs []) (.slice Ao80 t583.length co80) t583) := (rM (kT HO585 BK606))
                          have n6_ : Aside0 (((w135.setCell ⟨gb606, 0, none⟩ (.int .i64 t604)).setCell ⟨gb606, 1, none⟩ (.int .i64 t605)).heap[gb546]? = some (.cells #[.int .i64 t542, .slice Ao23 t543.length co23] 26 (0, 0))) := (qF NB546_606 (qF NB546_606 BK546))
                          have n7_ : Aside0 (((w135.setCell ⟨gb606, 0, none⟩ (.int .i64 t604)).setCell ⟨gb606, 1, none⟩ (.int .i64 t605)).heap[gb556]? = some (.cells #[.int .i64 t550, .slice Ao31 t551.length co31] 26 (0, 0))) := (qF NB556_606 (qF NB556_606 BK556))
                          have n8_ : Aside0 (((w135.setCell ⟨gb606, 0, none⟩ (.int .i64 t604)).setCell ⟨gb606, 1, none⟩ (.int .i64 t605)).heap[gb557]? = some (.cells #[.int .i64 t554, .int .i64 t555] 31 (0, 0))) := (qF NB557_606 (qF NB557_606 BK557))
                          have n9_ : Aside0 (((w135.setCell ⟨gb606, 0, none⟩ (.int .i64 t604)).setCell ⟨gb606, 1, none⟩ (.int .i64 t605)).heap[gb563]? = some (.cells #[.int .i64 t558, .slice Ao40 t559.length co40] 26 (0, 0))) := (qF NB563_606 (qF NB563_606 BK563))
                          have n10_ : Aside0 (((w135.setCell ⟨gb606, 0, none⟩ (.int .i64 t604)).setCell ⟨gb606, 1, none⟩ (.int .i64 t605)).heap[gb573]? = some (.cells #[.int .i64 t568, .slice Ao51 t569.length co51] 26 (0, 0))) := (qF NB573_606 (qF NB573_606 BK573))
                          have n11_ : Aside0 (((w135.setCell ⟨gb606, 0, none⟩ (.int .i64 t604)).setCell ⟨gb606, 1, none⟩ (.int .i64 t605)).heap[gb577]? = some (.cells #[.int .i64 t574, .int .i64 t575] 31 (0, 0))) := (qF NB577_606 (qF NB577_606 BK577))
                          have n12_ : Aside0 (((w135.setCell ⟨gb606, 0, none⟩ (.int .i64 t604)).setCell ⟨gb606, 1, none⟩ (.int .i64 t605)).heap[gb581]? = some (.cells #[.int .i64 t578, .int .i64 t579] 31 (0, 0))) := (qF NB581_606 (qF NB581_606 BK581))
                          have n13_ : Aside0 (((w135.setCell ⟨gb606, 0, none⟩ (.int .i64 t604)).setCell ⟨gb606, 1, none⟩ (.int .i64 t605)).heap[gb587]? = some (.cells #[.int .i64 t582, .slice Ao80 t583.length co80] 26 (0, 0))) := (qF NB587_606 (qF NB587_606 BK587))
                          have n14_ : Aside0 (((w135.setCell ⟨gb606, 0, none⟩ (.int .i64 t604)).setCell ⟨gb606, 1, none⟩ (.int .i64 t605)).heap[gb591]? = some (.cells #[.int .i64 t588, .int .i64 t589] 31 (0, 0))) := (qF NB591_606 (qF NB591_606 BK591))
                          have n15_ : Aside0 (((w135.setCell ⟨gb606, 0, none⟩ (.int .i64 t604)).setCell ⟨gb606, 1, none⟩ (.int .i64 t605)).heap[gb595]? = some (.cells #[.int .i64 t592, .int .i64 t593] 31 (0, 0))) := (qF NB595_606 (qF NB595_606 BK595))
                          have n16_ : Aside0 (((w135.setCell ⟨gb606, 0, none⟩ (.int .i64 t604)).setCell ⟨gb606, 1, none⟩ (.int .i64 t605)).heap[gb599]? = some (.cells #[.int .i64 t596, .int .i64 t597] 31 (0, 0))) := (qF NB599_606 (qF NB599_606 BK599))
                          have n17_ : Aside0 (((w135.setCell ⟨gb606, 0, none⟩ (.int .i64 t604)).setCell ⟨gb606, 1, none⟩ (.int .i64 t605)).heap[gb603]? = some (.cells #[.int .i64 t600, .int .i64 t601] 31 (0, 0))) := (qF NB603_606 (qF NB603_606 BK603))
                          have n18_ : Aside0 (((w135.setCell ⟨gb606, 0, none⟩ (.int .i64 t604)).setCell ⟨gb606, 1, none⟩ (.int .i64 t605)).heap[gb606]? = some (.cells #[.int .i64 t604, .int .i64 t605] 31 (0, 0))) := (qP (qP BK606))
                          have n19_ : Aside0 (Below w.heap.size w ((w135.setCell ⟨gb606, 0, none⟩ (.int .i64 t604)).setCell ⟨gb606, 1, none⟩ (.int .i64 t605))) := ⟨hB_⟩
                          (try clear HO545)
                          (try clear HO549)
                          (try clear HO553)
                          (try clear HO561)
                          (try clear HO571)
                          (try clear HO585)
                          (try clear BK546)
                          (try clear BK556)
                          (try clear BK557)
                          (try clear BK563)
                          (try clear BK573)
                          (try clear BK577)
                          (try clear BK581)
                          (try clear BK587)
                          (try clear BK591)
                          (try clear BK595)
                          (try clear BK599)
                          (try clear BK603)
                          (try clear BK606)
                          (try clear HB)
                          generalize ((w135.setCell ⟨gb606, 0, none⟩ (.int .i64 t604)).setCell ⟨gb606, 1, none⟩ (.int .i64 t605)) = w221 at n0_ n1_ n2_ n3_ n4_ n5_ n6_ n7_ n8_ n9_ n10_ n11_ n12_ n13_ n14_ n15_ n16_ n17_ n18_ n19_ ⊢
                          have HO545 := n0_
                          have HO549 := n1_
                          have HO553 := n2_
                          have HO561 := n3_
                          have BK546 := n6_
                          have BK556 := n7_
                          have BK557 := n8_
                          have BK563 := n9_
                          have BK577 := n11_
                          have BK581 := n12_
                          have BK591 := n14_
                          have BK595 := n15_
                          have BK599 := n16_
                          have BK603 := n17_
                          have BK606 := n18_
                          have HB := n19_
                          clear n0_ n1_ n2_ n3_ n4_ n5_ n6_ n7_ n8_ n9_ n10_ n11_ n12_ n13_ n14_ n15_ n16_ n17_ n18_ n19_
                          replace HO545 := Aside0.mk (Kd.R_drew HO545.out)
                          replace HO549 := Aside0.mk (Kd.R_drew HO549.out)
                          replace HO553 := Aside0.mk (Kd.R_drew HO553.out)
                          replace HO561 := Aside0.mk (Kd.R_drew HO561.out)
                          replace BK546 := Aside0.mk (blk_drew BK546.out)
                          replace BK556 := Aside0.mk (blk_drew BK556.out)
                          replace BK557 := Aside0.mk (blk_drew BK557.out)
                          replace BK563 := Aside0.mk (blk_drew BK563.out)
                          replace BK577 := Aside0.mk (blk_drew BK577.out)
                          replace BK581 := Aside0.mk (blk_drew BK581.out)
                          replace BK591 := Aside0.mk (blk_drew BK591.out)
                          replace BK595 := Aside0.mk (blk_drew BK595.out)
                          replace BK599 := Aside0.mk (blk_drew BK599.out)
                          replace BK603 := Aside0.mk (blk_drew BK603.out)
                          replace BK606 := Aside0.mk (blk_drew BK606.out)
                          replace HB := Aside0.mk (below_drew1 HB.out)
                          refine start_ (n := 61) (S := fun w' => w'.cell? ⟨gb546, 0, none⟩ = some (.int .i64 t542) ∧ w'.cell? ⟨gb546, 1, none⟩ = some (.slice Ao23 t543.length co23) ∧ w'.cell? ⟨gb556, 0, none⟩ = some (.int .i64 t550) ∧ w'.cell? ⟨gb556, 1, none⟩ = some (.slice Ao31 t551.length co31) ∧ w'.cell? ⟨gb557, 0, none⟩ = some (.int .i64 t554) ∧ w'.cell? ⟨gb557, 1, none⟩ = some (.int .i64 t555) ∧ w'.cell? ⟨gb577, 0, none⟩ = some (.int .i64 t574) ∧ w'.cell? ⟨gb577, 1, none⟩ = some (.int .i64 t575) ∧ w'.cell? ⟨gb581, 0, none⟩ = some (.int .i64 t578) ∧ w'.cell? ⟨gb581, 1, none⟩ = some (.int .i64 t579) ∧ w'.cell? ⟨gb591, 0, none⟩ = some (.int .i64 t588) ∧ w'.cell? ⟨gb591, 1, none⟩ = some (.int .i64 t589) ∧ w'.cell? ⟨gb595, 0, none⟩ = some (.int .i64 t592) ∧ w'.cell? ⟨gb595, 1, none⟩ = some (.int .i64 t593) ∧ w'.cell? ⟨gb599, 0, none⟩ = some (.int .i64 t596) ∧ w'.cell? ⟨gb599, 1, none⟩ = some (.int .i64 t597) ∧ w'.cell? ⟨gb603, 0, none⟩ = some (.int .i64 t600) ∧ w'.cell? ⟨gb603, 1, none⟩ = some (.int .i64 t601) ∧ w'.cell? ⟨gb606, 0, none⟩ = some (.int .i64 t604) ∧ w'.cell? ⟨gb606, 1, none⟩ = some (.int .i64 t605)) (ds := []) #[false,false,false,false,false,false,false,false,false,false,false,false,false,false,false,false,false,false,false,false,false,false,false,false,false,false,false,false,false,false,false,false,false,false,false,false,false,false,false,false,false,false,false,false,false,false,false,false,false,false,false,false,false,false,false,false,false,false,false,false,false] (by kernel_rfl) rfl rfl ⟨(blk_cell BK546.out 0).trans rfl, (blk_cell BK546.out 1).trans rfl, (blk_cell BK556.out 0).trans rfl, (blk_cell BK556.out 1).trans rfl, (blk_cell BK557.out 0).trans rfl, (blk_cell BK557.out 1).trans rfl, (blk_cell BK577.out 0).trans rfl, (blk_cell BK577.out 1).trans rfl, (blk_cell BK581.out 0).trans rfl, (blk_cell BK581.out 1).trans rfl, (blk_cell BK591.out 0).trans rfl, (blk_cell BK591.out 1).trans rfl, (blk_cell BK595.out 0).trans rfl, (blk_cell BK595.out 1).trans rfl, (blk_cell BK599.out 0).trans rfl, (blk_cell BK599.out 1).trans rfl, (blk_cell BK603.out 0).trans rfl, (blk_cell BK603.out 1).trans rfl, (blk_cell BK606.out 0).trans rfl, (blk_cell BK606.out 1).trans rfl⟩ (fun hHeld => ?_); refine with_tabW laws_FnConcepts.tab18 laws_FnConcepts.bits18 (fun HT_ HW_ => ?_)
                          generalize w221.drew = w222 at HO545 HO549 HO553 HO561 BK546 BK556 BK557 BK563 BK577 BK581 BK591 BK595 BK599 BK603 BK606 HB hHeld ⊢
                          refine pure_ (i := 0) (N := some 109) (v := ?_) (a' := ?_) (nb 61 1) rfl rfl (any_of HT_.out (by kernel_rfl)) (fun _ _ _ h => h) (Or.inl ⟨by rfl, ?_⟩) ?_ ?_
                          rotate_left
                          · intro w'
                            go_simp
                            with_reducible rfl
                          rotate_left
                          · simp only [Act.put, setIfInBounds_toArray, set_cons_zero, set_cons_succ, i64_w, i32_w]
                            rfl
                          refine take_ (i := 1) (N := some 110) (v := ?_) (a' := ?_) (nb 61 3) rfl rfl (take_ofW HT_.out HW_.out (by kernel_rfl)) (fun _ _ _ h => h) (Or.inl ⟨by rfl, ?_⟩) hHeld ?_ ?_
                          rotate_left
                          · rintro w' ⟨s0, s1, s2, s3, s4, s5, s6, s7, s8, s9, s10, s11, s12, s13, s14, s15, s16, s17, s18, s19⟩
                            go_simp
                            with_reducible rfl
                          rotate_left
                          · simp only [Act.put, setIfInBounds_toArray, set_cons_zero, set_cons_succ, i64_w, i32_w]
                            rfl
                          refine one_ (i := 2) (N := some 111) (nb 61 7) rfl rfl (one_of HT_.out (by kernel_rfl)) (by decide) (fun K hK => ?_)
                          refine goes_ Tryz.func21 (by kernel_rfl) rfl #[.agg #[.int .i64 t542, .slice Ao23 t543.length co23]] (by rfl) rfl rfl gL_ ?_
                          with_reducible refine (spec_Concepts.calls k t542 _ _ t543 t607 _ ?side1 ?side2 A149.out).mono ?_
                          (case side1 => exact rC HO545)
                          (case side2 => exact (Kd.R_reads' HO545.out).2.1)
                          rintro e w223 ⟨v608, rfl, ho0, hb⟩
                          refine ⟨_, rfl, ?_⟩
                          replace HO545 := kR HO545 hb
                          replace HO553 := kR HO553 hb
                          replace HO561 := kR HO561 hb
                          have HO609 := Aside0.mk (Kd.R_lower (Kd.R_newB (Kd.R_newB (Kd.R_newB (Kd.R_newB (Kd.R_newB (Kd.R_newB (Kd.R_newB (Kd.R_newB ho0 (g := gb557) (o := .cells #[.int .i64 t554, .int .i64 t555] 31 (0, 0)) (bW BK557)) (g := gb577) (o := .cells #[.int .i64 t574, .int .i64 t575] 31 (0, 0)) (bW BK577)) (g := gb581) (o := .cells #[.int .i64 t578, .int .i64 t579] 31 (0, 0)) (bW BK581)) (g := gb591) (o := .cells #[.int .i64 t588, .int .i64 t589] 31 (0, 0)) (bW BK591)) (g := gb595) (o := .cells #[.int .i64 t592, .int .i64 t593] 31 (0, 0)) (bW BK595)) (g := gb599) (o := .cells #[.int .i64 t596, .int .i64 t597] 31 (0, 0)) (bW BK599)) (g := gb603) (o := .cells #[.int .i64 t600, .int .i64 t601] 31 (0, 0)) (bW BK603)) (g := gb606) (o := .cells #[.int .i64 t604, .int .i64 t605] 31 (0, 0)) (bW BK606)) (below_size hB_))
                          replace HO549 := kR HO549 hb
                          replace BK546 := kB BK546 hb
                          replace BK556 := kB BK556 hb
                          replace BK557 := kB BK557 hb
                          replace BK563 := kB BK563 hb
                          replace BK577 := kB BK577 hb
                          replace BK581 := kB BK581 hb
                          replace BK591 := kB BK591 hb
                          replace BK595 := kB BK595 hb
                          replace BK599 := kB BK599 hb
                          replace BK603 := kB BK603 hb
                          replace BK606 := kB BK606 hb
                          replace HB := kH HB hb
                          (try clear hb)
                          (try clear hb2)
                          (try clear hk)
                          (try clear hi)
                          (try clear ho0)
                          obtain ⟨Ao224, co224, eo224⟩ := Kd.R_slice HO549.out
                          (first | subst eo224 | (injection eo224 with f1_ f2_ f3_; have f4_ := f1_.symm; have f5_ := f3_.symm; clear f1_ f2_ f3_; subst f4_; subst f5_))
                          obtain ⟨Ao225, co225, eo225⟩ := Kd.R_slice HO609.out
                          (first | subst eo225 | (injection eo225 with f1_ f2_ f3_; have f4_ := f1_.symm; have f5_ := f3_.symm; clear f1_ f2_ f3_; subst f4_; subst f5_))
                          refine hK.out _ _ ⟨(blk_cell BK546.out 0).trans rfl, (blk_cell BK546.out 1).trans rfl, (blk_cell BK556.out 0).trans rfl, (blk_cell BK556.out 1).trans rfl, (blk_cell BK557.out 0).trans rfl, (blk_cell BK557.out 1).trans rfl, (blk_cell BK577.out 0).trans rfl, (blk_cell BK577.out 1).trans rfl, (blk_cell BK581.out 0).trans rfl, (blk_cell BK581.out 1).trans rfl, (blk_cell BK591.out 0).trans rfl, (blk_cell BK591.out 1).trans rfl, (blk_cell BK595.out 0).trans rfl, (blk_cell BK595.out 1).trans rfl, (blk_cell BK599.out 0).trans rfl, (blk_cell BK599.out 1).trans rfl, (blk_cell BK603.out 0).trans rfl, (blk_cell BK603.out 1).trans rfl, (blk_cell BK606.out 0).trans rfl, (blk_cell BK606.out 1).trans rfl⟩ (fun hHeld => ?_)
                          clear hK K
                          refine norm_ (a' := ?_) ?_ ?_
                          rotate_left
                          · show Act.put _ (some 111) _ = _
                            simp only [Act.put, setIfInBounds_toArray, set_cons_zero, set_cons_succ, i64_w, i32_w]
                            rfl
                          refine one_ (i := 3) (N := some 112) (nb 61 15) rfl rfl (one_of HT_.out (by kernel_rfl)) (by decide) (fun K hK => ?_)
                          refine goes_ Tryz.func20 (by kernel_rfl) rfl #[.slice Ao224 t547.length co224, .slice Ao225 t607.length co225] (by rfl) rfl rfl gL_ ?_
                          with_reducible refine (laws_sameConcepts.calls k _ _ t547 _ _ t607 true _ ?side1 ?side2 ?side3 ?side4 A150.out).mono ?_
                          (case side1 => exact rC HO549)
                          (case side2 => exact (Kd.R_reads' HO549.out).2.1)
                          (case side3 => exact rC HO609)
                          (case side4 => exact (Kd.R_reads' HO609.out).2.1)
                          rintro e w' ⟨rfl, ⟨nd, rfl⟩⟩
                          refine ⟨_, rfl, ?_⟩
                          refine hK.out _ _ ⟨(blk_cell BK546.out 0).trans rfl, (blk_cell BK546.out 1).trans rfl, (blk_cell BK556.out 0).trans rfl, (blk_cell BK556.out 1).trans rfl, (blk_cell BK557.out 0).trans rfl, (blk_cell BK557.out 1).trans rfl, (blk_cell BK577.out 0).trans rfl, (blk_cell BK577.out 1).trans rfl, (blk_cell BK581.out 0).trans rfl, (blk_cell BK581.out 1).trans rfl, (blk_cell BK591.out 0).trans rfl, (blk_cell BK591.out 1).trans rfl, (blk_cell BK595.out 0).trans rfl, (blk_cell BK595.out 1).trans rfl, (blk_cell BK599.out 0).trans rfl, (blk_cell BK599.out 1).trans rfl, (blk_cell BK603.out 0).trans rfl, (blk_cell BK603.out 1).trans rfl, (blk_cell BK606.out 0).trans rfl, (blk_cell BK606.out 1).trans rfl⟩ (fun hHeld => ?_)
                          clear hK K
                          refine norm_ (a' := ?_) ?_ ?_
                          rotate_left
                          · show Act.put _ (some 112) _ = _
                            simp only [Act.put, setIfInBounds_toArray, set_cons_zero, set_cons_succ, i64_w, i32_w]
                            rfl
                          refine pure_ (i := 4) (N := some 113) (v := ?_) (a' := ?_) (nb 61 31) rfl rfl (any_of HT_.out (by kernel_rfl)) (fun _ _ _ h => h) (Or.inl ⟨by rfl, ?_⟩) ?_ ?_
                          rotate_left
                          · intro w'
                            go_simp
                            with_reducible rfl
                          rotate_left
                          · simp only [Act.put, setIfInBounds_toArray, set_cons_zero, set_cons_succ, i64_w, i32_w]
                            rfl
                          refine pure_ (i := 5) (N := some 114) (v := ?_) (a' := ?_) (nb 61 63) rfl rfl (any_of HT_.out (by kernel_rfl)) (fun _ _ _ h => h) (Or.inl ⟨by rfl, ?_⟩) ?_ ?_
                          rotate_left
                          · intro w'
                            go_simp
                            with_reducible rfl
                          rotate_left
                          · simp only [Act.put, setIfInBounds_toArray, set_cons_zero, set_cons_succ, i64_w, i32_w]
                            rfl
                          refine take_ (i := 6) (N := some 115) (v := ?_) (a' := ?_) (nb 61 127) rfl rfl (take_ofW HT_.out HW_.out (by kernel_rfl)) (fun _ _ _ h => h) (Or.inl ⟨by rfl, ?_⟩) hHeld ?_ ?_
                          rotate_left
                          · rintro w' ⟨s0, s1, s2, s3, s4, s5, s6, s7, s8, s9, s10, s11, s12, s13, s14, s15, s16, s17, s18, s19⟩
                            go_simp
                            with_reducible rfl
                          rotate_left
                          · simp only [Act.put, setIfInBounds_toArray, set_cons_zero, set_cons_succ, i64_w, i32_w]
                            rfl
                          refine take_ (i := 7) (N := some 116) (v := ?_) (a' := ?_) (nb 61 255) rfl rfl (take_ofW HT_.out HW_.out (by kernel_rfl)) (fun _ _ _ h => h) (Or.inl ⟨by rfl, ?_⟩) hHeld ?_ ?_
                          rotate_left
                          · rintro w' ⟨s0, s1, s2, s3, s4, s5, s6, s7, s8, s9, s10, s11, s12, s13, s14, s15, s16, s17, s18, s19⟩
                            go_simp
                            with_reducible rfl
                          rotate_left
                          · simp only [Act.put, setIfInBounds_toArray, set_cons_zero, set_cons_succ, i64_w, i32_w]
                            rfl
                          refine take_ (i := 9) (N := some 118) (v := ?_) (a' := ?_) (nb 61 767) rfl rfl (take_ofW HT_.out HW_.out (by kernel_rfl)) (fun _ _ _ h => h) (Or.inl ⟨by rfl, ?_⟩) hHeld ?_ ?_
                          rotate_left
                          · rintro w' ⟨s0, s1, s2, s3, s4, s5, s6, s7, s8, s9, s10, s11, s12, s13, s14, s15, s16, s17, s18, s19⟩
                            go_simp
                            with_reducible rfl
                          rotate_left
                          · simp only [Act.put, setIfInBounds_toArray, set_cons_zero, set_cons_succ, i64_w, i32_w]
                            rfl
                          refine take_ (i := 10) (N := some 119) (v := ?_) (a' := ?_) (nb 61 1791) rfl rfl (take_ofW HT_.out HW_.out (by kernel_rfl)) (fun _ _ _ h => h) (Or.inl ⟨by rfl, ?_⟩) hHeld ?_ ?_
                          rotate_left
                          · rintro w' ⟨s0, s1, s2, s3, s4, s5, s6, s7, s8, s9, s10, s11, s12, s13, s14, s15, s16, s17, s18, s19⟩
                            go_simp
                            with_reducible rfl
                          rotate_left
                          · simp only [Act.put, setIfInBounds_toArray, set_cons_zero, set_cons_succ, i64_w, i32_w]
                            rfl
                          refine one_ (i := 8) (N := some 117) (nb 61 2047) rfl rfl (one_of HT_.out (by kernel_rfl)) (by decide) (fun K hK => ?_)
                          refine goes_ Tryz.func22 (by kernel_rfl) rfl #[.agg #[.int .i64 t550, .slice Ao31 t551.length co31], .agg #[.int .i64 t554, .int .i64 t555]] (by rfl) rfl rfl gL_ ?_
                          with_reducible refine (impl_IsConcept.calls k t550 _ _ t551 t554 t555 t611 _ ?side1 ?side2 A152.out).mono ?_
                          (case side1 => exact rC HO553)
                          (case side2 => exact (Kd.R_reads' HO553.out).2.1)
                          rintro e w226 ⟨rfl, hb⟩
                          refine ⟨_, rfl, ?_⟩
                          replace HO545 := kR HO545 hb
                          replace HO549 := kR HO549 hb
                          replace HO553 := kR HO553 hb
                          replace HO561 := kR HO561 hb
                          clear HO609
                          replace BK546 := kB BK546 hb
                          replace BK556 := kB BK556 hb
                          replace BK557 := kB BK557 hb
                          replace BK563 := kB BK563 hb
                          replace BK577 := kB BK577 hb
                          replace BK581 := kB BK581 hb
                          replace BK591 := kB BK591 hb
                          replace BK595 := kB BK595 hb
                          replace BK599 := kB BK599 hb
                          replace BK603 := kB BK603 hb
                          replace BK606 := kB BK606 hb
                          replace HB := kH HB hb
                          (try clear hb)
                          (try clear hb2)
                          (try clear hk)
                          (try clear hi)
                          refine hK.out _ _ ⟨(blk_cell BK546.out 0).trans rfl, (blk_cell BK546.out 1).trans rfl, (blk_cell BK556.out 0).trans rfl, (blk_cell BK556.out 1).trans rfl, (blk_cell BK557.out 0).trans rfl, (blk_cell BK557.out 1).trans rfl, (blk_cell BK577.out 0).trans rfl, (blk_cell BK577.out 1).trans rfl, (blk_cell BK581.out 0).trans rfl, (blk_cell BK581.out 1).trans rfl, (blk_cell BK591.out 0).trans rfl, (blk_cell BK591.out 1).trans rfl, (blk_cell BK595.out 0).trans rfl, (blk_cell BK595.out 1).trans rfl, (blk_cell BK599.out 0).trans rfl, (blk_cell BK599.out 1).trans rfl, (blk_cell BK603.out 0).trans rfl, (blk_cell BK603.out 1).trans rfl, (blk_cell BK606.out 0).trans rfl, (blk_cell BK606.out 1).trans rfl⟩ (fun hHeld => ?_)
                          clear hK K
                          refine norm_ (a' := ?_) ?_ ?_
                          rotate_left
                          · show Act.put _ (some 117) _ = _
                            simp only [Act.put, setIfInBounds_toArray, set_cons_zero, set_cons_succ, i64_w, i32_w]
                            rfl
                          refine one_ (i := 11) (N := some 120) (nb 61 4095) rfl rfl (one_of HT_.out (by kernel_rfl)) (by decide) (fun K hK => ?_)
                          refine goes_ Tryz.func23 (by kernel_rfl) rfl #[.agg #[.int .i64 t550, .slice Ao31 t551.length co31], .agg #[.int .i64 t554, .int .i64 t555]] (by rfl) rfl rfl gL_ ?_
                          with_reducible refine (spec_IsConcept.calls k t550 _ _ t551 t554 t555 t612 _ ?side1 ?side2 A153.out).mono ?_
                          (case side1 => exact rC HO553)
                          (case side2 => exact (Kd.R_reads' HO553.out).2.1)
                          rintro e w227 ⟨rfl, hb⟩
                          refine ⟨_, rfl, ?_⟩
                          replace HO545 := kR HO545 hb
                          replace HO549 := kR HO549 hb
                          clear HO553
                          replace HO561 := kR HO561 hb
                          replace BK546 := kB BK546 hb
                          replace BK556 := kB BK556 hb
                          replace BK557 := kB BK557 hb
                          replace BK563 := kB BK563 hb
                          replace BK577 := kB BK577 hb
                          replace BK581 := kB BK581 hb
                          replace BK591 := kB BK591 hb
                          replace BK595 := kB BK595 hb
                          replace BK599 := kB BK599 hb
                          replace BK603 := kB BK603 hb
                          replace BK606 := kB BK606 hb
                          replace HB := kH HB hb
                          (try clear hb)
                          (try clear hb2)
                          (try clear hk)
                          (try clear hi)
                          refine hK.out _ _ ⟨(blk_cell BK546.out 0).trans rfl, (blk_cell BK546.out 1).trans rfl, (blk_cell BK556.out 0).trans rfl, (blk_cell BK556.out 1).trans rfl, (blk_cell BK557.out 0).trans rfl, (blk_cell BK557.out 1).trans rfl, (blk_cell BK577.out 0).trans rfl, (blk_cell BK577.out 1).trans rfl, (blk_cell BK581.out 0).trans rfl, (blk_cell BK581.out 1).trans rfl, (blk_cell BK591.out 0).trans rfl, (blk_cell BK591.out 1).trans rfl, (blk_cell BK595.out 0).trans rfl, (blk_cell BK595.out 1).trans rfl, (blk_cell BK599.out 0).trans rfl, (blk_cell BK599.out 1).trans rfl, (blk_cell BK603.out 0).trans rfl, (blk_cell BK603.out 1).trans rfl, (blk_cell BK606.out 0).trans rfl, (blk_cell BK606.out 1).trans rfl⟩ (fun hHeld => ?_)
                          clear hK K
                          refine norm_ (a' := ?_) ?_ ?_
                          rotate_left
                          · show Act.put _ (some 120) _ = _
                            simp only [Act.put, setIfInBounds_toArray, set_cons_zero, set_cons_succ, i64_w, i32_w]
                            rfl
                          refine pure_ (i := 12) (N := some 121) (v := ?_) (a' := ?_) (nb 61 8191) rfl rfl (any_of HT_.out (by kernel_rfl)) (fun _ _ _ h => h) (Or.inl ⟨by rfl, ?_⟩) ?_ ?_
                          rotate_left
                          · intro w'
                            go_simp
                            with_reducible rfl
                          rotate_left
                          · simp only [Act.put, setIfInBounds_toArray, set_cons_zero, set_cons_succ, i64_w, i32_w]
                            rfl
                          refine pure_ (i := 13) (N := some 122) (v := ?_) (a' := ?_) (nb 61 16383) rfl rfl (any_of HT_.out (by kernel_rfl)) (fun _ _ _ h => h) (Or.inl ⟨by rfl, ?_⟩) ?_ ?_
                          rotate_left
                          · intro w'
                            go_simp
                            with_reducible rfl
                          rotate_left
                          · simp only [Act.put, setIfInBounds_toArray, set_cons_zero, set_cons_succ, i64_w, i32_w]
                            rfl
                          refine pure_ (i := 14) (N := some 123) (v := ?_) (a' := ?_) (nb 61 32767) rfl rfl (any_of HT_.out (by kernel_rfl)) (fun _ _ _ h => h) (Or.inl ⟨by rfl, ?_⟩) ?_ ?_
                          rotate_left
                          · intro w'
                            go_simp
                            with_reducible rfl
                          rotate_left
                          · simp only [Act.put, setIfInBounds_toArray, set_cons_zero, set_cons_succ, i64_w, i32_w]
                            rfl
                          refine pure_ (i := 15) (N := some 124) (v := ?_) (a' := ?_) (nb 61 65535) rfl rfl (any_of HT_.out (by kernel_rfl)) (fun _ _ _ h => h) (Or.inl ⟨by rfl, ?_⟩) ?_ ?_
                          rotate_left
                          · intro w'
                            go_simp
                            with_reducible rfl
                          rotate_left
                          · simp only [Act.put, setIfInBounds_toArray, set_cons_zero, set_cons_succ, i64_w, i32_w]
                            rfl
                          refine pure_ (i := 16) (N := some 125) (v := ?_) (a' := ?_) (nb 61 131071) rfl rfl (any_of HT_.out (by kernel_rfl)) (fun _ _ _ h => h) (Or.inl ⟨by rfl, ?_⟩) ?_ ?_
                          rotate_left
                          · intro w'
                            go_simp
                            with_reducible rfl
                          rotate_left
                          · simp only [Act.put, setIfInBounds_toArray, set_cons_zero, set_cons_succ, i64_w, i32_w]
                            rfl
                          refine pure_ (i := 17) (N := some 126) (v := ?_) (a' := ?_) (nb 61 262143) rfl rfl (any_of HT_.out (by kernel_rfl)) (fun _ _ _ h => h) (Or.inl ⟨by rfl, ?_⟩) ?_ ?_
                          rotate_left
                          · intro w'
                            go_simp
                            with_reducible rfl
                          rotate_left
                          · simp only [Act.put, setIfInBounds_toArray, set_cons_zero, set_cons_succ, i64_w, i32_w]
                            rfl
                          refine pure_ (i := 18) (N := some 127) (v := ?_) (a' := ?_) (nb 61 524287) rfl rfl (any_of HT_.out (by kernel_rfl)) (fun _ _ _ h => h) (Or.inl ⟨by rfl, ?_⟩) ?_ ?_
                          rotate_left
                          · intro w'
                            go_simp
                            with_reducible rfl
                          rotate_left
                          · simp only [Act.put, setIfInBounds_toArray, set_cons_zero, set_cons_succ, i64_w, i32_w]
                            rfl
                          refine pure_ (i := 19) (N := some 128) (v := ?_) (a' := ?_) (nb 61 1048575) rfl rfl (any_of HT_.out (by kernel_rfl)) (fun _ _ _ h => h) (Or.inl ⟨by rfl, ?_⟩) ?_ ?_
                          rotate_left
                          · intro w'
                            go_simp
                            with_reducible rfl
                          rotate_left
                          · simp only [Act.put, setIfInBounds_toArray, set_cons_zero, set_cons_succ, i64_w, i32_w]
                            rfl
                          refine pure_ (i := 20) (N := some 129) (v := ?_) (a' := ?_) (nb 61 2097151) rfl rfl (any_of HT_.out (by kernel_rfl)) (fun _ _ _ h => h) (Or.inl ⟨by rfl, ?_⟩) ?_ ?_
                          rotate_left
                          · intro w'
                            go_simp
                            with_reducible rfl
                          rotate_left
                          · simp only [Act.put, setIfInBounds_toArray, set_cons_zero, set_cons_succ, i64_w, i32_w]
                            rfl
                          refine pure_ (i := 21) (N := some 130) (v := ?_) (a' := ?_) (nb 61 4194303) rfl rfl (any_of HT_.out (by kernel_rfl)) (fun _ _ _ h => h) (Or.inl ⟨by rfl, ?_⟩) ?_ ?_
                          rotate_left
                          · intro w'
                            go_simp
                            with_reducible rfl
                          rotate_left
                          · simp only [Act.put, setIfInBounds_toArray, set_cons_zero, set_cons_succ, i64_w, i32_w]
                            rfl
                          refine pure_ (i := 22) (N := some 131) (v := ?_) (a' := ?_) (nb 61 8388607) rfl rfl (any_of HT_.out (by kernel_rfl)) (fun _ _ _ h => h) (Or.inl ⟨by rfl, ?_⟩) ?_ ?_
                          rotate_left
                          · intro w'
                            go_simp
                            with_reducible rfl
                          rotate_left
                          · simp only [Act.put, setIfInBounds_toArray, set_cons_zero, set_cons_succ, i64_w, i32_w]
                            rfl
                          refine pure_ (i := 23) (N := some 132) (v := ?_) (a' := ?_) (nb 61 16777215) rfl rfl (any_of HT_.out (by kernel_rfl)) (fun _ _ _ h => h) (Or.inl ⟨by rfl, ?_⟩) ?_ ?_
                          rotate_left
                          · intro w'
                            go_simp
                            with_reducible rfl
                          rotate_left
                          · simp only [Act.put, setIfInBounds_toArray, set_cons_zero, set_cons_succ, i64_w, i32_w]
                            rfl
                          refine pure_ (i := 24) (N := some 133) (v := ?_) (a' := ?_) (nb 61 33554431) rfl rfl (any_of HT_.out (by kernel_rfl)) (fun _ _ _ h => h) (Or.inl ⟨by rfl, ?_⟩) ?_ ?_
                          rotate_left
                          · intro w'
                            go_simp
                            with_reducible rfl
                          rotate_left
                          · simp only [Act.put, setIfInBounds_toArray, set_cons_zero, set_cons_succ, i64_w, i32_w]
                            rfl
                          refine take_ (i := 25) (N := some 134) (v := ?_) (a' := ?_) (nb 61 67108863) rfl rfl (take_ofW HT_.out HW_.out (by kernel_rfl)) (fun _ _ _ h => h) (Or.inl ⟨by rfl, ?_⟩) hHeld ?_ ?_
                          rotate_left
                          · rintro w' ⟨s0, s1, s2, s3, s4, s5, s6, s7, s8, s9, s10, s11, s12, s13, s14, s15, s16, s17, s18, s19⟩
                            go_simp
                            with_reducible rfl
                          rotate_left
                          · simp only [Act.put, setIfInBounds_toArray, set_cons_zero, set_cons_succ, i64_w, i32_w]
                            rfl
                          refine take_ (i := 26) (N := some 135) (v := ?_) (a' := ?_) (nb 61 134217727) rfl rfl (take_ofW HT_.out HW_.out (by kernel_rfl)) (fun _ _ _ h => h) (Or.inl ⟨by rfl, ?_⟩) hHeld ?_ ?_
                          rotate_left
                          · rintro w' ⟨s0, s1, s2, s3, s4, s5, s6, s7, s8, s9, s10, s11, s12, s13, s14, s15, s16, s17, s18, s19⟩
                            go_simp
                            with_reducible rfl
                          rotate_left
                          · simp only [Act.put, setIfInBounds_toArray, set_cons_zero, set_cons_succ, i64_w, i32_w]
                            rfl
                          refine pure_ (i := 27) (N := some 136) (v := ?_) (a' := ?_) (nb 61 268435455) rfl rfl (any_of HT_.out (by kernel_rfl)) (fun _ _ _ h => h) (Or.inl ⟨by rfl, ?_⟩) ?_ ?_
                          rotate_left
                          · intro w'
                            go_simp
                            with_reducible rfl
                          rotate_left
                          · simp only [Act.put, setIfInBounds_toArray, set_cons_zero, set_cons_succ, i64_w, i32_w]
                            rfl
                          refine pure_ (i := 28) (N := some 137) (v := ?_) (a' := ?_) (nb 61 536870911) rfl rfl (any_of HT_.out (by kernel_rfl)) (fun _ _ _ h => h) (Or.inl ⟨by rfl, ?_⟩) ?_ ?_
                          rotate_left
                          · intro w'
                            go_simp
                            with_reducible rfl
                          rotate_left
                          · simp only [Act.put, setIfInBounds_toArray, set_cons_zero, set_cons_succ, i64_w, i32_w]
                            rfl
                          refine pure_ (i := 29) (N := some 138) (v := ?_) (a' := ?_) (nb 61 1073741823) rfl rfl (any_of HT_.out (by kernel_rfl)) (fun _ _ _ h => h) (Or.inl ⟨by rfl, ?_⟩) ?_ ?_
                          rotate_left
                          · intro w'
                            go_simp
                            with_reducible rfl
                          rotate_left
                          · simp only [Act.put, setIfInBounds_toArray, set_cons_zero, set_cons_succ, i64_w, i32_w]
                            rfl
                          refine pure_ (i := 30) (N := some 139) (v := ?_) (a' := ?_) (nb 61 2147483647) rfl rfl (any_of HT_.out (by kernel_rfl)) (fun _ _ _ h => h) (Or.inl ⟨by rfl, ?_⟩) ?_ ?_
                          rotate_left
                          · intro w'
                            go_simp
                            with_reducible rfl
                          rotate_left
                          · simp only [Act.put, setIfInBounds_toArray, set_cons_zero, set_cons_succ, i64_w, i32_w]
                            rfl
                          refine pure_ (i := 31) (N := some 140) (v := ?_) (a' := ?_) (nb 61 4294967295) rfl rfl (any_of HT_.out (by kernel_rfl)) (fun _ _ _ h => h) (Or.inl ⟨by rfl, ?_⟩) ?_ ?_
                          rotate_left
                          · intro w'
                            go_simp
                            with_reducible rfl
                          rotate_left
                          · simp only [Act.put, setIfInBounds_toArray, set_cons_zero, set_cons_succ, i64_w, i32_w]
                            rfl
                          refine pure_ (i := 32) (N := some 141) (v := ?_) (a' := ?_) (nb 61 8589934591) rfl rfl (any_of HT_.out (by kernel_rfl)) (fun _ _ _ h => h) (Or.inl ⟨by rfl, ?_⟩) ?_ ?_
                          rotate_left
                          · intro w'
                            go_simp
                            with_reducible rfl
                          rotate_left
                          · simp only [Act.put, setIfInBounds_toArray, set_cons_zero, set_cons_succ, i64_w, i32_w]
                            rfl
                          refine pure_ (i := 33) (N := some 142) (v := ?_) (a' := ?_) (nb 61 17179869183) rfl rfl (any_of HT_.out (by kernel_rfl)) (fun _ _ _ h => h) (Or.inl ⟨by rfl, ?_⟩) ?_ ?_
                          rotate_left
                          · intro w'
                            go_simp
                            with_reducible rfl
                          rotate_left
                          · simp only [Act.put, setIfInBounds_toArray, set_cons_zero, set_cons_succ, i64_w, i32_w]
                            rfl
                          refine pure_ (i := 34) (N := some 143) (v := ?_) (a' := ?_) (nb 61 34359738367) rfl rfl (any_of HT_.out (by kernel_rfl)) (fun _ _ _ h => h) (Or.inl ⟨by rfl, ?_⟩) ?_ ?_
                          rotate_left
                          · intro w'
                            go_simp
                            with_reducible rfl
                          rotate_left
                          · simp only [Act.put, setIfInBounds_toArray, set_cons_zero, set_cons_succ, i64_w, i32_w]
                            rfl
                          refine take_ (i := 35) (N := some 144) (v := ?_) (a' := ?_) (nb 61 68719476735) rfl rfl (take_ofW HT_.out HW_.out (by kernel_rfl)) (fun _ _ _ h => h) (Or.inl ⟨by rfl, ?_⟩) hHeld ?_ ?_
                          rotate_left
                          · rintro w' ⟨s0, s1, s2, s3, s4, s5, s6, s7, s8, s9, s10, s11, s12, s13, s14, s15, s16, s17, s18, s19⟩
                            go_simp
                            with_reducible rfl
                          rotate_left
                          · simp only [Act.put, setIfInBounds_toArray, set_cons_zero, set_cons_succ, i64_w, i32_w]
                            rfl
                          refine take_ (i := 36) (N := some 145) (v := ?_) (a' := ?_) (nb 61 137438953471) rfl rfl (take_ofW HT_.out HW_.out (by kernel_rfl)) (fun _ _ _ h => h) (Or.inl ⟨by rfl, ?_⟩) hHeld ?_ ?_
                          rotate_left
                          · rintro w' ⟨s0, s1, s2, s3, s4, s5, s6, s7, s8, s9, s10, s11, s12, s13, s14, s15, s16, s17, s18, s19⟩
                            go_simp
                            with_reducible rfl
                          rotate_left
                          · simp only [Act.put, setIfInBounds_toArray, set_cons_zero, set_cons_succ, i64_w, i32_w]
                            rfl
                          refine pure_ (i := 37) (N := some 146) (v := ?_) (a' := ?_) (nb 61 274877906943) rfl rfl (any_of HT_.out (by kernel_rfl)) (fun _ _ _ h => h) (Or.inl ⟨by rfl, ?_⟩) ?_ ?_
                          rotate_left
                          · intro w'
                            go_simp
                            with_reducible rfl
                          rotate_left
                          · simp only [Act.put, setIfInBounds_toArray, set_cons_zero, set_cons_succ, i64_w, i32_w]
                            rfl
                          refine pure_ (i := 38) (N := some 147) (v := ?_) (a' := ?_) (nb 61 549755813887) rfl rfl (any_of HT_.out (by kernel_rfl)) (fun _ _ _ h => h) (Or.inl ⟨by rfl, ?_⟩) ?_ ?_
                          rotate_left
                          · intro w'
                            go_simp
                            with_reducible rfl
                          rotate_left
                          · simp only [Act.put, setIfInBounds_toArray, set_cons_zero, set_cons_succ, i64_w, i32_w]
                            rfl
                          refine pure_ (i := 39) (N := some 148) (v := ?_) (a' := ?_) (nb 61 1099511627775) rfl rfl (any_of HT_.out (by kernel_rfl)) (fun _ _ _ h => h) (Or.inl ⟨by rfl, ?_⟩) ?_ ?_
                          rotate_left
                          · intro w'
                            go_simp
                            with_reducible rfl
                          rotate_left
                          · simp only [Act.put, setIfInBounds_toArray, set_cons_zero, set_cons_succ, i64_w, i32_w]
                            rfl
                          refine pure_ (i := 40) (N := some 149) (v := ?_) (a' := ?_) (nb 61 2199023255551) rfl rfl (any_of HT_.out (by kernel_rfl)) (fun _ _ _ h => h) (Or.inl ⟨by rfl, ?_⟩) ?_ ?_
                          rotate_left
                          · intro w'
                            go_simp
                            with_reducible rfl
                          rotate_left
                          · simp only [Act.put, setIfInBounds_toArray, set_cons_zero, set_cons_succ, i64_w, i32_w]
                            rfl
                          refine pure_ (i := 41) (N := some 150) (v := ?_) (a' := ?_) (nb 61 4398046511103) rfl rfl (any_of HT_.out (by kernel_rfl)) (fun _ _ _ h => h) (Or.inl ⟨by rfl, ?_⟩) ?_ ?_
                          rotate_left
                          · intro w'
                            go_simp
                            with_reducible rfl
                          rotate_left
                          · simp only [Act.put, setIfInBounds_toArray, set_cons_zero, set_cons_succ, i64_w, i32_w]
                            rfl
                          refine pure_ (i := 42) (N := some 151) (v := ?_) (a' := ?_) (nb 61 8796093022207) rfl rfl (any_of HT_.out (by kernel_rfl)) (fun _ _ _ h => h) (Or.inl ⟨by rfl, ?_⟩) ?_ ?_
                          rotate_left
                          · intro w'
                            go_simp
                            with_reducible rfl
                          rotate_left
                          · simp only [Act.put, setIfInBounds_toArray, set_cons_zero, set_cons_succ, i64_w, i32_w]
                            rfl
                          refine pure_ (i := 43) (N := some 152) (v := ?_) (a' := ?_) (nb 61 17592186044415) rfl rfl (any_of HT_.out (by kernel_rfl)) (fun _ _ _ h => h) (Or.inl ⟨by rfl, ?_⟩) ?_ ?_
                          rotate_left
                          · intro w'
                            go_simp
                            with_reducible rfl
                          rotate_left
                          · simp only [Act.put, setIfInBounds_toArray, set_cons_zero, set_cons_succ, i64_w, i32_w]
                            rfl
                          refine pure_ (i := 44) (N := some 153) (v := ?_) (a' := ?_) (nb 61 35184372088831) rfl rfl (any_of HT_.out (by kernel_rfl)) (fun _ _ _ h => h) (Or.inl ⟨by rfl, ?_⟩) ?_ ?_
                          rotate_left
                          · intro w'
                            go_simp
                            with_reducible rfl
                          rotate_left
                          · simp only [Act.put, setIfInBounds_toArray, set_cons_zero, set_cons_succ, i64_w, i32_w]
                            rfl
                          refine take_ (i := 45) (N := some 154) (v := ?_) (a' := ?_) (nb 61 70368744177663) rfl rfl (take_ofW HT_.out HW_.out (by kernel_rfl)) (fun _ _ _ h => h) (Or.inl ⟨by rfl, ?_⟩) hHeld ?_ ?_
                          rotate_left
                          · rintro w' ⟨s0, s1, s2, s3, s4, s5, s6, s7, s8, s9, s10, s11, s12, s13, s14, s15, s16, s17, s18, s19⟩
                            go_simp
                            with_reducible rfl
                          rotate_left
                          · simp only [Act.put, setIfInBounds_toArray, set_cons_zero, set_cons_succ, i64_w, i32_w]
                            rfl
                          refine take_ (i := 46) (N := some 155) (v := ?_) (a' := ?_) (nb 61 140737488355327) rfl rfl (take_ofW HT_.out HW_.out (by kernel_rfl)) (fun _ _ _ h => h) (Or.inl ⟨by rfl, ?_⟩) hHeld ?_ ?_
                          rotate_left
                          · rintro w' ⟨s0, s1, s2, s3, s4, s5, s6, s7, s8, s9, s10, s11, s12, s13, s14, s15, s16, s17, s18, s19⟩
                            go_simp
                            with_reducible rfl
                          rotate_left
                          · simp only [Act.put, setIfInBounds_toArray, set_cons_zero, set_cons_succ, i64_w, i32_w]
                            rfl
                          refine pure_ (i := 47) (N := some 156) (v := ?_) (a' := ?_) (nb 61 281474976710655) rfl rfl (any_of HT_.out (by kernel_rfl)) (fun _ _ _ h => h) (Or.inl ⟨by rfl, ?_⟩) ?_ ?_
                          rotate_left
                          · intro w'
                            go_simp
                            with_reducible rfl
                          rotate_left
                          · simp only [Act.put, setIfInBounds_toArray, set_cons_zero, set_cons_succ, i64_w, i32_w]
                            rfl
                          refine pure_ (i := 48) (N := some 157) (v := ?_) (a' := ?_) (nb 61 562949953421311) rfl rfl (any_of HT_.out (by kernel_rfl)) (fun _ _ _ h => h) (Or.inl ⟨by rfl, ?_⟩) ?_ ?_
                          rotate_left
                          · intro w'
                            go_simp
                            with_reducible rfl
                          rotate_left
                          · simp only [Act.put, setIfInBounds_toArray, set_cons_zero, set_cons_succ, i64_w, i32_w]
                            rfl
                          refine pure_ (i := 49) (N := some 158) (v := ?_) (a' := ?_) (nb 61 1125899906842623) rfl rfl (any_of HT_.out (by kernel_rfl)) (fun _ _ _ h => h) (Or.inl ⟨by rfl, ?_⟩) ?_ ?_
                          rotate_left
                          · intro w'
                            go_simp
                            with_reducible rfl
                          rotate_left
                          · simp only [Act.put, setIfInBounds_toArray, set_cons_zero, set_cons_succ, i64_w, i32_w]
                            rfl
                          refine pure_ (i := 50) (N := some 159) (v := ?_) (a' := ?_) (nb 61 2251799813685247) rfl rfl (any_of HT_.out (by kernel_rfl)) (fun _ _ _ h => h) (Or.inl ⟨by rfl, ?_⟩) ?_ ?_
                          rotate_left
                          · intro w'
                            go_simp
                            with_reducible rfl
                          rotate_left
                          · simp only [Act.put, setIfInBounds_toArray, set_cons_zero, set_cons_succ, i64_w, i32_w]
                            rfl
                          refine pure_ (i := 51) (N := some 160) (v := ?_) (a' := ?_) (nb 61 4503599627370495) rfl rfl (any_of HT_.out (by kernel_rfl)) (fun _ _ _ h => h) (Or.inl ⟨by rfl, ?_⟩) ?_ ?_
                          rotate_left
                          · intro w'
                            go_simp
                            with_reducible rfl
                          rotate_left
                          · simp only [Act.put, setIfInBounds_toArray, set_cons_zero, set_cons_succ, i64_w, i32_w]
                            rfl
                          refine pure_ (i := 52) (N := some 161) (v := ?_) (a' := ?_) (nb 61 9007199254740991) rfl rfl (any_of HT_.out (by kernel_rfl)) (fun _ _ _ h => h) (Or.inl ⟨by rfl, ?_⟩) ?_ ?_
                          rotate_left
                          · intro w'
                            go_simp
                            with_reducible rfl
                          rotate_left
                          · simp only [Act.put, setIfInBounds_toArray, set_cons_zero, set_cons_succ, i64_w, i32_w]
                            rfl
                          refine pure_ (i := 53) (N := some 162) (v := ?_) (a' := ?_) (nb 61 18014398509481983) rfl rfl (any_of HT_.out (by kernel_rfl)) (fun _ _ _ h => h) (Or.inl ⟨by rfl, ?_⟩) ?_ ?_
                          rotate_left
                          · intro w'
                            go_simp
                            with_reducible rfl
                          rotate_left
                          · simp only [Act.put, setIfInBounds_toArray, set_cons_zero, set_cons_succ, i64_w, i32_w]
                            rfl
                          refine pure_ (i := 54) (N := some 163) (v := ?_) (a' := ?_) (nb 61 36028797018963967) rfl rfl (any_of HT_.out (by kernel_rfl)) (fun _ _ _ h => h) (Or.inl ⟨by rfl, ?_⟩) ?_ ?_
                          rotate_left
                          · intro w'
                            go_simp
                            with_reducible rfl
                          rotate_left
                          · simp only [Act.put, setIfInBounds_toArray, set_cons_zero, set_cons_succ, i64_w, i32_w]
                            rfl
                          refine take_ (i := 55) (N := some 164) (v := ?_) (a' := ?_) (nb 61 72057594037927935) rfl rfl (take_ofW HT_.out HW_.out (by kernel_rfl)) (fun _ _ _ h => h) (Or.inl ⟨by rfl, ?_⟩) hHeld ?_ ?_
                          rotate_left
                          · rintro w' ⟨s0, s1, s2, s3, s4, s5, s6, s7, s8, s9, s10, s11, s12, s13, s14, s15, s16, s17, s18, s19⟩
                            go_simp
                            with_reducible rfl
                          rotate_left
                          · simp only [Act.put, setIfInBounds_toArray, set_cons_zero, set_cons_succ, i64_w, i32_w]
                            rfl
                          refine take_ (i := 57) (N := some 166) (v := ?_) (a' := ?_) (nb 61 216172782113783807) rfl rfl (take_ofW HT_.out HW_.out (by kernel_rfl)) (fun _ _ _ h => h) (Or.inl ⟨by rfl, ?_⟩) hHeld ?_ ?_
                          rotate_left
                          · rintro w' ⟨s0, s1, s2, s3, s4, s5, s6, s7, s8, s9, s10, s11, s12, s13, s14, s15, s16, s17, s18, s19⟩
                            go_simp
                            with_reducible rfl
                          rotate_left
                          · simp only [Act.put, setIfInBounds_toArray, set_cons_zero, set_cons_succ, i64_w, i32_w]
                            rfl
                          refine one_ (i := 56) (N := some 165) (nb 61 288230376151711743) rfl rfl (one_of HT_.out (by kernel_rfl)) (by decide) (fun K hK => ?_)
                          refine goes_ Tryz.func24 (by kernel_rfl) rfl #[.agg #[.int .i64 t604, .int .i64 t605]] (by rfl) rfl rfl gL_ ?_
                          with_reducible refine (impl_ConceptText.calls k t604 t605 t613 _ A219.out).mono ?_
                          rintro e w228 ⟨rfl, hb⟩
                          refine ⟨_, rfl, ?_⟩
                          replace HO545 := kR HO545 hb
                          replace HO549 := kR HO549 hb
                          replace HO561 := kR HO561 hb
                          replace BK546 := kB BK546 hb
                          replace BK556 := kB BK556 hb
                          replace BK557 := kB BK557 hb
                          replace BK563 := kB BK563 hb
                          replace BK577 := kB BK577 hb
                          replace BK581 := kB BK581 hb
                          replace BK591 := kB BK591 hb
                          replace BK595 := kB BK595 hb
                          replace BK599 := kB BK599 hb
                          replace BK603 := kB BK603 hb
                          replace BK606 := kB BK606 hb
                          replace HB := kH HB hb
                          (try clear hb)
                          (try clear hb2)
                          (try clear hk)
                          (try clear hi)
                          refine hK.out _ _ ⟨(blk_cell BK546.out 0).trans rfl, (blk_cell BK546.out 1).trans rfl, (blk_cell BK556.out 0).trans rfl, (blk_cell BK556.out 1).trans rfl, (blk_cell BK557.out 0).trans rfl, (blk_cell BK557.out 1).trans rfl, (blk_cell BK577.out 0).trans rfl, (blk_cell BK577.out 1).trans rfl, (blk_cell BK581.out 0).trans rfl, (blk_cell BK581.out 1).trans rfl, (blk_cell BK591.out 0).trans rfl, (blk_cell BK591.out 1).trans rfl, (blk_cell BK595.out 0).trans rfl, (blk_cell BK595.out 1).trans rfl, (blk_cell BK599.out 0).trans rfl, (blk_cell BK599.out 1).trans rfl, (blk_cell BK603.out 0).trans rfl, (blk_cell BK603.out 1).trans rfl, (blk_cell BK606.out 0).trans rfl, (blk_cell BK606.out 1).trans rfl⟩ (fun hHeld => ?_)
                          clear hK K
                          refine norm_ (a' := ?_) ?_ ?_
                          rotate_left
                          · show Act.put _ (some 165) _ = _
                            simp only [Act.put, setIfInBounds_toArray, set_cons_zero, set_cons_succ, i64_w, i32_w]
                            rfl
                          refine one_ (i := 58) (N := some 167) (nb 61 576460752303423487) rfl rfl (one_of HT_.out (by kernel_rfl)) (by decide) (fun K hK => ?_)
                          refine goes_ Tryz.func25 (by kernel_rfl) rfl #[.agg #[.int .i64 t604, .int .i64 t605]] (by rfl) rfl rfl gL_ ?_
                          with_reducible refine (spec_ConceptText.calls k t604 t605 t614 _ A220.out).mono ?_
                          rintro e w229 ⟨rfl, hb⟩
                          refine ⟨_, rfl, ?_⟩
                          replace HO545 := kR HO545 hb
                          replace HO549 := kR HO549 hb
                          replace HO561 := kR HO561 hb
                          replace BK546 := kB BK546 hb
                          replace BK556 := kB BK556 hb
                          replace BK557 := kB BK557 hb
                          replace BK563 := kB BK563 hb
                          replace BK577 := kB BK577 hb
                          replace BK581 := kB BK581 hb
                          replace BK591 := kB BK591 hb
                          replace BK595 := kB BK595 hb
                          replace BK599 := kB BK599 hb
                          replace BK603 := kB BK603 hb
                          replace BK606 := kB BK606 hb
                          replace HB := kH HB hb
                          (try clear hb)
                          (try clear hb2)
                          (try clear hk)
                          (try clear hi)
                          refine hK.out _ _ ⟨(blk_cell BK546.out 0).trans rfl, (blk_cell BK546.out 1).trans rfl, (blk_cell BK556.out 0).trans rfl, (blk_cell BK556.out 1).trans rfl, (blk_cell BK557.out 0).trans rfl, (blk_cell BK557.out 1).trans rfl, (blk_cell BK577.out 0).trans rfl, (blk_cell BK577.out 1).trans rfl, (blk_cell BK581.out 0).trans rfl, (blk_cell BK581.out 1).trans rfl, (blk_cell BK591.out 0).trans rfl, (blk_cell BK591.out 1).trans rfl, (blk_cell BK595.out 0).trans rfl, (blk_cell BK595.out 1).trans rfl, (blk_cell BK599.out 0).trans rfl, (blk_cell BK599.out 1).trans rfl, (blk_cell BK603.out 0).trans rfl, (blk_cell BK603.out 1).trans rfl, (blk_cell BK606.out 0).trans rfl, (blk_cell BK606.out 1).trans rfl⟩ (fun hHeld => ?_)
                          clear hK K
                          refine norm_ (a' := ?_) ?_ ?_
                          rotate_left
                          · show Act.put _ (some 167) _ = _
                            simp only [Act.put, setIfInBounds_toArray, set_cons_zero, set_cons_succ, i64_w, i32_w]
                            rfl
                          refine pure_ (i := 59) (N := some 168) (v := ?_) (a' := ?_) (nb 61 1152921504606846975) rfl rfl (any_of HT_.out (by kernel_rfl)) (fun _ _ _ h => h) (Or.inl ⟨by rfl, ?_⟩) ?_ ?_
                          rotate_left
                          · intro w'
                            go_simp
                            with_reducible rfl
                          rotate_left
                          · simp only [Act.put, setIfInBounds_toArray, set_cons_zero, set_cons_succ, i64_w, i32_w]
                            rfl
                          refine pure_ (i := 60) (N := some 169) (v := ?_) (a' := ?_) (nb 61 2305843009213693951) rfl rfl (any_of HT_.out (by kernel_rfl)) (fun _ _ _ h => h) (Or.inl ⟨by rfl, ?_⟩) ?_ ?_
                          rotate_left
                          · intro w'
                            go_simp
                            with_reducible rfl
                          rotate_left
                          · simp only [Act.put, setIfInBounds_toArray, set_cons_zero, set_cons_succ, i64_w, i32_w]
                            rfl
                          refine done_ (done_of HT_.out (by kernel_rfl)) ?_
                          try go_wp2
                          go_meet
                          case rel => exact ⟨_, ((t613.toList != t614.toList)), (by first | rfl | (simp; done) | (simp [*]; done)), H', ⟨by first | omega | exact Nat.le_refl _⟩, (rM HO549), ⟨by (with_reducible repeat (first | apply Kd.R_alloc | apply Kd.R_drewN | apply Kd.R_drew)); exact HO545.out⟩, ⟨by (with_reducible repeat (first | apply Kd.R_alloc | apply Kd.R_drewN | apply Kd.R_drew)); exact HO561.out⟩, ⟨bW BK546⟩, ⟨bW BK563⟩, ⟨hB_⟩⟩
          · rw [if_neg c162] at H
            have c162b0 : (t564 == t566) = false := beq_eq_false_iff_ne.mpr c162
            have c162b1 : (t564 != t566) = true := bne_iff_ne.mpr c162
            exact (laws_FnConcepts.j0_dead _ _ _ _ _ _ _ _ _ (by rw [HRR.out] at H; exact H)).elim
      · replace c151 := Bool.eq_false_iff.mpr c151
        subst c151
        replace H := ifF H
        exact (laws_FnConcepts.j0_dead _ _ _ _ _ _ _ _ _ (by rw [HRR.out] at H; exact H)).elim
    case rest =>
      clear HC19
      try clear c1
      try clear c2
      try clear p2
      try clear c15
      try clear c20
      try clear c21
      try clear c151
      try clear BK546; try clear BK556; try clear BK557; try clear BK563; try clear BK573; try clear BK577; try clear BK581; try clear BK587; try clear BK591; try clear BK595; try clear BK599; try clear BK603; try clear BK606; try clear HO545; try clear HO549; try clear HO553; try clear HO561; try clear HO571; try clear HO585
      obtain ⟨kq, x169_18, rfl, HA, HJ18, HO_4, HO_547001, HO_564001, BK546, BK563, HB⟩ := hcut
      cases kq with
      | zero => exact absurd HA.out (by simp [laws_FnConcepts.j0])
      | succ kj18 =>
        have H := HA.out
        clear HA
        simp only [laws_FnConcepts.j0] at H
        by_cases c242 : x169_18 = true
        · subst c242
          replace H := ifT H
          exact absurd (Option.some.inj H) (by rw [HRR.out]; decide)
        · replace c242 := Bool.eq_false_iff.mpr c242
          subst c242
          replace H := ifF H
          have H' := Aside0.mk H
          clear H
          go_wp2
          go_loopg [30, 31] kj18 (fun kq v30 v31 w' => ∃ (x30_2 : Int) (x31_2 : Int), v30 = .int .i64 x30_2 ∧ v31 = .int .i64 x31_2 ∧ Aside0 (laws_FnConcepts.l0 kq t547 t562 t564 t565 x30_2 x31_2 t542 t543 t558 t559 = some r) ∧ Aside0 (kq ≤ kj18) ∧ Aside0 (Kd.R k31 31 w' w.heap.size (fun k_ => k_ ≠ gb557 ∧ k_ ≠ gb577 ∧ k_ ≠ gb581 ∧ k_ ≠ gb591 ∧ k_ ≠ gb595 ∧ k_ ≠ gb599 ∧ k_ ≠ gb603 ∧ k_ ≠ gb606) v548 t547) ∧ Aside0 (Kd.R (Kd.int .i64) 3 w' w.heap.size (ofs []) (.slice Ao23 t543.length co23) t543) ∧ Aside0 (Kd.R (Kd.int .i64) 3 w' w.heap.size (ofs []) (.slice Ao40 t559.length co40) t559) ∧ Aside0 (w'.heap[gb546]? = some (.cells #[.int .i64 t542, (.slice Ao23 t543.length co23)] 26 (0, 0))) ∧ Aside0 (w'.heap[gb563]? = some (.cells #[.int .i64 t558, (.slice Ao40 t559.length co40)] 26 (0, 0))) ∧ Aside0 (Below w.heap.size w w'))
          case atStart => exact ⟨(0), (0), (by first | rfl | (simp; done) | (simp [*]; done)), (by first | rfl | (simp; done) | (simp [*]; done)), H', ⟨Nat.le_refl _⟩, ⟨by (with_reducible repeat (first | apply Kd.R_alloc | apply Kd.R_drewN | apply Kd.R_drew)); exact HO_4.out⟩, ⟨by (with_reducible repeat (first | apply Kd.R_alloc | apply Kd.R_drewN | apply Kd.R_drew)); exact HO_547001.out⟩, ⟨by (with_reducible repeat (first | apply Kd.R_alloc | apply Kd.R_drewN | apply Kd.R_drew)); exact HO_564001.out⟩, ⟨bW BK546⟩, ⟨bW BK563⟩, ⟨hB_⟩⟩
          case round =>
            clear H'
            try clear c1
            try clear c2
            try clear p2
            try clear c15
            try clear c20
            try clear c21
            try clear c24
            try clear c151
            try clear c242
            try clear p2
            try clear BK546; try clear BK563; try clear HO545; try clear HO549; try clear HO553; try clear HO561; try clear HO571; try clear HO585; try clear HO_4; try clear HO_547001; try clear HO_564001
            obtain ⟨x30_2, x31_2, rfl, rfl, HA, HK2, HO_4, HO_547001, HO_564001, BK546, BK563, HB⟩ := hrel
            cases gk with
            | zero => exact absurd HA.out (by simp [laws_FnConcepts.l0])
            | succ k2 =>
              have H := HA.out
              clear HA
              simp only [laws_FnConcepts.l0] at H
              have HC243 := Aside0.mk H
              clear H
              go_upto_region 22 with (fail)
              go_cut [178] (fun v178 wc => ∃ (kq : Nat) (x178_242 : Bool), v178 = .bool x178_242 ∧ Aside0 (laws_FnConcepts.j2 kq t547 t562 t564 t565 x30_2 x31_2 x178_242 t542 t543 t558 t559 = some r) ∧ Aside0 (kq ≤ k2) ∧ Aside0 (Kd.R k31 31 wc w.heap.size (fun k_ => k_ ≠ gb557 ∧ k_ ≠ gb577 ∧ k_ ≠ gb581 ∧ k_ ≠ gb591 ∧ k_ ≠ gb595 ∧ k_ ≠ gb599 ∧ k_ ≠ gb603 ∧ k_ ≠ gb606) v548 t547) ∧ Aside0 (Kd.R (Kd.int .i64) 3 wc w.heap.size (ofs []) (.slice Ao23 t543.length co23) t543) ∧ Aside0 (Kd.R (Kd.int .i64) 3 wc w.heap.size (ofs []) (.slice Ao40 t559.length co40) t559) ∧ Aside0 (wc.heap[gb546]? = some (.cells #[.int .i64 t542, (.slice Ao23 t543.length co23)] 26 (0, 0))) ∧ Aside0 (wc.heap[gb563]? = some (.cells #[.int .i64 t558, (.slice Ao40 t559.length co40)] 26 (0, 0))) ∧ Aside0 (Below w.heap.size w wc))
              case first =>
                have H := HC243.out
                clear HC243
                replace H := aB H
                obtain ⟨t615, A244, H⟩ := H
                by_cases c245 : x31_2 ≤ t615
                · rw [if_pos c245] at H
                  have c245b0 : decide (x31_2 ≤ t615) = true := decide_eq_true c245
                  clear c245
                  (first | rw [c245b0] | (simp only [i64_w, i32_w]; rw [c245b0]) | skip)
                  replace H := aB H
                  obtain ⟨t616, A246, H⟩ := H
                  have H' := Aside0.mk H
                  clear H
                  have hcz259_0 : wr.cell? ⟨gb546, 0, none⟩ = some (.int .i64 t542) := (blk_cell BK546.out 0).trans rfl
                  have hcz259_1 : wr.cell? ⟨gb546, 1, none⟩ = some (.slice Ao23 t543.length co23) := (blk_cell BK546.out 1).trans rfl
                  have hfz259_0 := blk_frozen BK546.out 0
                  have hfz259_1 := blk_frozen BK546.out 1
                  go_wp2_with (first | ((with_reducible refine gate_callee (f := 26) rfl ?_); refine goesL_ (some 173) rfl rfl Tryz.func26 (by kernel_rfl) rfl #[.int .i64 t542] rfl gL_ ?_; (with_reducible refine (spec_FullSet.calls t542 t615 _ A244.out).mono ?_); rintro e w' ⟨rfl, ⟨nd, rfl⟩⟩; refine ⟨_, rfl, ?_⟩) | (go_at_call 27; (with_reducible refine (spec_IsContext.calls k2 t542 _ _ t543 t616 _ ?side1 ?side2 A246.out).mono ?_); (case side1 => exact rC HO_547001); (case side2 => exact (Kd.R_reads' HO_547001.out).2.1); rintro e w260 ⟨rfl, hb⟩; replace HO_4 := kR HO_4 hb; replace HO_547001 := kR HO_547001 hb; replace HO_564001 := kR HO_564001 hb; replace BK546 := kB BK546 hb; replace BK563 := kB BK563 hb; replace HB := kH HB hb; clear hb))
                  go_meet
                  case rel => exact ⟨_, (t616), (by first | rfl | (simp; done) | (simp [*]; done)), H', ⟨by have := HJ18.out; have := HK2.out; first | omega | exact Nat.le_refl _⟩, ⟨by (with_reducible repeat (first | apply Kd.R_alloc | apply Kd.R_drewN | apply Kd.R_drew)); exact HO_4.out⟩, ⟨by (with_reducible repeat (first | apply Kd.R_alloc | apply Kd.R_drewN | apply Kd.R_drew)); exact HO_547001.out⟩, ⟨by (with_reducible repeat (first | apply Kd.R_alloc | apply Kd.R_drewN | apply Kd.R_drew)); exact HO_564001.out⟩, ⟨bW BK546⟩, ⟨bW BK563⟩, ⟨hB_⟩⟩
                · rw [if_neg c245] at H
                  have c245b0 : decide (x31_2 ≤ t615) = false := decide_eq_false c245
                  clear c245
                  (first | rw [c245b0] | (simp only [i64_w, i32_w]; rw [c245b0]) | skip)
                  have H' := Aside0.mk H
                  clear H
                  have hcz273_0 : wr.cell? ⟨gb546, 0, none⟩ = some (.int .i64 t542) := (blk_cell BK546.out 0).trans rfl
                  have hcz273_1 : wr.cell? ⟨gb546, 1, none⟩ = some (.slice Ao23 t543.length co23) := (blk_cell BK546.out 1).trans rfl
                  have hfz273_0 := blk_frozen BK546.out 0
                  have hfz273_1 := blk_frozen BK546.out 1
                  go_wp2_with (first | ((with_reducible refine gate_callee (f := 26) rfl ?_); refine goesL_ (some 173) rfl rfl Tryz.func26 (by kernel_rfl) rfl #[.int .i64 t542] rfl gL_ ?_; (with_reducible refine (spec_FullSet.calls t542 t615 _ A244.out).mono ?_); rintro e w' ⟨rfl, ⟨nd, rfl⟩⟩; refine ⟨_, rfl, ?_⟩))
                  go_meet
                  case rel => exact ⟨_, (false), (by first | rfl | (simp; done) | (simp [*]; done)), H', ⟨by have := HJ18.out; have := HK2.out; first | omega | exact Nat.le_refl _⟩, ⟨by (with_reducible repeat (first | apply Kd.R_alloc | apply Kd.R_drewN | apply Kd.R_drew)); exact HO_4.out⟩, ⟨by (with_reducible repeat (first | apply Kd.R_alloc | apply Kd.R_drewN | apply Kd.R_drew)); exact HO_547001.out⟩, ⟨by (with_reducible repeat (first | apply Kd.R_alloc | apply Kd.R_drewN | apply Kd.R_drew)); exact HO_564001.out⟩, ⟨bW BK546⟩, ⟨bW BK563⟩, ⟨hB_⟩⟩
              case rest =>
                clear HC243
                try clear c1
                try clear c2
                try clear p2
                try clear c15
                try clear c20
                try clear c21
                try clear c24
                try clear c25
                try clear c26
                try clear c27
                try clear c151
                try clear c242
                try clear c245
                try clear c245b0
                try clear c247
                try clear c248
                try clear c249
                try clear c250
                try clear c251
                try clear c252
                try clear c253
                try clear c254
                try clear c255
                try clear c256
                try clear c257
                try clear c258
                try clear c261
                try clear c262
                try clear c263
                try clear c264
                try clear c265
                try clear c266
                try clear c267
                try clear c268
                try clear c269
                try clear c270
                try clear c271
                try clear c272
                try clear hcz259_0
                try clear hcz259_1
                try clear hcz273_0
                try clear hcz273_1
                try clear hfz259_0
                try clear hfz259_1
                try clear hfz273_0
                try clear hfz273_1
                try clear p2
                try clear BK546; try clear BK563; try clear HO545; try clear HO549; try clear HO553; try clear HO561; try clear HO571; try clear HO585; try clear HO_4; try clear HO_547001; try clear HO_564001
                obtain ⟨kq, x178_242, rfl, HA, HJ242, HO_4, HO_547001, HO_564001, BK546, BK563, HB⟩ := hcut
                cases kq with
                | zero => exact absurd HA.out (by simp [laws_FnConcepts.j2])
                | succ kj242 =>
                  have H := HA.out
                  clear HA
                  simp only [laws_FnConcepts.j2] at H
                  by_cases c274 : x178_242 = true
                  · subst c274
                    replace H := ifT H
                    replace H := aB H
                    obtain ⟨t617, A275, H⟩ := H
                    by_cases c276 : t617 = true
                    · subst c276
                      replace H := ifT H
                      have H' := Aside0.mk H
                      clear H
                      have hcz289_0 : wc.cell? ⟨gb546, 0, none⟩ = some (.int .i64 t542) := (blk_cell BK546.out 0).trans rfl
                      have hcz289_1 : wc.cell? ⟨gb546, 1, none⟩ = some (.slice Ao23 t543.length co23) := (blk_cell BK546.out 1).trans rfl
                      have hfz289_0 := blk_frozen BK546.out 0
                      have hfz289_1 := blk_frozen BK546.out 1
                      go_wp2_with (first | ((with_reducible refine gate_callee (f := 28) rfl ?_); refine goesL_ (some 183) rfl rfl Tryz.func28 (by kernel_rfl) rfl #[.agg #[.int .i64 t542, .slice Ao23 t543.length co23], .int .i64 x31_2] rfl gL_ ?_; (with_reducible refine (spec_IsClosed.calls kj242 t542 _ _ t543 x31_2 true _ ?side1 ?side2 A275.out).mono ?_); (case side1 => exact rC HO_547001); (case side2 => exact (Kd.R_reads' HO_547001.out).2.1); rintro e w290 ⟨rfl, hb⟩; refine ⟨_, rfl, ?_⟩; replace HO_4 := kR HO_4 hb; replace HO_547001 := kR HO_547001 hb; replace HO_564001 := kR HO_564001 hb; replace BK546 := kB BK546 hb; replace BK563 := kB BK563 hb; replace HB := kH HB hb; clear hb))
                      go_roundg kj242
                      case measure => have := HJ18.out; have := HK2.out; have := HJ242.out; omega
                      case rel => exact ⟨(wrap64 (x30_2 + 1)), (wrap64 (x31_2 + 1)), (by first | rfl | (simp; done) | (simp [*]; done)), (by first | rfl | (simp; done) | (simp [*]; done)), H', ⟨by have := HJ18.out; have := HK2.out; have := HJ242.out; omega⟩, ⟨by (with_reducible repeat (first | apply Kd.R_alloc | apply Kd.R_drewN | apply Kd.R_drew)); exact HO_4.out⟩, ⟨by (with_reducible repeat (first | apply Kd.R_alloc | apply Kd.R_drewN | apply Kd.R_drew)); exact HO_547001.out⟩, ⟨by (with_reducible repeat (first | apply Kd.R_alloc | apply Kd.R_drewN | apply Kd.R_drew)); exact HO_564001.out⟩, ⟨bW BK546⟩, ⟨bW BK563⟩, ⟨hB_⟩⟩
                    · replace c276 := Bool.eq_false_iff.mpr c276
                      subst c276
                      replace H := ifF H
                      have H' := Aside0.mk H
                      clear H
                      have hcz303_0 : wc.cell? ⟨gb546, 0, none⟩ = some (.int .i64 t542) := (blk_cell BK546.out 0).trans rfl
                      have hcz303_1 : wc.cell? ⟨gb546, 1, none⟩ = some (.slice Ao23 t543.length co23) := (blk_cell BK546.out 1).trans rfl
                      have hfz303_0 := blk_frozen BK546.out 0
                      have hfz303_1 := blk_frozen BK546.out 1
                      go_wp2_with (first | ((with_reducible refine gate_callee (f := 28) rfl ?_); refine goesL_ (some 183) rfl rfl Tryz.func28 (by kernel_rfl) rfl #[.agg #[.int .i64 t542, .slice Ao23 t543.length co23], .int .i64 x31_2] rfl gL_ ?_; (with_reducible refine (spec_IsClosed.calls kj242 t542 _ _ t543 x31_2 false _ ?side1 ?side2 A275.out).mono ?_); (case side1 => exact rC HO_547001); (case side2 => exact (Kd.R_reads' HO_547001.out).2.1); rintro e w304 ⟨rfl, hb⟩; refine ⟨_, rfl, ?_⟩; replace HO_4 := kR HO_4 hb; replace HO_547001 := kR HO_547001 hb; replace HO_564001 := kR HO_564001 hb; replace BK546 := kB BK546 hb; replace BK563 := kB BK563 hb; replace HB := kH HB hb; clear hb))
                      go_roundg kj242
                      case measure => have := HJ18.out; have := HK2.out; have := HJ242.out; omega
                      case rel => exact ⟨(x30_2), (wrap64 (x31_2 + 1)), (by first | rfl | (simp; done) | (simp [*]; done)), (by first | rfl | (simp; done) | (simp [*]; done)), H', ⟨by have := HJ18.out; have := HK2.out; have := HJ242.out; omega⟩, ⟨by (with_reducible repeat (first | apply Kd.R_alloc | apply Kd.R_drewN | apply Kd.R_drew)); exact HO_4.out⟩, ⟨by (with_reducible repeat (first | apply Kd.R_alloc | apply Kd.R_drewN | apply Kd.R_drew)); exact HO_547001.out⟩, ⟨by (with_reducible repeat (first | apply Kd.R_alloc | apply Kd.R_drewN | apply Kd.R_drew)); exact HO_564001.out⟩, ⟨bW BK546⟩, ⟨bW BK563⟩, ⟨hB_⟩⟩
                  · replace c274 := Bool.eq_false_iff.mpr c274
                    subst c274
                    replace H := ifF H
                    have H' := Aside0.mk H
                    clear H
                    go_wp2
                    go_loopg [32] kj242 (fun kq v32 w' => ∃ (x32_4 : Int), v32 = .int .i64 x32_4 ∧ Aside0 (laws_FnConcepts.l1 kq t547 t562 t564 t565 x30_2 x32_4 t542 t543 t558 t559 = some r) ∧ Aside0 (kq ≤ kj242) ∧ Aside0 (Kd.R k31 31 w' w.heap.size (fun k_ => k_ ≠ gb557 ∧ k_ ≠ gb577 ∧ k_ ≠ gb581 ∧ k_ ≠ gb591 ∧ k_ ≠ gb595 ∧ k_ ≠ gb599 ∧ k_ ≠ gb603 ∧ k_ ≠ gb606) v548 t547) ∧ Aside0 (Kd.R (Kd.int .i64) 3 w' w.heap.size (ofs []) (.slice Ao23 t543.length co23) t543) ∧ Aside0 (Kd.R (Kd.int .i64) 3 w' w.heap.size (ofs []) (.slice Ao40 t559.length co40) t559) ∧ Aside0 (w'.heap[gb546]? = some (.cells #[.int .i64 t542, (.slice Ao23 t543.length co23)] 26 (0, 0))) ∧ Aside0 (w'.heap[gb563]? = some (.cells #[.int .i64 t558, (.slice Ao40 t559.length co40)] 26 (0, 0))) ∧ Aside0 (Below w.heap.size w w'))
                    case atStart => exact ⟨(0), (by first | rfl | (simp; done) | (simp [*]; done)), H', ⟨Nat.le_refl _⟩, ⟨by (with_reducible repeat (first | apply Kd.R_alloc | apply Kd.R_drewN | apply Kd.R_drew)); exact HO_4.out⟩, ⟨by (with_reducible repeat (first | apply Kd.R_alloc | apply Kd.R_drewN | apply Kd.R_drew)); exact HO_547001.out⟩, ⟨by (with_reducible repeat (first | apply Kd.R_alloc | apply Kd.R_drewN | apply Kd.R_drew)); exact HO_564001.out⟩, ⟨bW BK546⟩, ⟨bW BK563⟩, ⟨hB_⟩⟩
                    case round =>
                      clear H'
                      try clear c1
                      try clear c2
                      try clear p2
                      try clear c3
                      try clear p6
                      try clear c15
                      try clear c20
                      try clear c21
                      try clear c24
                      try clear c25
                      try clear c26
                      try clear c27
                      try clear c28
                      try clear c29
                      try clear c30
                      try clear p64
                      try clear c151
                      try clear c242
                      try clear c245
                      try clear c245b0
                      try clear c247
                      try clear c248
                      try clear c249
                      try clear c250
                      try clear c251
                      try clear c252
                      try clear c253
                      try clear c254
                      try clear c255
                      try clear c256
                      try clear c257
                      try clear c258
                      try clear c261
                      try clear c262
                      try clear c263
                      try clear c264
                      try clear c265
                      try clear c266
                      try clear c267
                      try clear c268
                      try clear c269
                      try clear c270
                      try clear c271
                      try clear c272
                      try clear c274
                      try clear c276
                      try clear c277
                      try clear c278
                      try clear c279
                      try clear c280
                      try clear c281
                      try clear c282
                      try clear c283
                      try clear c284
                      try clear c285
                      try clear c286
                      try clear c287
                      try clear c288
                      try clear c291
                      try clear c292
                      try clear c293
                      try clear c294
                      try clear c295
                      try clear c296
                      try clear c297
                      try clear c298
                      try clear c299
                      try clear c300
                      try clear c301
                      try clear c302
                      try clear hcz259_0
                      try clear hcz259_1
                      try clear hcz273_0
                      try clear hcz273_1
                      try clear hcz289_0
                      try clear hcz289_1
                      try clear hcz303_0
                      try clear hcz303_1
                      try clear hfz259_0
                      try clear hfz259_1
                      try clear hfz273_0
                      try clear hfz273_1
                      try clear hfz289_0
                      try clear hfz289_1
                      try clear hfz303_0
                      try clear hfz303_1
                      try clear p2
                      try clear BK546; try clear BK563; try clear HO545; try clear HO549; try clear HO553; try clear HO561; try clear HO571; try clear HO585; try clear HO_4; try clear HO_547001; try clear HO_564001
                      obtain ⟨x32_4, rfl, HA, HK4, HO_4, HO_547001, HO_564001, BK546, BK563, HB⟩ := hrel
                      cases gk with
                      | zero => exact absurd HA.out (by simp [laws_FnConcepts.l1])
                      | succ k4 =>
                        have H := HA.out
                        clear HA
                        simp only [laws_FnConcepts.l1] at H
                        by_cases c305 : x32_4 < (t547.length : Int)
                        · rw [if_pos c305] at H
                          have c305b0 : decide (x32_4 < (t547.length : Int)) = true := decide_eq_true c305
                          clear c305
                          by_cases c306 : 0 ≤ x32_4
                          · rw [if_pos c306] at H
                            have c306b0 : decide (0 ≤ x32_4) = true := decide_eq_true c306
                            clear c306
                            replace H := aB H
                            obtain ⟨t621, A307, H⟩ := H
                            by_cases c308 : t621 = true
                            · subst c308
                              replace H := ifT H
                              by_cases c309 : x32_4 > 0
                              · rw [if_pos c309] at H
                                have c309b0 : decide (0 < x32_4) = true := decide_eq_true c309
                                clear c309
                                obtain ⟨ji310, hji310⟩ : ∃ j_ : Int, (wrap64 (x32_4 - 1)) = j_ := ⟨_, rfl⟩
                                replace H : (if 0 ≤ (ji310) then (if (ji310) < (t547.length : Int) then ((spec_BeforeSet.f ((rd_T31 t547 (ji310)).f1) ((rd_T31 t547 x32_4).f1)).bind fun t624 => (if t624 = true then (laws_FnConcepts.l1 k4 t547 t562 t564 t565 x30_2 (wrap64 (x32_4 + 1)) t542 t543 t558 t559) else (some false))) else (none)) else (none)) = some r := by first | (rw [hji310] at H; exact H) | (simp only [hji310] at H ⊢; exact H)
                                (try rw [hji310] at A307)
                                have hji310w : (IntKind.i64.wrap (x32_4 - 1)) = ji310 := (i64_w _).trans hji310
                                by_cases c311 : 0 ≤ (ji310)
                                · rw [if_pos c311] at H
                                  have c311b0 : decide (0 ≤ (ji310)) = true := decide_eq_true c311
                                  clear c311
                                  by_cases c312 : (ji310) < (t547.length : Int)
                                  · rw [if_pos c312] at H
                                    have c312b0 : decide ((ji310) < (t547.length : Int)) = true := decide_eq_true c312
                                    clear c312
                                    replace H := aB H
                                    obtain ⟨t624, A313, H⟩ := H
                                    by_cases c314 : t624 = true
                                    · subst c314
                                      replace H := ifT H
                                      have H' := Aside0.mk H
                                      clear H
                                      obtain ⟨Ao315, co315, eo315⟩ := Kd.R_slice HO_4.out
                                      subst eo315
                                      try go_wp2
                                      replace HO_4 := Aside0.mk (Kd.R_drew HO_4.out)
                                      replace HO_547001 := Aside0.mk (Kd.R_drew HO_547001.out)
                                      replace HO_564001 := Aside0.mk (Kd.R_drew HO_564001.out)
                                      replace BK546 := Aside0.mk (blk_drew BK546.out)
                                      replace BK563 := Aside0.mk (blk_drew BK563.out)
                                      replace HB := Aside0.mk (below_drew1 HB.out)
                                      have p620 : 0 ≤ (x32_4 : Int) := of_decide_eq_true (by first | (with_reducible assumption) | assumption)
                                      have q620 : x32_4 < (t547.length : Int) := of_decide_eq_true (by first | (with_reducible assumption) | assumption)
                                      obtain ⟨ad620, e620, hx620_0, hx620_1⟩ := at_T31 (Kd.R_reads' HO_4.out).2.2 x32_4 p620 q620
                                      cases e620
                                      replace p620 := eq_true p620
                                      replace q620 := eq_true q620
                                      have p622 : 0 ≤ ((ji310) : Int) := of_decide_eq_true (by first | (with_reducible assumption) | assumption)
                                      have q622 : (ji310) < (t547.length : Int) := of_decide_eq_true (by first | (with_reducible assumption) | assumption)
                                      obtain ⟨ad622, e622, hx622_0, hx622_1⟩ := at_T31 (Kd.R_reads' HO_4.out).2.2 (ji310) p622 q622
                                      obtain rfl : ad620 = ad622 := (by injection e622)
                                      replace p622 := eq_true p622
                                      replace q622 := eq_true q622
                                      have p623 : 0 ≤ (x32_4 : Int) := of_decide_eq_true (by first | (with_reducible assumption) | assumption)
                                      have q623 : x32_4 < (t547.length : Int) := of_decide_eq_true (by first | (with_reducible assumption) | assumption)
                                      obtain ⟨ad623, e623, hx623_0, hx623_1⟩ := at_T31 (Kd.R_reads' HO_4.out).2.2 x32_4 p623 q623
                                      obtain rfl : ad620 = ad623 := (by injection e623)
                                      replace p623 := eq_true p623
                                      replace q623 := eq_true q623
                                      refine start_ (n := 26) (S := fun w' => w'.cell? ⟨gb546, 0, none⟩ = some (.int .i64 t542) ∧ w'.cell? ⟨gb546, 1, none⟩ = some (.slice Ao23 t543.length co23) ∧ w'.cell? (ad620.add ((x32_4).toNat * 2)) = some (.int .i64 ((rd_T31 t547 x32_4).f0)) ∧ w'.cell? ⟨(ad620.add ((x32_4).toNat * 2)).block, (ad620.add ((x32_4).toNat * 2)).off + 1, none⟩ = some (.int .i64 ((rd_T31 t547 x32_4).f1)) ∧ w'.cell? (ad620.add (((ji310)).toNat * 2)) = some (.int .i64 ((rd_T31 t547 (ji310)).f0)) ∧ w'.cell? ⟨(ad620.add (((ji310)).toNat * 2)).block, (ad620.add (((ji310)).toNat * 2)).off + 1, none⟩ = some (.int .i64 ((rd_T31 t547 (ji310)).f1)) ∧ w'.cell? (ad620.add ((x32_4).toNat * 2)) = some (.int .i64 ((rd_T31 t547 x32_4).f0)) ∧ w'.cell? ⟨(ad620.add ((x32_4).toNat * 2)).block, (ad620.add ((x32_4).toNat * 2)).off + 1, none⟩ = some (.int .i64 ((rd_T31 t547 x32_4).f1))) (ds := []) #[false,false,false,false,false,false,false,false,false,false,false,false,false,false,false,false,false,false,false,false,false,false,false,false,false,false] (by kernel_rfl) rfl rfl ⟨(blk_cell BK546.out 0).trans rfl, (blk_cell BK546.out 1).trans rfl, hx620_0, hx620_1, hx622_0, hx622_1, hx623_0, hx623_1⟩ (fun hHeld => ?_); refine with_tabW laws_FnConcepts.tab29 laws_FnConcepts.bits29 (fun HT_ HW_ => ?_)
                                      generalize wr.drew = w316 at HO_4 HO_547001 HO_564001 BK546 BK563 HB hx620_0 hx620_1 hx622_0 hx622_1 hx623_0 hx623_1 hHeld ⊢
                                      refine pure_ (i := 1) (N := some 193) (v := ?_) (a' := ?_) (nb 26 2) rfl rfl (any_of HT_.out (by kernel_rfl)) (fun _ _ _ h => h) (Or.inl ⟨by rfl, ?_⟩) ?_ ?_
                                      rotate_left
                                      · intro w'
                                        go_simp
                                        with_reducible rfl
                                      rotate_left
                                      · simp only [Act.put, setIfInBounds_toArray, set_cons_zero, set_cons_succ, i64_w, i32_w]
                                        rfl
                                      refine pure_ (i := 2) (N := some 194) (v := ?_) (a' := ?_) (nb 26 6) rfl rfl (any_of HT_.out (by kernel_rfl)) (fun _ _ _ h => h) (Or.inl ⟨by rfl, ?_⟩) ?_ ?_
                                      rotate_left
                                      · intro w'
                                        go_simp
                                        with_reducible rfl
                                      rotate_left
                                      · simp only [Act.put, setIfInBounds_toArray, set_cons_zero, set_cons_succ, i64_w, i32_w]
                                        rfl
                                      refine pure_ (i := 3) (N := some 195) (v := ?_) (a' := ?_) (nb 26 14) rfl rfl (any_of HT_.out (by kernel_rfl)) (fun _ _ _ h => h) (Or.inl ⟨by rfl, ?_⟩) ?_ ?_
                                      rotate_left
                                      · intro w'
                                        go_simp
                                        with_reducible rfl
                                      rotate_left
                                      · simp only [Act.put, setIfInBounds_toArray, set_cons_zero, set_cons_succ, i64_w, i32_w]
                                        rfl
                                      refine take_ (i := 0) (N := some 192) (v := ?_) (a' := ?_) (nb 26 15) rfl rfl (take_ofW HT_.out HW_.out (by kernel_rfl)) (fun _ _ _ h => h) (Or.inl ⟨by rfl, ?_⟩) hHeld ?_ ?_
                                      rotate_left
                                      · rintro w' ⟨s0, s1, s2, s3, s4, s5, s6, s7⟩
                                        go_simp
                                        with_reducible rfl
                                      rotate_left
                                      · simp only [Act.put, setIfInBounds_toArray, set_cons_zero, set_cons_succ, i64_w, i32_w]
                                        rfl
                                      refine take_ (i := 4) (N := some 196) (v := ?_) (a' := ?_) (nb 26 31) rfl rfl (take_ofW HT_.out HW_.out (by kernel_rfl)) (fun _ _ _ h => h) (Or.inl ⟨by rfl, ?_⟩) hHeld ?_ ?_
                                      rotate_left
                                      · rintro w' ⟨s0, s1, s2, s3, s4, s5, s6, s7⟩
                                        go_simp
                                        with_reducible rfl
                                      rotate_left
                                      · simp only [Act.put, setIfInBounds_toArray, set_cons_zero, set_cons_succ, i64_w, i32_w]
                                        rfl
                                      refine one_ (i := 5) (N := some 197) (nb 26 63) rfl rfl (one_of HT_.out (by kernel_rfl)) (by decide) (fun K hK => ?_)
                                      refine goes_ Tryz.func22 (by kernel_rfl) rfl #[.agg #[.int .i64 t542, .slice Ao23 t543.length co23], .agg #[.int .i64 ((rd_T31 t547 x32_4).f0), .int .i64 ((rd_T31 t547 x32_4).f1)]] (by rfl) rfl rfl gL_ ?_
                                      with_reducible refine (impl_IsConcept.calls k4 t542 _ _ t543 ((rd_T31 t547 x32_4).f0) ((rd_T31 t547 x32_4).f1) true _ ?side1 ?side2 A307.out).mono ?_
                                      (case side1 => exact rC HO_547001)
                                      (case side2 => exact (Kd.R_reads' HO_547001.out).2.1)
                                      rintro e w317 ⟨rfl, hb⟩
                                      have HS2_ := (hb.cell (World.block_lt_of_cell? _ _ (hHeld.2.2.1))).trans (hHeld.2.2.1)
                                      have HS3_ := (hb.cell (World.block_lt_of_cell? _ _ (hHeld.2.2.2.1))).trans (hHeld.2.2.2.1)
                                      have HS4_ := (hb.cell (World.block_lt_of_cell? _ _ (hHeld.2.2.2.2.1))).trans (hHeld.2.2.2.2.1)
                                      have HS5_ := (hb.cell (World.block_lt_of_cell? _ _ (hHeld.2.2.2.2.2.1))).trans (hHeld.2.2.2.2.2.1)
                                      have HS6_ := (hb.cell (World.block_lt_of_cell? _ _ (hHeld.2.2.2.2.2.2.1))).trans (hHeld.2.2.2.2.2.2.1)
                                      have HS7_ := (hb.cell (World.block_lt_of_cell? _ _ (hHeld.2.2.2.2.2.2.2))).trans (hHeld.2.2.2.2.2.2.2)
                                      refine ⟨_, rfl, ?_⟩
                                      replace HO_4 := kR HO_4 hb
                                      replace HO_547001 := kR HO_547001 hb
                                      replace HO_564001 := kR HO_564001 hb
                                      replace BK546 := kB BK546 hb
                                      replace BK563 := kB BK563 hb
                                      replace HB := kH HB hb
                                      (try clear hb)
                                      (try clear hb2)
                                      (try clear hk)
                                      (try clear hi)
                                      refine hK.out _ _ ⟨(blk_cell BK546.out 0).trans rfl, (blk_cell BK546.out 1).trans rfl, HS2_, HS3_, HS4_, HS5_, HS6_, HS7_⟩ (fun hHeld => ?_)
                                      clear hK K
                                      refine norm_ (a' := ?_) ?_ ?_
                                      rotate_left
                                      · show Act.put _ (some 197) _ = _
                                        simp only [Act.put, setIfInBounds_toArray, set_cons_zero, set_cons_succ, i64_w, i32_w]
                                        rfl
                                      refine pure_ (i := 6) (N := some 198) (v := ?_) (a' := ?_) (nb 26 127) rfl rfl (any_of HT_.out (by kernel_rfl)) (fun _ _ _ h => h) (Or.inl ⟨by rfl, ?_⟩) ?_ ?_
                                      rotate_left
                                      · intro w'
                                        go_simp
                                        with_reducible rfl
                                      rotate_left
                                      · simp only [Act.put, setIfInBounds_toArray, set_cons_zero, set_cons_succ, i64_w, i32_w]
                                        rfl
                                      refine pure_ (i := 7) (N := some 199) (v := ?_) (a' := ?_) (nb 26 255) rfl rfl (any_of HT_.out (by kernel_rfl)) (fun _ _ _ h => h) (Or.inl ⟨by rfl, ?_⟩) ?_ ?_
                                      rotate_left
                                      · intro w'
                                        go_simp
                                        with_reducible rfl
                                      rotate_left
                                      · simp only [Act.put, setIfInBounds_toArray, set_cons_zero, set_cons_succ, i64_w, i32_w]
                                        rfl
                                      refine pure_ (i := 8) (N := some 200) (v := ?_) (a' := ?_) (nb 26 511) rfl rfl (any_of HT_.out (by kernel_rfl)) (fun _ _ _ h => h) (Or.inl ⟨by rfl, ?_⟩) ?_ ?_
                                      rotate_left
                                      · intro w'
                                        go_simp
                                        with_reducible rfl
                                      rotate_left
                                      · simp only [Act.put, setIfInBounds_toArray, set_cons_zero, set_cons_succ, i64_w, i32_w]
                                        rfl
                                      refine pure_ (i := 9) (N := some 201) (v := ?_) (a' := ?_) (nb 26 1023) rfl rfl (any_of HT_.out (by kernel_rfl)) (fun _ _ _ h => h) (Or.inl ⟨by rfl, ?_⟩) ?_ ?_
                                      rotate_left
                                      · intro w'
                                        go_simp
                                        with_reducible rfl
                                      rotate_left
                                      · simp only [Act.put, setIfInBounds_toArray, set_cons_zero, set_cons_succ, i64_w, i32_w]
                                        rfl
                                      refine pure_ (i := 10) (N := some 202) (v := ?_) (a' := ?_) (nb 26 2047) rfl rfl (any_of HT_.out (by kernel_rfl)) (fun _ _ _ h => h) (Or.inl ⟨by rfl, ?_⟩) ?_ ?_
                                      rotate_left
                                      · intro w'
                                        go_simp
                                        with_reducible rfl
                                      rotate_left
                                      · simp only [Act.put, setIfInBounds_toArray, set_cons_zero, set_cons_succ, i64_w, i32_w]
                                        rfl
                                      refine pure_ (i := 11) (N := some 203) (v := ?_) (a' := ?_) (nb 26 4095) rfl rfl (any_of HT_.out (by kernel_rfl)) (fun _ _ _ h => h) (Or.inl ⟨by rfl, ?_⟩) ?_ ?_
                                      rotate_left
                                      · intro w'
                                        go_simp
                                        with_reducible rfl
                                      rotate_left
                                      · simp only [Act.put, setIfInBounds_toArray, set_cons_zero, set_cons_succ, i64_w, i32_w]
                                        rfl
                                      refine pure_ (i := 12) (N := some 204) (v := ?_) (a' := ?_) (nb 26 8191) rfl rfl (any_of HT_.out (by kernel_rfl)) (fun _ _ _ h => h) (Or.inl ⟨by rfl, ?_⟩) ?_ ?_
                                      rotate_left
                                      · intro w'
                                        go_simp
                                        with_reducible rfl
                                      rotate_left
                                      · simp only [Act.put, setIfInBounds_toArray, set_cons_zero, set_cons_succ, i64_w, i32_w]
                                        rfl
                                      refine pure_ (i := 13) (N := some 205) (v := ?_) (a' := ?_) (nb 26 16383) rfl rfl (any_of HT_.out (by kernel_rfl)) (fun _ _ _ h => h) (Or.inl ⟨by rfl, ?_⟩) ?_ ?_
                                      rotate_left
                                      · intro w'
                                        go_simp
                                        with_reducible rfl
                                      rotate_left
                                      · simp only [Act.put, setIfInBounds_toArray, set_cons_zero, set_cons_succ, i64_w, i32_w]
                                        rfl
                                      refine pure_ (i := 14) (N := some 206) (v := ?_) (a' := ?_) (nb 26 32767) rfl rfl (any_of HT_.out (by kernel_rfl)) (fun _ _ _ h => h) (Or.inl ⟨by rfl, ?_⟩) ?_ ?_
                                      rotate_left
                                      · intro w'
                                        go_simp
                                        with_reducible rfl
                                      rotate_left
                                      · simp only [Act.put, setIfInBounds_toArray, set_cons_zero, set_cons_succ, i64_w, i32_w]
                                        rfl
                                      refine pure_ (i := 15) (N := some 207) (v := ?_) (a' := ?_) (nb 26 65535) rfl rfl (any_of HT_.out (by kernel_rfl)) (fun _ _ _ h => h) (Or.inl ⟨by rfl, ?_⟩) ?_ ?_
                                      rotate_left
                                      · intro w'
                                        go_simp
                                        with_reducible rfl
                                      rotate_left
                                      · simp only [Act.put, setIfInBounds_toArray, set_cons_zero, set_cons_succ, i64_w, i32_w]
                                        rfl
                                      refine pure_ (i := 17) (N := some 209) (v := ?_) (a' := ?_) (nb 26 196607) rfl rfl (any_of HT_.out (by kernel_rfl)) (fun _ _ _ h => h) (Or.inl ⟨by rfl, ?_⟩) ?_ ?_
                                      rotate_left
                                      · intro w'
                                        go_simp
                                        with_reducible rfl
                                      rotate_left
                                      · simp only [Act.put, setIfInBounds_toArray, set_cons_zero, set_cons_succ, i64_w, i32_w]
                                        rfl
                                      refine pure_ (i := 18) (N := some 210) (v := ?_) (a' := ?_) (nb 26 458751) rfl rfl (any_of HT_.out (by kernel_rfl)) (fun _ _ _ h => h) (Or.inl ⟨by rfl, ?_⟩) ?_ ?_
                                      rotate_left
                                      · intro w'
                                        go_simp
                                        with_reducible rfl
                                      rotate_left
                                      · simp only [Act.put, setIfInBounds_toArray, set_cons_zero, set_cons_succ, i64_w, i32_w]
                                        rfl
                                      refine pure_ (i := 19) (N := some 211) (v := ?_) (a' := ?_) (nb 26 983039) rfl rfl (any_of HT_.out (by kernel_rfl)) (fun _ _ _ h => h) (Or.inl ⟨by rfl, ?_⟩) ?_ ?_
                                      rotate_left
                                      · intro w'
                                        go_simp
                                        with_reducible rfl
                                      rotate_left
                                      · simp only [Act.put, setIfInBounds_toArray, set_cons_zero, set_cons_succ, i64_w, i32_w]
                                        rfl
                                      refine pure_ (i := 20) (N := some 212) (v := ?_) (a' := ?_) (nb 26 2031615) rfl rfl (any_of HT_.out (by kernel_rfl)) (fun _ _ _ h => h) (Or.inl ⟨by rfl, ?_⟩) ?_ ?_
                                      rotate_left
                                      · intro w'
                                        go_simp
                                        with_reducible rfl
                                      rotate_left
                                      · simp only [Act.put, setIfInBounds_toArray, set_cons_zero, set_cons_succ, i64_w, i32_w]
                                        rfl
                                      refine take_ (i := 16) (N := some 208) (v := ?_) (a' := ?_) (nb 26 2097151) rfl rfl (take_ofW HT_.out HW_.out (by kernel_rfl)) (fun _ _ _ h => h) (Or.inl ⟨by rfl, ?_⟩) hHeld ?_ ?_
                                      rotate_left
                                      · rintro w' ⟨s0, s1, s2, s3, s4, s5, s6, s7⟩
                                        go_simp
                                        with_reducible rfl
                                      rotate_left
                                      · simp only [Act.put, setIfInBounds_toArray, set_cons_zero, set_cons_succ, i64_w, i32_w]
                                        rfl
                                      refine take_ (i := 21) (N := some 213) (v := ?_) (a' := ?_) (nb 26 4194303) rfl rfl (take_ofW HT_.out HW_.out (by kernel_rfl)) (fun _ _ _ h => h) (Or.inl ⟨by rfl, ?_⟩) hHeld ?_ ?_
                                      rotate_left
                                      · rintro w' ⟨s0, s1, s2, s3, s4, s5, s6, s7⟩
                                        go_simp
                                        with_reducible rfl
                                      rotate_left
                                      · simp only [Act.put, setIfInBounds_toArray, set_cons_zero, set_cons_succ, i64_w, i32_w]
                                        rfl
                                      refine one_ (i := 22) (N := some 214) (nb 26 8388607) rfl rfl (one_of HT_.out (by kernel_rfl)) (by decide) (fun K hK => ?_)
                                      refine goes_ Tryz.func29 (by kernel_rfl) rfl #[.int .i64 ((rd_T31 t547 (ji310)).f1), .int .i64 ((rd_T31 t547 x32_4).f1)] (by rfl) rfl rfl (by (try simp only [List.map_toArray, List.map_cons, List.map_nil]); first | done | (simp only [hji310]; rfl) | rfl | (simp only [List.length_drop, List.length_take]; rfl)) ?_
                                      with_reducible refine (spec_BeforeSet.calls ((rd_T31 t547 (ji310)).f1) ((rd_T31 t547 x32_4).f1) true _ A313.out).mono ?_
                                      rintro e w' ⟨rfl, ⟨nd, rfl⟩⟩
                                      refine ⟨_, rfl, ?_⟩
                                      refine hK.out _ _ ⟨(blk_cell BK546.out 0).trans rfl, (blk_cell BK546.out 1).trans rfl, hHeld.2.2.1, hHeld.2.2.2.1, hHeld.2.2.2.2.1, hHeld.2.2.2.2.2.1, hHeld.2.2.2.2.2.2.1, hHeld.2.2.2.2.2.2.2⟩ (fun hHeld => ?_)
                                      clear hK K
                                      refine norm_ (a' := ?_) ?_ ?_
                                      rotate_left
                                      · show Act.put _ (some 214) _ = _
                                        simp only [Act.put, setIfInBounds_toArray, set_cons_zero, set_cons_succ, i64_w, i32_w]
                                        rfl
                                      refine pure_ (i := 23) (N := some 215) (v := ?_) (a' := ?_) (nb 26 16777215) rfl rfl (any_of HT_.out (by kernel_rfl)) (fun _ _ _ h => h) (Or.inl ⟨by rfl, ?_⟩) ?_ ?_
                                      rotate_left
                                      · intro w'
                                        go_simp
                                        with_reducible rfl
                                      rotate_left
                                      · simp only [Act.put, setIfInBounds_toArray, set_cons_zero, set_cons_succ, i64_w, i32_w]
                                        rfl
                                      refine pure_ (i := 24) (N := some 216) (v := ?_) (a' := ?_) (nb 26 33554431) rfl rfl (any_of HT_.out (by kernel_rfl)) (fun _ _ _ h => h) (Or.inl ⟨by rfl, ?_⟩) ?_ ?_
                                      rotate_left
                                      · intro w'
                                        go_simp
                                        with_reducible rfl
                                      rotate_left
                                      · simp only [Act.put, setIfInBounds_toArray, set_cons_zero, set_cons_succ, i64_w, i32_w]
                                        rfl
                                      refine pure_ (i := 25) (N := some 217) (v := ?_) (a' := ?_) (nb 26 67108863) rfl rfl (any_of HT_.out (by kernel_rfl)) (fun _ _ _ h => h) (Or.inl ⟨by rfl, ?_⟩) ?_ ?_
                                      rotate_left
                                      · intro w'
                                        go_simp
                                        with_reducible rfl
                                      rotate_left
                                      · simp only [Act.put, setIfInBounds_toArray, set_cons_zero, set_cons_succ, i64_w, i32_w]
                                        rfl
                                      refine done_ (done_of HT_.out (by kernel_rfl)) ?_
                                      try go_wp2
                                      go_roundg k4
                                      case measure => have := HJ18.out; have := HK2.out; have := HJ242.out; have := HK4.out; omega
                                      case rel => exact ⟨(wrap64 (x32_4 + 1)), (by first | rfl | (simp; done) | (simp [*]; done)), H', ⟨by have := HJ18.out; have := HK2.out; have := HJ242.out; have := HK4.out; omega⟩, ⟨by (with_reducible repeat (first | apply Kd.R_alloc | apply Kd.R_drewN | apply Kd.R_drew)); exact HO_4.out⟩, ⟨by (with_reducible repeat (first | apply Kd.R_alloc | apply Kd.R_drewN | apply Kd.R_drew)); exact HO_547001.out⟩, ⟨by (with_reducible repeat (first | apply Kd.R_alloc | apply Kd.R_drewN | apply Kd.R_drew)); exact HO_564001.out⟩, ⟨bW BK546⟩, ⟨bW BK563⟩, ⟨hB_⟩⟩
                                    · replace c314 := Bool.eq_false_iff.mpr c314
                                      subst c314
                                      replace H := ifF H
                                      exact absurd (Option.some.inj H) (by rw [HRR.out]; decide)
                                  · rw [if_neg c312] at H
                                    exact absurd H (by simp)
                                · rw [if_neg c311] at H
                                  exact absurd H (by simp)
                              · rw [if_neg c309] at H
                                have c309b0 : decide (0 < x32_4) = false := decide_eq_false c309
                                clear c309
                                have H' := Aside0.mk H
                                clear H
                                obtain ⟨Ao321, co321, eo321⟩ := Kd.R_slice HO_4.out
                                subst eo321
                                try go_wp2
                                replace HO_4 := Aside0.mk (Kd.R_drew HO_4.out)
                                replace HO_547001 := Aside0.mk (Kd.R_drew HO_547001.out)
                                replace HO_564001 := Aside0.mk (Kd.R_drew HO_564001.out)
                                replace BK546 := Aside0.mk (blk_drew BK546.out)
                                replace BK563 := Aside0.mk (blk_drew BK563.out)
                                replace HB := Aside0.mk (below_drew1 HB.out)
                                have p620 : 0 ≤ (x32_4 : Int) := of_decide_eq_true (by first | (with_reducible assumption) | assumption)
                                have q620 : x32_4 < (t547.length : Int) := of_decide_eq_true (by first | (with_reducible assumption) | assumption)
                                obtain ⟨ad620, e620, hx620_0, hx620_1⟩ := at_T31 (Kd.R_reads' HO_4.out).2.2 x32_4 p620 q620
                                cases e620
                                replace p620 := eq_true p620
                                replace q620 := eq_true q620
                                refine start_ (n := 26) (S := fun w' => w'.cell? ⟨gb546, 0, none⟩ = some (.int .i64 t542) ∧ w'.cell? ⟨gb546, 1, none⟩ = some (.slice Ao23 t543.length co23) ∧ w'.cell? (ad620.add ((x32_4).toNat * 2)) = some (.int .i64 ((rd_T31 t547 x32_4).f0)) ∧ w'.cell? ⟨(ad620.add ((x32_4).toNat * 2)).block, (ad620.add ((x32_4).toNat * 2)).off + 1, none⟩ = some (.int .i64 ((rd_T31 t547 x32_4).f1))) (ds := []) #[false,false,false,false,false,false,false,false,false,false,false,false,false,false,false,false,false,false,false,false,false,false,false,false,false,false] (by kernel_rfl) rfl rfl ⟨(blk_cell BK546.out 0).trans rfl, (blk_cell BK546.out 1).trans rfl, hx620_0, hx620_1⟩ (fun hHeld => ?_); refine with_tabW laws_FnConcepts.tab29 laws_FnConcepts.bits29 (fun HT_ HW_ => ?_)
                                generalize wr.drew = w322 at HO_4 HO_547001 HO_564001 BK546 BK563 HB hx620_0 hx620_1 hHeld ⊢
                                refine pure_ (i := 1) (N := some 193) (v := ?_) (a' := ?_) (nb 26 2) rfl rfl (any_of HT_.out (by kernel_rfl)) (fun _ _ _ h => h) (Or.inl ⟨by rfl, ?_⟩) ?_ ?_
                                rotate_left
                                · intro w'
                                  go_simp
                                  with_reducible rfl
                                rotate_left
                                · simp only [Act.put, setIfInBounds_toArray, set_cons_zero, set_cons_succ, i64_w, i32_w]
                                  rfl
                                refine pure_ (i := 2) (N := some 194) (v := ?_) (a' := ?_) (nb 26 6) rfl rfl (any_of HT_.out (by kernel_rfl)) (fun _ _ _ h => h) (Or.inl ⟨by rfl, ?_⟩) ?_ ?_
                                rotate_left
                                · intro w'
                                  go_simp
                                  with_reducible rfl
                                rotate_left
                                · simp only [Act.put, setIfInBounds_toArray, set_cons_zero, set_cons_succ, i64_w, i32_w]
                                  rfl
                                refine pure_ (i := 3) (N := some 195) (v := ?_) (a' := ?_) (nb 26 14) rfl rfl (any_of HT_.out (by kernel_rfl)) (fun _ _ _ h => h) (Or.inl ⟨by rfl, ?_⟩) ?_ ?_
                                rotate_left
                                · intro w'
                                  go_simp
                                  with_reducible rfl
                                rotate_left
                                · simp only [Act.put, setIfInBounds_toArray, set_cons_zero, set_cons_succ, i64_w, i32_w]
                                  rfl
                                refine take_ (i := 0) (N := some 192) (v := ?_) (a' := ?_) (nb 26 15) rfl rfl (take_ofW HT_.out HW_.out (by kernel_rfl)) (fun _ _ _ h => h) (Or.inl ⟨by rfl, ?_⟩) hHeld ?_ ?_
                                rotate_left
                                · rintro w' ⟨s0, s1, s2, s3⟩
                                  go_simp
                                  with_reducible rfl
                                rotate_left
                                · simp only [Act.put, setIfInBounds_toArray, set_cons_zero, set_cons_succ, i64_w, i32_w]
                                  rfl
                                refine take_ (i := 4) (N := some 196) (v := ?_) (a' := ?_) (nb 26 31) rfl rfl (take_ofW HT_.out HW_.out (by kernel_rfl)) (fun _ _ _ h => h) (Or.inl ⟨by rfl, ?_⟩) hHeld ?_ ?_
                                rotate_left
                                · rintro w' ⟨s0, s1, s2, s3⟩
                                  go_simp
                                  with_reducible rfl
                                rotate_left
                                · simp only [Act.put, setIfInBounds_toArray, set_cons_zero, set_cons_succ, i64_w, i32_w]
                                  rfl
                                refine one_ (i := 5) (N := some 197) (nb 26 63) rfl rfl (one_of HT_.out (by kernel_rfl)) (by decide) (fun K hK => ?_)
                                refine goes_ Tryz.func22 (by kernel_rfl) rfl #[.agg #[.int .i64 t542, .slice Ao23 t543.length co23], .agg #[.int .i64 ((rd_T31 t547 x32_4).f0), .int .i64 ((rd_T31 t547 x32_4).f1)]] (by rfl) rfl rfl gL_ ?_
                                with_reducible refine (impl_IsConcept.calls k4 t542 _ _ t543 ((rd_T31 t547 x32_4).f0) ((rd_T31 t547 x32_4).f1) true _ ?side1 ?side2 A307.out).mono ?_
                                (case side1 => exact rC HO_547001)
                                (case side2 => exact (Kd.R_reads' HO_547001.out).2.1)
                                rintro e w323 ⟨rfl, hb⟩
                                have HS2_ := (hb.cell (World.block_lt_of_cell? _ _ (hHeld.2.2.1))).trans (hHeld.2.2.1)
                                have HS3_ := (hb.cell (World.block_lt_of_cell? _ _ (hHeld.2.2.2))).trans (hHeld.2.2.2)
                                refine ⟨_, rfl, ?_⟩
                                replace HO_4 := kR HO_4 hb
                                replace HO_547001 := kR HO_547001 hb
                                replace HO_564001 := kR HO_564001 hb
                                replace BK546 := kB BK546 hb
                                replace BK563 := kB BK563 hb
                                replace HB := kH HB hb
                                (try clear hb)
                                (try clear hb2)
                                (try clear hk)
                                (try clear hi)
                                refine hK.out _ _ ⟨(blk_cell BK546.out 0).trans rfl, (blk_cell BK546.out 1).trans rfl, HS2_, HS3_⟩ (fun hHeld => ?_)
                                clear hK K
                                refine norm_ (a' := ?_) ?_ ?_
                                rotate_left
                                · show Act.put _ (some 197) _ = _
                                  simp only [Act.put, setIfInBounds_toArray, set_cons_zero, set_cons_succ, i64_w, i32_w]
                                  rfl
                                refine pure_ (i := 6) (N := some 198) (v := ?_) (a' := ?_) (nb 26 127) rfl rfl (any_of HT_.out (by kernel_rfl)) (fun _ _ _ h => h) (Or.inl ⟨by rfl, ?_⟩) ?_ ?_
                                rotate_left
                                · intro w'
                                  go_simp
                                  with_reducible rfl
                                rotate_left
                                · simp only [Act.put, setIfInBounds_toArray, set_cons_zero, set_cons_succ, i64_w, i32_w]
                                  rfl
                                refine pure_ (i := 7) (N := some 199) (v := ?_) (a' := ?_) (nb 26 255) rfl rfl (any_of HT_.out (by kernel_rfl)) (fun _ _ _ h => h) (Or.inl ⟨by rfl, ?_⟩) ?_ ?_
                                rotate_left
                                · intro w'
                                  go_simp
                                  with_reducible rfl
                                rotate_left
                                · simp only [Act.put, setIfInBounds_toArray, set_cons_zero, set_cons_succ, i64_w, i32_w]
                                  rfl
                                refine pure_ (i := 8) (N := some 200) (v := ?_) (a' := ?_) (nb 26 511) rfl rfl (any_of HT_.out (by kernel_rfl)) (fun _ _ _ h => h) (Or.inl ⟨by rfl, ?_⟩) ?_ ?_
                                rotate_left
                                · intro w'
                                  go_simp
                                  with_reducible rfl
                                rotate_left
                                · simp only [Act.put, setIfInBounds_toArray, set_cons_zero, set_cons_succ, i64_w, i32_w]
                                  rfl
                                refine pure_ (i := 9) (N := some 201) (v := ?_) (a' := ?_) (nb 26 1023) rfl rfl (any_of HT_.out (by kernel_rfl)) (fun _ _ _ h => h) (Or.inl ⟨by rfl, ?_⟩) ?_ ?_
                                rotate_left
                                · intro w'
                                  go_simp
                                  with_reducible rfl
                                rotate_left
                                · simp only [Act.put, setIfInBounds_toArray, set_cons_zero, set_cons_succ, i64_w, i32_w]
                                  rfl
                                refine pure_ (i := 10) (N := some 202) (v := ?_) (a' := ?_) (nb 26 2047) rfl rfl (any_of HT_.out (by kernel_rfl)) (fun _ _ _ h => h) (Or.inl ⟨by rfl, ?_⟩) ?_ ?_
                                rotate_left
                                · intro w'
                                  go_simp
                                  with_reducible rfl
                                rotate_left
                                · simp only [Act.put, setIfInBounds_toArray, set_cons_zero, set_cons_succ, i64_w, i32_w]
                                  rfl
                                refine pure_ (i := 11) (N := some 203) (v := undef) (a' := ?_) (nb 26 4095) rfl rfl (any_of HT_.out (by kernel_rfl)) (fun _ _ _ h => h) (Or.inr ⟨by rfl, rfl⟩) ?_ ?_
                                rotate_left
                                · simp only [Act.put, setIfInBounds_toArray, set_cons_zero, set_cons_succ, i64_w, i32_w]
                                  rfl
                                refine pure_ (i := 12) (N := some 204) (v := undef) (a' := ?_) (nb 26 8191) rfl rfl (any_of HT_.out (by kernel_rfl)) (fun _ _ _ h => h) (Or.inr ⟨by rfl, rfl⟩) ?_ ?_
                                rotate_left
                                · simp only [Act.put, setIfInBounds_toArray, set_cons_zero, set_cons_succ, i64_w, i32_w]
                                  rfl
                                refine pure_ (i := 13) (N := some 205) (v := undef) (a' := ?_) (nb 26 16383) rfl rfl (any_of HT_.out (by kernel_rfl)) (fun _ _ _ h => h) (Or.inr ⟨by rfl, rfl⟩) ?_ ?_
                                rotate_left
                                · simp only [Act.put, setIfInBounds_toArray, set_cons_zero, set_cons_succ, i64_w, i32_w]
                                  rfl
                                refine pure_ (i := 14) (N := some 206) (v := undef) (a' := ?_) (nb 26 32767) rfl rfl (any_of HT_.out (by kernel_rfl)) (fun _ _ _ h => h) (Or.inr ⟨by rfl, rfl⟩) ?_ ?_
                                rotate_left
                                · simp only [Act.put, setIfInBounds_toArray, set_cons_zero, set_cons_succ, i64_w, i32_w]
                                  rfl
                                refine pure_ (i := 15) (N := some 207) (v := undef) (a' := ?_) (nb 26 65535) rfl rfl (any_of HT_.out (by kernel_rfl)) (fun _ _ _ h => h) (Or.inr ⟨by rfl, rfl⟩) ?_ ?_
                                rotate_left
                                · simp only [Act.put, setIfInBounds_toArray, set_cons_zero, set_cons_succ, i64_w, i32_w]
                                  rfl
                                refine pure_ (i := 16) (N := some 208) (v := undef) (a' := ?_) (nb 26 131071) rfl rfl (any_of HT_.out (by kernel_rfl)) (fun _ _ _ h => h) (Or.inr ⟨by rfl, rfl⟩) ?_ ?_
                                rotate_left
                                · simp only [Act.put, setIfInBounds_toArray, set_cons_zero, set_cons_succ, i64_w, i32_w]
                                  rfl
                                refine pure_ (i := 17) (N := some 209) (v := undef) (a' := ?_) (nb 26 262143) rfl rfl (any_of HT_.out (by kernel_rfl)) (fun _ _ _ h => h) (Or.inr ⟨by rfl, rfl⟩) ?_ ?_
                                rotate_left
                                · simp only [Act.put, setIfInBounds_toArray, set_cons_zero, set_cons_succ, i64_w, i32_w]
                                  rfl
                                refine pure_ (i := 18) (N := some 210) (v := undef) (a' := ?_) (nb 26 524287) rfl rfl (any_of HT_.out (by kernel_rfl)) (fun _ _ _ h => h) (Or.inr ⟨by rfl, rfl⟩) ?_ ?_
                                rotate_left
                                · simp only [Act.put, setIfInBounds_toArray, set_cons_zero, set_cons_succ, i64_w, i32_w]
                                  rfl
                                refine pure_ (i := 19) (N := some 211) (v := undef) (a' := ?_) (nb 26 1048575) rfl rfl (any_of HT_.out (by kernel_rfl)) (fun _ _ _ h => h) (Or.inr ⟨by rfl, rfl⟩) ?_ ?_
                                rotate_left
                                · simp only [Act.put, setIfInBounds_toArray, set_cons_zero, set_cons_succ, i64_w, i32_w]
                                  rfl
                                refine pure_ (i := 20) (N := some 212) (v := undef) (a' := ?_) (nb 26 2097151) rfl rfl (any_of HT_.out (by kernel_rfl)) (fun _ _ _ h => h) (Or.inr ⟨by rfl, rfl⟩) ?_ ?_
                                rotate_left
                                · simp only [Act.put, setIfInBounds_toArray, set_cons_zero, set_cons_succ, i64_w, i32_w]
                                  rfl
                                refine pure_ (i := 21) (N := some 213) (v := undef) (a' := ?_) (nb 26 4194303) rfl rfl (any_of HT_.out (by kernel_rfl)) (fun _ _ _ h => h) (Or.inr ⟨by rfl, rfl⟩) ?_ ?_
                                rotate_left
                                · simp only [Act.put, setIfInBounds_toArray, set_cons_zero, set_cons_succ, i64_w, i32_w]
                                  rfl
                                refine pure_ (i := 22) (N := some 214) (v := undef) (a' := ?_) (nb 26 8388607) rfl rfl (any_of HT_.out (by kernel_rfl)) (fun _ _ _ h => h) (Or.inr ⟨by rfl, rfl⟩) ?_ ?_
                                rotate_left
                                · simp only [Act.put, setIfInBounds_toArray, set_cons_zero, set_cons_succ, i64_w, i32_w]
                                  rfl
                                refine pure_ (i := 23) (N := some 215) (v := undef) (a' := ?_) (nb 26 16777215) rfl rfl (any_of HT_.out (by kernel_rfl)) (fun _ _ _ h => h) (Or.inr ⟨by rfl, rfl⟩) ?_ ?_
                                rotate_left
                                · simp only [Act.put, setIfInBounds_toArray, set_cons_zero, set_cons_succ, i64_w, i32_w]
                                  rfl
                                refine pure_ (i := 24) (N := some 216) (v := ?_) (a' := ?_) (nb 26 33554431) rfl rfl (any_of HT_.out (by kernel_rfl)) (fun _ _ _ h => h) (Or.inl ⟨by rfl, ?_⟩) ?_ ?_
                                rotate_left
                                · intro w'
                                  go_simp
                                  with_reducible rfl
                                rotate_left
                                · simp only [Act.put, setIfInBounds_toArray, set_cons_zero, set_cons_succ, i64_w, i32_w]
                                  rfl
                                refine pure_ (i := 25) (N := some 217) (v := ?_) (a' := ?_) (nb 26 67108863) rfl rfl (any_of HT_.out (by kernel_rfl)) (fun _ _ _ h => h) (Or.inl ⟨by rfl, ?_⟩) ?_ ?_
                                rotate_left
                                · intro w'
                                  go_simp
                                  with_reducible rfl
                                rotate_left
                                · simp only [Act.put, setIfInBounds_toArray, set_cons_zero, set_cons_succ, i64_w, i32_w]
                                  rfl
                                refine done_ (done_of HT_.out (by kernel_rfl)) ?_
                                try go_wp2
                                go_roundg k4
                                case measure => have := HJ18.out; have := HK2.out; have := HJ242.out; have := HK4.out; omega
                                case rel => exact ⟨(wrap64 (x32_4 + 1)), (by first | rfl | (simp; done) | (simp [*]; done)), H', ⟨by have := HJ18.out; have := HK2.out; have := HJ242.out; have := HK4.out; omega⟩, ⟨by (with_reducible repeat (first | apply Kd.R_alloc | apply Kd.R_drewN | apply Kd.R_drew)); exact HO_4.out⟩, ⟨by (with_reducible repeat (first | apply Kd.R_alloc | apply Kd.R_drewN | apply Kd.R_drew)); exact HO_547001.out⟩, ⟨by (with_reducible repeat (first | apply Kd.R_alloc | apply Kd.R_drewN | apply Kd.R_drew)); exact HO_564001.out⟩, ⟨bW BK546⟩, ⟨bW BK563⟩, ⟨hB_⟩⟩
                            · replace c308 := Bool.eq_false_iff.mpr c308
                              subst c308
                              replace H := ifF H
                              exact absurd (Option.some.inj H) (by rw [HRR.out]; decide)
                          · rw [if_neg c306] at H
                            exact absurd H (by simp)
                        · rw [if_neg c305] at H
                          have c305b0 : decide (x32_4 < (t547.length : Int)) = false := decide_eq_false c305
                          clear c305
                          by_cases c327 : x30_2 = (t547.length : Int)
                          · rw [if_pos c327] at H
                            have c327b0 : (x30_2 == (t547.length : Int)) = true := beq_iff_eq.mpr c327
                            have c327b1 : (x30_2 != (t547.length : Int)) = false := bne_eq_false_iff_eq.mpr c327
                            clear c327
                            by_cases c328 : t565 = true
                            · subst c328
                              replace H := ifT H
                              replace H := aB H
                              obtain ⟨t618, A329, H⟩ := H
                              by_cases c330 : t618 = true
                              · subst c330
                                replace H := ifT H
                                replace H := aB H
                                obtain ⟨t619, A331, H⟩ := H
                                obtain rfl := Option.some.inj H
                                obtain ⟨Ao332, co332, eo332⟩ := Kd.R_slice HO_4.out
                                subst eo332
                                go_wp2_with (first | (go_at_call 29; (with_reducible refine (spec_BeforeSet.calls t562 t564 true _ A329.out).mono ?_); rintro e w' ⟨rfl, ⟨nd, rfl⟩⟩; have hcz345_0 : wr.cell? ⟨gb563, 0, none⟩ = some (.int .i64 t558) := (blk_cell BK563.out 0).trans rfl; have hcz345_1 : wr.cell? ⟨gb563, 1, none⟩ = some (.slice Ao40 t559.length co40) := (blk_cell BK563.out 1).trans rfl; have hfz345_0 := blk_frozen BK563.out 0; have hfz345_1 := blk_frozen BK563.out 1) | (go_at_call 28; (with_reducible refine (spec_IsClosed.calls k4 t558 _ _ t559 t564 t619 _ ?side1 ?side2 A331.out).mono ?_); (case side1 => exact rC HO_564001); (case side2 => exact (Kd.R_reads' HO_564001.out).2.1); rintro e w346 ⟨rfl, hb⟩; clear HO_4 HO_547001 HO_564001 BK546 BK563; replace HB := kH HB hb; clear hb))
                                go_ret
                                exact ⟨eR_, hB_⟩
                              · replace c330 := Bool.eq_false_iff.mpr c330
                                subst c330
                                replace H := ifF H
                                exact absurd (Option.some.inj H) (by rw [HRR.out]; decide)
                            · replace c328 := Bool.eq_false_iff.mpr c328
                              subst c328
                              replace H := ifF H
                              obtain rfl := Option.some.inj H
                              obtain ⟨Ao348, co348, eo348⟩ := Kd.R_slice HO_4.out
                              subst eo348
                              go_wp2
                              go_ret
                              exact ⟨eR_, hB_⟩
                          · rw [if_neg c327] at H
                            have c327b0 : (x30_2 == (t547.length : Int)) = false := beq_eq_false_iff_ne.mpr c327
                            have c327b1 : (x30_2 != (t547.length : Int)) = true := bne_iff_ne.mpr c327
                            obtain rfl := Option.some.inj H
                            obtain ⟨Ao349, co349, eo349⟩ := Kd.R_slice HO_4.out
                            subst eo349
                            go_wp2
                            go_ret
                            exact ⟨eR_, hB_⟩

/-- THE ONE PURE STATEMENT of laws_FnConcepts. -/
def laws_FnConcepts.Pure : Prop := ∀ (l0 : List Int), l0.length ≤ maxLen → (∀ x ∈ l0, (Lit.int .u8 x).wf = true) → ∃ k, laws_FnConcepts.f k l0 = some true

end Go.Proofs.YtodmfdkmmpefpaaGreatDoor.PFnConcepts
