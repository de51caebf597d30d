-- Written by a program of this session (wip/myprint.py), which runs the kit's print with contracts proved by hand; not the kit's own print. Lean checks it.
import Derived.Test.YtgmnmimaeklfeaaGreatDoorPFnContextsx14
namespace Go.Proofs.YtgmnmimaeklfeaaGreatDoor.PFnContexts
open Go.RowKit Go.Proofs.YtgmnmimaeklfeaaGreatDoorW.PrintWords Go.Proofs.YtgmnmimaeklfeaaGreatDoorW.PrintLast Go.Proofs.YtgmnmimaeklfeaaGreatDoorW.PrintMore
attribute [local go_sem] max2_int min2_int max_two min_two max_three min_three max_four min_four   -- for this text's walks alone
set_option linter.unusedVariables false
set_option linter.unusedSimpArgs false

/-! ### laws_FnContexts: function 3 -/
open List (setIfInBounds_toArray set_cons_zero set_cons_succ)
def laws_FnContexts.T14 : Bool × List (List Nat × List Nat) := (true, [([], []), ([], []), ([0, 1], [0, 1]), ([2], [2]), ([3], [3]), ([3], [3]), ([4, 5, 3, 3], [3, 4, 5]), ([6, 3], [3, 6]), ([3, 7], [3, 7]), ([8, 6], [8]), ([9], [9]), ([9], [9]), ([10, 11, 9, 9], [9, 10, 11]), ([9], [9]), ([9], [9]), ([13, 14, 12, 9], [9, 13, 14]), ([12, 15, 9], [9, 12, 15]), ([9, 16], [9, 16]), ([17, 15], [17]), ([18], [18]), ([18], [18]), ([19, 20, 18], [18, 19, 20]), ([18, 21], [18, 21]), ([22, 18], [22]), ([23], [23]), ([23], [23]), ([24, 25, 23, 23], [23, 24, 25]), ([26, 23], [23, 26]), ([23, 27], [23, 27]), ([28, 26], [28]), ([29], [29]), ([29], [29]), ([30, 31, 29, 29], [29, 30, 31]), ([29], [29]), ([29], [29]), ([33, 34, 32, 29], [29, 33, 34]), ([32, 35, 29], [29, 32, 35]), ([29, 36], [29, 36]), ([37, 35], [37]), ([38], [38]), ([38], [38]), ([39, 40, 38], [38, 39, 40]), ([38, 41], [38, 41]), ([42, 38], [42]), ([43], [43]), ([43], [43]), ([44, 45, 43, 43], [43, 44, 45]), ([46, 43], [43, 46]), ([43, 47], [43, 47]), ([48, 46], [48]), ([49], [49]), ([50, 49, 49], [49, 50]), ([49], [49]), ([52, 51, 49], [49, 52]), ([51, 53, 49], [49, 51, 53]), ([49, 54], [49, 54]), ([55, 53], [55]), ([56], [56]), ([57, 56, 56], [56, 57]), ([56], [56]), ([59, 56], [56, 59]), ([60, 56], [56, 60]), ([58, 61, 56], [56, 58, 61]), ([56, 62], [56, 62])])
def laws_FnContexts.B14 : List Nat := [0, 0, 3, 7, 15, 15, 63, 127, 255, 511, 1023, 1023, 4095, 1023, 1023, 32767, 65535, 131071, 262143, 524287, 524287, 2097151, 4194303, 8388607, 16777215, 16777215, 67108863, 134217727, 268435455, 536870911, 1073741823, 1073741823, 4294967295, 1073741823, 1073741823, 34359738367, 68719476735, 137438953471, 274877906943, 549755813887, 549755813887, 2199023255551, 4398046511103, 8796093022207, 17592186044415, 17592186044415, 70368744177663, 140737488355327, 281474976710655, 562949953421311, 1125899906842623, 2251799813685247, 1125899906842623, 9007199254740991, 18014398509481983, 36028797018963967, 72057594037927935, 144115188075855871, 288230376151711743, 144115188075855871, 720575940379279359, 1873497444986126335, 4611686018427387903, 9223372036854775807]
theorem laws_FnContexts.tab14 : rtab .any (opsOf Tryz.f3 14) = laws_FnContexts.T14 := by kernel_rfl
theorem laws_FnContexts.bits14 : waitsOk laws_FnContexts.T14.2 laws_FnContexts.B14 = true := by kernel_rfl
theorem laws_FnContexts.j0_dead (k : Nat) (a0_ : Bool) (a1_ : Bool) (a3_ : Int) (a4_ : List Int) (a5_ : Int) (a6_ : List Int) (a7_ : Int) (a8_ : List Int) (a9_ : Int) (a10_ : List Int) (a11_ : Int) (a12_ : List Int) (h : laws_FnContexts.j0 k a0_ a1_ true a3_ a4_ a5_ a6_ a7_ a8_ a9_ a10_ a11_ a12_ = some true) : False := by cases k <;> simp [laws_FnContexts.j0] at h
theorem laws_FnContexts.j1_dead (k : Nat) (a0_ : Bool) (a1_ : Bool) (a3_ : Int) (a4_ : List Int) (a5_ : Int) (a6_ : List Int) (a7_ : Int) (a8_ : List Int) (a9_ : Int) (a10_ : List Int) (h : laws_FnContexts.j1 k a0_ a1_ true a3_ a4_ a5_ a6_ a7_ a8_ a9_ a10_ = some true) : False := by cases k <;> simp [laws_FnContexts.j1] at h
theorem laws_FnContexts.j2_dead (k : Nat) (a0_ : Bool) (a2_ : Int) (a3_ : List Int) (a4_ : Int) (a5_ : List Int) (h : laws_FnContexts.j2 k a0_ true a2_ a3_ a4_ a5_ = some true) : False := by cases k <;> simp [laws_FnContexts.j2] at h
set_option maxHeartbeats 8000000 in
set_option maxRecDepth 100000 in
theorem laws_FnContexts.calls (k : Nat) (A0 : Option Addr) (c0 : Nat) (l0 : List Int) (r : Bool) (w : World) (hr0 : Kd.C (Kd.int .u8) w A0 l0.length l0) (hc0 : l0.length ≤ c0) (hr_ : r = true) (hrT : TabW w) (h : laws_FnContexts.f k l0 = some r) :
    Calls Tryz.prog 3 #[.slice A0 l0.length c0] w fun e w' => e = .returned (.bool r) ∧ Below w.heap.size w w' := by
  have HRT := Aside0.mk hrT
  clear hrT
  have HRR := Aside0.mk hr_
  clear hr_
  have hu26 := Tryz.underlying26
  have HR0 := Aside0.mk hr0
  have HC0 := Aside0.mk hc0
  clear hr0 hc0
  have HB := Aside0.mk (Below.refl w.heap.size w)
  have H : ((laws_big.f l0).bind fun t521 => (if t521 = true then (some true) else ((spec_DrawDualContext.f k l0).bind fun bt522 => ((impl_DualContext.f k bt522.1 bt522.2).bind fun bt527 => ((spec_DualContext.f k bt522.1 bt522.2).bind fun bt533 => ((spec_DrawColumnOf.f k l0).bind fun bt539 => ((spec_DrawComplementContext.f k l0).bind fun bt545 => ((impl_ComplementContext.f k bt545.1 bt545.2).bind fun bt550 => ((spec_ComplementContext.f k bt545.1 bt545.2).bind fun bt556 => ((spec_DrawEqualContext.f k l0).bind fun bt562 => ((spec_DrawParseContext.f k l0).bind fun t572 => ((impl_ParseContext.f k t572).bind fun bt573 => ((spec_ParseContext.f k t572).bind fun bt579 => (if (bt527.2.2 != bt533.2.2) = true then (laws_FnContexts.j0 k bt527.2.2 bt550.2.2 true bt522.1 bt522.2 bt527.1 bt527.2.1 bt545.1 bt545.2 bt550.1 bt550.2.1 bt562.1 bt562.2.1) else ((spec_EqualContext.f k bt527.1 bt527.2.1 bt533.1 bt533.2.1).bind fun t585 => (if t585 = true then ((impl_ColumnOf.f k bt539.1 bt539.2.1 bt539.2.2).bind fun t586 => ((spec_ColumnOf.f k bt539.1 bt539.2.1 bt539.2.2).bind fun t587 => (if t586 = t587 then (if (bt550.2.2 != bt556.2.2) = true then (laws_FnContexts.j0 k bt527.2.2 bt550.2.2 true bt522.1 bt522.2 bt527.1 bt527.2.1 bt545.1 bt545.2 bt550.1 bt550.2.1 bt562.1 bt562.2.1) else ((spec_EqualContext.f k bt550.1 bt550.2.1 bt556.1 bt556.2.1).bind fun t588 => (if t588 = true then ((impl_EqualContext.f k bt562.1 bt562.2.1 bt562.2.2.1 bt562.2.2.2).bind fun t589 => ((spec_EqualContext.f k bt562.1 bt562.2.1 bt562.2.2.1 bt562.2.2.2).bind fun t590 => (if (t589 != t590) = true then (laws_FnContexts.j0 k bt527.2.2 bt550.2.2 true bt522.1 bt522.2 bt527.1 bt527.2.1 bt545.1 bt545.2 bt550.1 bt550.2.1 bt562.1 bt562.2.1) else (if (bt573.2.2 != bt579.2.2) = true then (laws_FnContexts.j0 k bt527.2.2 bt550.2.2 true bt522.1 bt522.2 bt527.1 bt527.2.1 bt545.1 bt545.2 bt550.1 bt550.2.1 bt562.1 bt562.2.1) else ((spec_EqualContext.f k bt573.1 bt573.2.1 bt579.1 bt579.2.1).bind fun t591 => (if t591 = true then ((impl_IsContext.f bt562.1 bt562.2.1).bind fun t592 => ((spec_IsContext.f k bt562.1 bt562.2.1).bind fun t593 => (if (t592 != t593) = true then (laws_FnContexts.j0 k bt527.2.2 bt550.2.2 true bt522.1 bt522.2 bt527.1 bt527.2.1 bt545.1 bt545.2 bt550.1 bt550.2.1 bt562.1 bt562.2.1) else ((impl_ObjectCount.f bt562.1 bt562.2.1).bind fun t594 => (laws_FnContexts.j0 k bt527.2.2 bt550.2.2 (t594 != (bt562.2.1.length : Int)) bt522.1 bt522.2 bt527.1 bt527.2.1 bt545.1 bt545.2 bt550.1 bt550.2.1 bt562.1 bt562.2.1))))) else (laws_FnContexts.j0 k bt527.2.2 bt550.2.2 true bt522.1 bt522.2 bt527.1 bt527.2.1 bt545.1 bt545.2 bt550.1 bt550.2.1 bt562.1 bt562.2.1))))))) else (laws_FnContexts.j0 k bt527.2.2 bt550.2.2 true bt522.1 bt522.2 bt527.1 bt527.2.1 bt545.1 bt545.2 bt550.1 bt550.2.1 bt562.1 bt562.2.1)))) else (laws_FnContexts.j0 k bt527.2.2 bt550.2.2 true bt522.1 bt522.2 bt527.1 bt527.2.1 bt545.1 bt545.2 bt550.1 bt550.2.1 bt562.1 bt562.2.1)))) else (laws_FnContexts.j0 k bt527.2.2 bt550.2.2 true bt522.1 bt522.2 bt527.1 bt527.2.1 bt545.1 bt545.2 bt550.1 bt550.2.1 bt562.1 bt562.2.1))))))))))))))))) = some r := h
  clear h
  replace H := aB H
  obtain ⟨t521, A2, H⟩ := H
  by_cases c3 : t521 = true
  · subst c3
    replace H := ifT H
    obtain rfl := Option.some.inj H
    go_enter Tryz.func3, Tryz.ntmps3
    go_wp2_with (first | ((with_reducible refine gate_callee (f := 4) rfl ?_); refine goesL_ (some 30) rfl rfl Tryz.func4 (by kernel_rfl) rfl #[.slice A0 l0.length c0] rfl gL_ ?_; (with_reducible refine (laws_big.calls _ _ l0 true _ ?side1 ?side2 A2.out).mono ?_); (case side1 => exact cW HR0.out); (case side2 => exact HC0.out); rintro e w' ⟨rfl, ⟨nd, rfl⟩⟩; refine ⟨_, rfl, ?_⟩))
    go_ret
    exact ⟨eR_, hB_⟩
  · replace c3 := Bool.eq_false_iff.mpr c3
    subst c3
    replace H := ifF H
    replace H := aB H
    obtain ⟨⟨t522, t523⟩, A4, H⟩ := H
    dsimp only at H
    replace H := aB H
    obtain ⟨⟨t527, t528, t531⟩, A5, H⟩ := H
    dsimp only at H
    replace H := aB H
    obtain ⟨⟨t533, t534, t537⟩, A6, H⟩ := H
    dsimp only at H
    replace H := aB H
    obtain ⟨⟨t539, t540, t543⟩, A7, H⟩ := H
    dsimp only at H
    replace H := aB H
    obtain ⟨⟨t545, t546⟩, A8, H⟩ := H
    dsimp only at H
    replace H := aB H
    obtain ⟨⟨t550, t551, t554⟩, A9, H⟩ := H
    dsimp only at H
    replace H := aB H
    obtain ⟨⟨t556, t557, t560⟩, A10, H⟩ := H
    dsimp only at H
    replace H := aB H
    obtain ⟨⟨t562, t563, t566, t567⟩, A11, H⟩ := H
    dsimp only at H
    replace H := aB H
    obtain ⟨t572, A12, H⟩ := H
    replace H := aB H
    obtain ⟨⟨t573, t574, t577⟩, A13, H⟩ := H
    dsimp only at H
    replace H := aB H
    obtain ⟨⟨t579, t580, t583⟩, A14, H⟩ := H
    dsimp only at H
    have HC15 := Aside0.mk H
    clear H
    go_enter Tryz.func3, Tryz.ntmps3
    go_upto_region 14 with (first | ((with_reducible refine gate_callee (f := 4) rfl ?_); refine goesL_ (some 30) rfl rfl Tryz.func4 (by kernel_rfl) rfl #[.slice A0 l0.length c0] rfl gL_ ?_; (with_reducible refine (laws_big.calls _ _ l0 false _ ?side1 ?side2 A2.out).mono ?_); (case side1 => exact cW HR0.out); (case side2 => exact HC0.out); rintro e w' ⟨rfl, ⟨nd, rfl⟩⟩; refine ⟨_, rfl, ?_⟩) | ((with_reducible refine gate_callee (f := 5) rfl ?_); refine goesL_ (some 32) rfl rfl Tryz.func5 (by kernel_rfl) rfl #[.slice A0 l0.length c0] rfl gL_ ?_; (with_reducible refine (spec_DrawDualContext.calls k _ _ l0 t522 t523 _ ?side1 ?side2 A4.out).mono ?_); (case side1 => exact cW HR0.out); (case side2 => exact HC0.out); rintro e w16 ⟨v524, rfl, ho0, hb⟩; refine ⟨_, rfl, ?_⟩; have HO525 := Aside0.mk (Kd.R_lower ho0 (below_size hB_)); replace HB := kH HB hb; clear hb ho0) | ((with_reducible refine gate_dst (N := 3) rfl ?_); (try (refine gate_guard (by rfl) ?_; dsimp only)); refine box_event ?hg (N := 3) ?hd (cs := #[.int .i64 0, .slice none 0 0]) (t := 26) ?hr ?_; (case hd => rfl); (case hg => rfl); (case hr => first | (go_simp; done) | (go_simp; rfl)); intro gb526 hg w17 hbox hb; replace HO525 := kR HO525 hb; have BK526 := Aside0.mk (hbox); have GE526 := kG HB hg; replace HB := kH HB hb; clear hb hbox hg; have hcz18_0 : w17.cell? ⟨gb526, 0, none⟩ = some (.int .i64 0) := (blk_cell BK526.out 0).trans rfl; have hcz18_1 : w17.cell? ⟨gb526, 1, none⟩ = some (.slice none 0 0) := (blk_cell BK526.out 1).trans rfl; have hfz18_0 := blk_frozen BK526.out 0; have hfz18_1 := blk_frozen BK526.out 1; obtain ⟨Ao19, co19, eo19⟩ := Kd.R_slice HO525.out; subst eo19) | ((with_reducible refine gate_callee (f := 6) rfl ?_); refine goesL_ (some 35) rfl rfl Tryz.func6 (by kernel_rfl) rfl #[.agg #[.int .i64 t522, .slice Ao19 t523.length co19]] rfl gL_ ?_; (with_reducible refine (impl_DualContext.calls k t522 _ _ t523 t527 t528 t531 _ ?side1 ?side2 A5.out).mono ?_); (case side1 => exact rC (kT HO525 BK526)); (case side2 => exact (Kd.R_reads' HO525.out).2.1); rintro e w20 ⟨v529, rfl, ho0, hb⟩; refine ⟨_, rfl, ?_⟩; have HO530 := Aside0.mk (Kd.R_lower ho0 (below_size hB_)); replace HO525 := kR (kT HO525 BK526) hb; replace BK526 := kB (kP BK526) hb; replace HB := kH HB hb; clear hb ho0) | ((with_reducible refine gate_dst (N := 4) rfl ?_); (try (refine gate_guard (by rfl) ?_; dsimp only)); refine box_event ?hg (N := 4) ?hd (cs := #[.int .i64 0, .slice none 0 0]) (t := 26) ?hr ?_; (case hd => rfl); (case hg => rfl); (case hr => first | (go_simp; done) | (go_simp; rfl)); intro gb532 hg w21 hbox hb; replace HO525 := kR HO525 hb; replace HO530 := kR HO530 hb; have BK532 := Aside0.mk (hbox); have GE532 := kG HB hg; replace HB := kH HB hb; have NB526_532 := kN BK526 hg; have NB532_526 := kM BK526 hg; replace BK526 := kB BK526 hb; clear hb hbox hg; have hnb22 := NB532_526.out; have hnc22 := NB526_532.out; have hcz23_0 : w21.cell? ⟨gb532, 0, none⟩ = some (.int .i64 0) := (blk_cell BK532.out 0).trans rfl; have hcz23_1 : w21.cell? ⟨gb532, 1, none⟩ = some (.slice none 0 0) := (blk_cell BK532.out 1).trans rfl; have hfz23_0 := blk_frozen BK532.out 0; have hfz23_1 := blk_frozen BK532.out 1; obtain ⟨Ao24, co24, eo24⟩ := Kd.R_slice HO530.out; subst eo24; have hcz25_0 : w21.cell? ⟨gb526, 0, none⟩ = some (.int .i64 t522) := (blk_cell BK526.out 0).trans rfl; have hcz25_1 : w21.cell? ⟨gb526, 1, none⟩ = some (.slice Ao19 t523.length co19) := (blk_cell BK526.out 1).trans rfl; have hfz25_0 := blk_frozen BK526.out 0; have hfz25_1 := blk_frozen BK526.out 1) | ((with_reducible refine gate_callee (f := 7) rfl ?_); refine goesL_ (some 40) rfl rfl Tryz.func7 (by kernel_rfl) rfl #[.agg #[.int .i64 t522, .slice Ao19 t523.length co19]] rfl gL_ ?_; (with_reducible refine (spec_DualContext.calls k t522 _ _ t523 t533 t534 t537 _ ?side1 ?side2 A6.out).mono ?_); (case side1 => exact rC (kT HO525 BK532)); (case side2 => exact (Kd.R_reads' HO525.out).2.1); rintro e w26 ⟨v535, rfl, ho0, hb⟩; refine ⟨_, rfl, ?_⟩; have HO536 := Aside0.mk (Kd.R_lower ho0 (below_size hB_)); replace HO525 := kR (kT HO525 BK532) hb; replace HO530 := kR (kT HO530 BK532) hb; replace BK526 := kB (kF NB526_532 BK526) hb; replace BK532 := kB (kP BK532) hb; replace HB := kH HB hb; clear hb ho0) | ((with_reducible refine gate_dst (N := 6) rfl ?_); (try (refine gate_guard (by rfl) ?_; dsimp only)); refine box_event ?hg (N := 6) ?hd (cs := #[.int .i64 0, .slice none 0 0]) (t := 26) ?hr ?_; (case hd => rfl); (case hg => rfl); (case hr => first | (go_simp; done) | (go_simp; rfl)); intro gb538 hg w27 hbox hb; replace HO525 := kR HO525 hb; replace HO530 := kR HO530 hb; replace HO536 := kR HO536 hb; have BK538 := Aside0.mk (hbox); have GE538 := kG HB hg; replace HB := kH HB hb; have NB526_538 := kN BK526 hg; replace BK526 := kB BK526 hb; have NB532_538 := kN BK532 hg; replace BK532 := kB BK532 hb; clear hb hbox hg; have hcz30_0 : w27.cell? ⟨gb538, 0, none⟩ = some (.int .i64 0) := (blk_cell BK538.out 0).trans rfl; have hcz30_1 : w27.cell? ⟨gb538, 1, none⟩ = some (.slice none 0 0) := (blk_cell BK538.out 1).trans rfl; have hfz30_0 := blk_frozen BK538.out 0; have hfz30_1 := blk_frozen BK538.out 1; obtain ⟨Ao31, co31, eo31⟩ := Kd.R_slice HO536.out; subst eo31) | ((with_reducible refine gate_callee (f := 8) rfl ?_); refine goesL_ (some 45) rfl rfl Tryz.func8 (by kernel_rfl) rfl #[.slice A0 l0.length c0] rfl gL_ ?_; (with_reducible refine (spec_DrawColumnOf.calls k _ _ l0 t539 t540 t543 _ ?side1 ?side2 A7.out).mono ?_); (case side1 => exact Kd.C_below HR0.out hB_); (case side2 => exact HC0.out); rintro e w32 ⟨v541, rfl, ho0, hb⟩; refine ⟨_, rfl, ?_⟩; have HO542 := Aside0.mk (Kd.R_lower ho0 (below_size hB_)); replace HO525 := kR (kT HO525 BK538) hb; replace HO530 := kR (kT HO530 BK538) hb; replace HO536 := kR (kT HO536 BK538) hb; replace BK526 := kB (kF NB526_538 BK526) hb; replace BK532 := kB (kF NB532_538 BK532) hb; replace BK538 := kB (kP BK538) hb; replace HB := kH HB hb; clear hb ho0) | ((with_reducible refine gate_dst (N := 8) rfl ?_); (try (refine gate_guard (by rfl) ?_; dsimp only)); refine box_event ?hg (N := 8) ?hd (cs := #[.int .i64 0, .slice none 0 0]) (t := 26) ?hr ?_; (case hd => rfl); (case hg => rfl); (case hr => first | (go_simp; done) | (go_simp; rfl)); intro gb544 hg w33 hbox hb; replace HO525 := kR HO525 hb; replace HO530 := kR HO530 hb; replace HO536 := kR HO536 hb; replace HO542 := kR HO542 hb; have BK544 := Aside0.mk (hbox); have GE544 := kG HB hg; replace HB := kH HB hb; have NB526_544 := kN BK526 hg; replace BK526 := kB BK526 hb; have NB532_544 := kN BK532 hg; replace BK532 := kB BK532 hb; have NB538_544 := kN BK538 hg; replace BK538 := kB BK538 hb; clear hb hbox hg; have hcz37_0 : w33.cell? ⟨gb544, 0, none⟩ = some (.int .i64 0) := (blk_cell BK544.out 0).trans rfl; have hcz37_1 : w33.cell? ⟨gb544, 1, none⟩ = some (.slice none 0 0) := (blk_cell BK544.out 1).trans rfl; have hfz37_0 := blk_frozen BK544.out 0; have hfz37_1 := blk_frozen BK544.out 1; obtain ⟨Ao38, co38, eo38⟩ := Kd.R_slice HO542.out; subst eo38) | ((with_reducible refine gate_callee (f := 9) rfl ?_); refine goesL_ (some 49) rfl rfl Tryz.func9 (by kernel_rfl) rfl #[.slice A0 l0.length c0] rfl gL_ ?_; (with_reducible refine (spec_DrawComplementContext.calls k _ _ l0 t545 t546 _ ?side1 ?side2 A8.out).mono ?_); (case side1 => exact Kd.C_below HR0.out hB_); (case side2 => exact HC0.out); rintro e w39 ⟨v547, rfl, ho0, hb⟩; refine ⟨_, rfl, ?_⟩; have HO548 := Aside0.mk (Kd.R_lower ho0 (below_size hB_)); replace HO525 := kR (kT HO525 BK544) hb; replace HO530 := kR (kT HO530 BK544) hb; replace HO536 := kR (kT HO536 BK544) hb; replace HO542 := kR (kT HO542 BK544) hb; replace BK526 := kB (kF NB526_544 BK526) hb; replace BK532 := kB (kF NB532_544 BK532) hb; replace BK538 := kB (kF NB538_544 BK538) hb; replace BK544 := kB (kP BK544) hb; replace HB := kH HB hb; clear hb ho0) | ((with_reducible refine gate_dst (N := 10) rfl ?_); (try (refine gate_guard (by rfl) ?_; dsimp only)); refine box_event ?hg (N := 10) ?hd (cs := #[.int .i64 0, .slice none 0 0]) (t := 26) ?hr ?_; (case hd => rfl); (case hg => rfl); (case hr => first | (go_simp; done) | (go_simp; rfl)); intro gb549 hg w40 hbox hb; replace HO525 := kR HO525 hb; replace HO530 := kR HO530 hb; replace HO536 := kR HO536 hb; replace HO542 := kR HO542 hb; replace HO548 := kR HO548 hb; have BK549 := Aside0.mk (hbox); have GE549 := kG HB hg; replace HB := kH HB hb; have NB526_549 := kN BK526 hg; replace BK526 := kB BK526 hb; have NB532_549 := kN BK532 hg; replace BK532 := kB BK532 hb; have NB538_549 := kN BK538 hg; replace BK538 := kB BK538 hb; have NB544_549 := kN BK544 hg; replace BK544 := kB BK544 hb; clear hb hbox hg; have hcz45_0 : w40.cell? ⟨gb549, 0, none⟩ = some (.int .i64 0) := (blk_cell BK549.out 0).trans rfl; have hcz45_1 : w40.cell? ⟨gb549, 1, none⟩ = some (.slice none 0 0) := (blk_cell BK549.out 1).trans rfl; have hfz45_0 := blk_frozen BK549.out 0; have hfz45_1 := blk_frozen BK549.out 1; obtain ⟨Ao46, co46, eo46⟩ := Kd.R_slice HO548.out; subst eo46) | ((with_reducible refine gate_callee (f := 10) rfl ?_); refine goesL_ (some 52) rfl rfl Tryz.func10 (by kernel_rfl) rfl #[.agg #[.int .i64 t545, .slice Ao46 t546.length co46]] rfl gL_ ?_; (with_reducible refine (impl_ComplementContext.calls k t545 _ _ t546 t550 t551 t554 _ ?side1 ?side2 A9.out).mono ?_); (case side1 => exact rC (kT HO548 BK549)); (case side2 => exact (Kd.R_reads' HO548.out).2.1); rintro e w47 ⟨v552, rfl, ho0, hb⟩; refine ⟨_, rfl, ?_⟩; have HO553 := Aside0.mk (Kd.R_lower ho0 (below_size hB_)); replace HO525 := kR (kT HO525 BK549) hb; replace HO530 := kR (kT HO530 BK549) hb; replace HO536 := kR (kT HO536 BK549) hb; replace HO542 := kR (kT HO542 BK549) hb; replace HO548 := kR (kT HO548 BK549) hb; replace BK526 := kB (kF NB526_549 BK526) hb; replace BK532 := kB (kF NB532_549 BK532) hb; replace BK538 := kB (kF NB538_549 BK538) hb; replace BK544 := kB (kF NB544_549 BK544) hb; replace BK549 := kB (kP BK549) hb; replace HB := kH HB hb; clear hb ho0) | ((with_reducible refine gate_dst (N := 11) rfl ?_); (try (refine gate_guard (by rfl) ?_; dsimp only)); refine box_event ?hg (N := 11) ?hd (cs := #[.int .i64 0, .slice none 0 0]) (t := 26) ?hr ?_; (case hd => rfl); (case hg => rfl); (case hr => first | (go_simp; done) | (go_simp; rfl)); intro gb555 hg w48 hbox hb; replace HO525 := kR HO525 hb; replace HO530 := kR HO530 hb; replace HO536 := kR HO536 hb; replace HO542 := kR HO542 hb; replace HO548 := kR HO548 hb; replace HO553 := kR HO553 hb; have BK555 := Aside0.mk (hbox); have GE555 := kG HB hg; replace HB := kH HB hb; have NB526_555 := kN BK526 hg; replace BK526 := kB BK526 hb; have NB532_555 := kN BK532 hg; replace BK532 := kB BK532 hb; have NB538_555 := kN BK538 hg; replace BK538 := kB BK538 hb; have NB544_555 := kN BK544 hg; replace BK544 := kB BK544 hb; have NB549_555 := kN BK549 hg; have NB555_549 := kM BK549 hg; replace BK549 := kB BK549 hb; clear hb hbox hg; have hnb53 := NB555_549.out; have hnc53 := NB549_555.out; have hcz54_0 : w48.cell? ⟨gb555, 0, none⟩ = some (.int .i64 0) := (blk_cell BK555.out 0).trans rfl; have hcz54_1 : w48.cell? ⟨gb555, 1, none⟩ = some (.slice none 0 0) := (blk_cell BK555.out 1).trans rfl; have hfz54_0 := blk_frozen BK555.out 0; have hfz54_1 := blk_frozen BK555.out 1; obtain ⟨Ao55, co55, eo55⟩ := Kd.R_slice HO553.out; subst eo55; have hcz56_0 : w48.cell? ⟨gb549, 0, none⟩ = some (.int .i64 t545) := (blk_cell BK549.out 0).trans rfl; have hcz56_1 : w48.cell? ⟨gb549, 1, none⟩ = some (.slice Ao46 t546.length co46) := (blk_cell BK549.out 1).trans rfl; have hfz56_0 := blk_frozen BK549.out 0; have hfz56_1 := blk_frozen BK549.out 1) | ((with_reducible refine gate_callee (f := 11) rfl ?_); refine goesL_ (some 57) rfl rfl Tryz.func11 (by kernel_rfl) rfl #[.agg #[.int .i64 t545, .slice Ao46 t546.length co46]] rfl gL_ ?_; (with_reducible refine (spec_ComplementContext.calls k t545 _ _ t546 t556 t557 t560 _ ?side1 ?side2 A10.out).mono ?_); (case side1 => exact rC (kT HO548 BK555)); (case side2 => exact (Kd.R_reads' HO548.out).2.1); rintro e w57 ⟨v558, rfl, ho0, hb⟩; refine ⟨_, rfl, ?_⟩; have HO559 := Aside0.mk (Kd.R_lower ho0 (below_size hB_)); replace HO525 := kR (kT HO525 BK555) hb; replace HO530 := kR (kT HO530 BK555) hb; replace HO536 := kR (kT HO536 BK555) hb; replace HO542 := kR (kT HO542 BK555) hb; replace HO548 := kR (kT HO548 BK555) hb; replace HO553 := kR (kT HO553 BK555) hb; replace BK526 := kB (kF NB526_555 BK526) hb; replace BK532 := kB (kF NB532_555 BK532) hb; replace BK538 := kB (kF NB538_555 BK538) hb; replace BK544 := kB (kF NB544_555 BK544) hb; replace BK549 := kB (kF NB549_555 BK549) hb; replace BK555 := kB (kP BK555) hb; replace HB := kH HB hb; clear hb ho0) | ((with_reducible refine gate_dst (N := 13) rfl ?_); (try (refine gate_guard (by rfl) ?_; dsimp only)); refine box_event ?hg (N := 13) ?hd (cs := #[.int .i64 0, .slice none 0 0]) (t := 26) ?hr ?_; (case hd => rfl); (case hg => rfl); (case hr => first | (go_simp; done) | (go_simp; rfl)); intro gb561 hg w58 hbox hb; replace HO525 := kR HO525 hb; replace HO530 := kR HO530 hb; replace HO536 := kR HO536 hb; replace HO542 := kR HO542 hb; replace HO548 := kR HO548 hb; replace HO553 := kR HO553 hb; replace HO559 := kR HO559 hb; have BK561 := Aside0.mk (hbox); have GE561 := kG HB hg; replace HB := kH HB hb; have NB526_561 := kN BK526 hg; replace BK526 := kB BK526 hb; have NB532_561 := kN BK532 hg; replace BK532 := kB BK532 hb; have NB538_561 := kN BK538 hg; replace BK538 := kB BK538 hb; have NB544_561 := kN BK544 hg; replace BK544 := kB BK544 hb; have NB549_561 := kN BK549 hg; replace BK549 := kB BK549 hb; have NB555_561 := kN BK555 hg; replace BK555 := kB BK555 hb; clear hb hbox hg; have hcz65_0 : w58.cell? ⟨gb561, 0, none⟩ = some (.int .i64 0) := (blk_cell BK561.out 0).trans rfl; have hcz65_1 : w58.cell? ⟨gb561, 1, none⟩ = some (.slice none 0 0) := (blk_cell BK561.out 1).trans rfl; have hfz65_0 := blk_frozen BK561.out 0; have hfz65_1 := blk_frozen BK561.out 1; obtain ⟨Ao66, co66, eo66⟩ := Kd.R_slice HO559.out; subst eo66) | ((with_reducible refine gate_callee (f := 12) rfl ?_); refine goesL_ (some 62) rfl rfl Tryz.func12 (by kernel_rfl) rfl #[.slice A0 l0.length c0] rfl gL_ ?_; (with_reducible refine (spec_DrawEqualContext.calls k _ _ l0 t562 t563 t566 t567 _ ?side1 ?side2 A11.out).mono ?_); (case side1 => exact Kd.C_below HR0.out hB_); (case side2 => exact HC0.out); rintro e w67 ⟨v564, v568, rfl, ho0, ho1, hb⟩; refine ⟨_, rfl, ?_⟩; have HO565 := Aside0.mk (Kd.R_lower ho0 (below_size hB_)); have HO569 := Aside0.mk (Kd.R_lower ho1 (below_size hB_)); replace HO525 := Aside0.mk (Kd.R_mono (Kd.R_told (Kd.R_told (Kd.R_old (rW (kT HO525 BK561).out) hb) (Kd.R_base ho0)) (Kd.R_base ho1)) (fun _ h_ => h_.1)); replace HO530 := Aside0.mk (Kd.R_mono (Kd.R_told (Kd.R_told (Kd.R_old (rW (kT HO530 BK561).out) hb) (Kd.R_base ho0)) (Kd.R_base ho1)) (fun _ h_ => h_.1)); replace HO536 := Aside0.mk (Kd.R_mono (Kd.R_told (Kd.R_told (Kd.R_old (rW (kT HO536 BK561).out) hb) (Kd.R_base ho0)) (Kd.R_base ho1)) (fun _ h_ => h_.1)); replace HO542 := Aside0.mk (Kd.R_mono (Kd.R_told (Kd.R_told (Kd.R_old (rW (kT HO542 BK561).out) hb) (Kd.R_base ho0)) (Kd.R_base ho1)) (fun _ h_ => h_.1)); replace HO548 := Aside0.mk (Kd.R_mono (Kd.R_told (Kd.R_told (Kd.R_old (rW (kT HO548 BK561).out) hb) (Kd.R_base ho0)) (Kd.R_base ho1)) (fun _ h_ => h_.1)); replace HO553 := Aside0.mk (Kd.R_mono (Kd.R_told (Kd.R_told (Kd.R_old (rW (kT HO553 BK561).out) hb) (Kd.R_base ho0)) (Kd.R_base ho1)) (fun _ h_ => h_.1)); replace HO559 := Aside0.mk (Kd.R_mono (Kd.R_told (Kd.R_told (Kd.R_old (rW (kT HO559 BK561).out) hb) (Kd.R_base ho0)) (Kd.R_base ho1)) (fun _ h_ => h_.1)); replace BK526 := kB (kF NB526_561 BK526) hb; replace BK532 := kB (kF NB532_561 BK532) hb; replace BK538 := kB (kF NB538_561 BK538) hb; replace BK544 := kB (kF NB544_561 BK544) hb; replace BK549 := kB (kF NB549_561 BK549) hb; replace BK555 := kB (kF NB555_561 BK555) hb; replace BK561 := kB (kP BK561) hb; replace HB := kH HB hb; clear hb ho0 ho1) | ((with_reducible refine gate_dst (N := 15) rfl ?_); (try (refine gate_guard (by rfl) ?_; dsimp only)); refine box_event ?hg (N := 15) ?hd (cs := #[.int .i64 0, .slice none 0 0]) (t := 26) ?hr ?_; (case hd => rfl); (case hg => rfl); (case hr => first | (go_simp; done) | (go_simp; rfl)); intro gb570 hg w68 hbox hb; replace HO525 := kR HO525 hb; replace HO530 := kR HO530 hb; replace HO536 := kR HO536 hb; replace HO542 := kR HO542 hb; replace HO548 := kR HO548 hb; replace HO553 := kR HO553 hb; replace HO559 := kR HO559 hb; replace HO565 := kR HO565 hb; replace HO569 := kR HO569 hb; have BK570 := Aside0.mk (hbox); have GE570 := kG HB hg; replace HB := kH HB hb; have NB526_570 := kN BK526 hg; replace BK526 := kB BK526 hb; have NB532_570 := kN BK532 hg; replace BK532 := kB BK532 hb; have NB538_570 := kN BK538 hg; replace BK538 := kB BK538 hb; have NB544_570 := kN BK544 hg; replace BK544 := kB BK544 hb; have NB549_570 := kN BK549 hg; replace BK549 := kB BK549 hb; have NB555_570 := kN BK555 hg; replace BK555 := kB BK555 hb; have NB561_570 := kN BK561 hg; replace BK561 := kB BK561 hb; clear hb hbox hg) | ((with_reducible refine gate_dst (N := 16) rfl ?_); (try (refine gate_guard (by rfl) ?_; dsimp only)); refine box_event ?hg (N := 16) ?hd (cs := #[.int .i64 0, .slice none 0 0]) (t := 26) ?hr ?_; (case hd => rfl); (case hg => rfl); (case hr => first | (go_simp; done) | (go_simp; rfl)); intro gb571 hg w69 hbox hb; replace HO525 := kR HO525 hb; replace HO530 := kR HO530 hb; replace HO536 := kR HO536 hb; replace HO542 := kR HO542 hb; replace HO548 := kR HO548 hb; replace HO553 := kR HO553 hb; replace HO559 := kR HO559 hb; replace HO565 := kR HO565 hb; replace HO569 := kR HO569 hb; have BK571 := Aside0.mk (hbox); have GE571 := kG HB hg; replace HB := kH HB hb; have NB526_571 := kN BK526 hg; replace BK526 := kB BK526 hb; have NB532_571 := kN BK532 hg; replace BK532 := kB BK532 hb; have NB538_571 := kN BK538 hg; replace BK538 := kB BK538 hb; have NB544_571 := kN BK544 hg; replace BK544 := kB BK544 hb; have NB549_571 := kN BK549 hg; replace BK549 := kB BK549 hb; have NB555_571 := kN BK555 hg; replace BK555 := kB BK555 hb; have NB561_571 := kN BK561 hg; replace BK561 := kB BK561 hb; have NB570_571 := kN BK570 hg; have NB571_570 := kM BK570 hg; replace BK570 := kB BK570 hb; clear hb hbox hg; have hnb77 := NB570_571.out; have hnc77 := NB571_570.out; have hcz78_0 : w69.cell? ⟨gb570, 0, none⟩ = some (.int .i64 0) := (blk_cell BK570.out 0).trans rfl; have hcz78_1 : w69.cell? ⟨gb570, 1, none⟩ = some (.slice none 0 0) := (blk_cell BK570.out 1).trans rfl; have hfz78_0 := blk_frozen BK570.out 0; have hfz78_1 := blk_frozen BK570.out 1; obtain ⟨Ao79, co79, eo79⟩ := Kd.R_slice HO565.out; subst eo79; have hcz87_0 : w69.cell? ⟨gb571, 0, none⟩ = some (.int .i64 0) := (blk_cell BK571.out 0).trans rfl; have hcz87_1 : w69.cell? ⟨gb571, 1, none⟩ = some (.slice none 0 0) := (blk_cell BK571.out 1).trans rfl; have hfz87_0 := blk_frozen BK571.out 0; have hfz87_1 := blk_frozen BK571.out 1; obtain ⟨Ao88, co88, eo88⟩ := Kd.R_slice HO569.out; subst eo88) | ((with_reducible refine gate_callee (f := 13) rfl ?_); refine goesL_ (some 66) rfl rfl Tryz.func13 (by kernel_rfl) rfl #[.slice A0 l0.length c0] rfl gL_ ?_; (with_reducible refine (spec_DrawParseContext.calls k _ _ l0 t572 _ ?side1 ?side2 A12.out).mono ?_); (case side1 => exact Kd.C_below HR0.out hB_); (case side2 => exact HC0.out); rintro e w89 ⟨rfl, hb⟩; refine ⟨_, rfl, ?_⟩; replace HO525 := kR (kS HO525 BK570 BK571) hb; replace HO530 := kR (kS HO530 BK570 BK571) hb; replace HO536 := kR (kS HO536 BK570 BK571) hb; replace HO542 := kR (kS HO542 BK570 BK571) hb; replace HO548 := kR (kS HO548 BK570 BK571) hb; replace HO553 := kR (kS HO553 BK570 BK571) hb; replace HO559 := kR (kS HO559 BK570 BK571) hb; replace HO565 := kR (kS HO565 BK570 BK571) hb; replace HO569 := kR (kS HO569 BK570 BK571) hb; replace BK526 := kB (kF NB526_571 (kF NB526_570 BK526)) hb; replace BK532 := kB (kF NB532_571 (kF NB532_570 BK532)) hb; replace BK538 := kB (kF NB538_571 (kF NB538_570 BK538)) hb; replace BK544 := kB (kF NB544_571 (kF NB544_570 BK544)) hb; replace BK549 := kB (kF NB549_571 (kF NB549_570 BK549)) hb; replace BK555 := kB (kF NB555_571 (kF NB555_570 BK555)) hb; replace BK561 := kB (kF NB561_571 (kF NB561_570 BK561)) hb; replace BK570 := kB (kF NB570_571 (kP BK570)) hb; replace BK571 := kB (kP (kF NB571_570 BK571)) hb; replace HB := kH HB hb; clear hb) | ((with_reducible refine gate_callee (f := 14) rfl ?_); refine goesL_ (some 69) rfl rfl Tryz.func14 (by kernel_rfl) rfl #[.string t572] rfl gL_ ?_; (with_reducible refine (impl_ParseContext.calls k t572 t573 t574 t577 _ ?sideT A13.out).mono ?_); (case sideT => exact hT_); rintro e w90 ⟨v575, rfl, ho0, hb⟩; refine ⟨_, rfl, ?_⟩; have HO576 := Aside0.mk (Kd.R_lower ho0 (below_size hB_)); replace HO525 := kR HO525 hb; replace HO530 := kR HO530 hb; replace HO536 := kR HO536 hb; replace HO542 := kR HO542 hb; replace HO548 := kR HO548 hb; replace HO553 := kR HO553 hb; replace HO559 := kR HO559 hb; replace HO565 := kR HO565 hb; replace HO569 := kR HO569 hb; replace BK526 := kB BK526 hb; replace BK532 := kB BK532 hb; replace BK538 := kB BK538 hb; replace BK544 := kB BK544 hb; replace BK549 := kB BK549 hb; replace BK555 := kB BK555 hb; replace BK561 := kB BK561 hb; replace BK570 := kB BK570 hb; replace BK571 := kB BK571 hb; replace HB := kH HB hb; clear hb ho0) | ((with_reducible refine gate_dst (N := 18) rfl ?_); (try (refine gate_guard (by rfl) ?_; dsimp only)); refine box_event ?hg (N := 18) ?hd (cs := #[.int .i64 0, .slice none 0 0]) (t := 26) ?hr ?_; (case hd => rfl); (case hg => rfl); (case hr => first | (go_simp; done) | (go_simp; rfl)); intro gb578 hg w91 hbox hb; replace HO525 := kR HO525 hb; replace HO530 := kR HO530 hb; replace HO536 := kR HO536 hb; replace HO542 := kR HO542 hb; replace HO548 := kR HO548 hb; replace HO553 := kR HO553 hb; replace HO559 := kR HO559 hb; replace HO565 := kR HO565 hb; replace HO569 := kR HO569 hb; replace HO576 := kR HO576 hb; have BK578 := Aside0.mk (hbox); have GE578 := kG HB hg; replace HB := kH HB hb; have NB526_578 := kN BK526 hg; replace BK526 := kB BK526 hb; have NB532_578 := kN BK532 hg; replace BK532 := kB BK532 hb; have NB538_578 := kN BK538 hg; replace BK538 := kB BK538 hb; have NB544_578 := kN BK544 hg; replace BK544 := kB BK544 hb; have NB549_578 := kN BK549 hg; replace BK549 := kB BK549 hb; have NB555_578 := kN BK555 hg; replace BK555 := kB BK555 hb; have NB561_578 := kN BK561 hg; replace BK561 := kB BK561 hb; have NB570_578 := kN BK570 hg; replace BK570 := kB BK570 hb; have NB571_578 := kN BK571 hg; replace BK571 := kB BK571 hb; clear hb hbox hg; have hcz101_0 : w91.cell? ⟨gb578, 0, none⟩ = some (.int .i64 0) := (blk_cell BK578.out 0).trans rfl; have hcz101_1 : w91.cell? ⟨gb578, 1, none⟩ = some (.slice none 0 0) := (blk_cell BK578.out 1).trans rfl; have hfz101_0 := blk_frozen BK578.out 0; have hfz101_1 := blk_frozen BK578.out 1; obtain ⟨Ao102, co102, eo102⟩ := Kd.R_slice HO576.out; subst eo102) | ((with_reducible refine gate_callee (f := 15) rfl ?_); refine goesL_ (some 74) rfl rfl Tryz.func15 (by kernel_rfl) rfl #[.string t572] rfl gL_ ?_; (with_reducible refine (spec_ParseContext.calls k t572 t579 t580 t583 _ A14.out).mono ?_); rintro e w103 ⟨v581, rfl, ho0, hb⟩; refine ⟨_, rfl, ?_⟩; have HO582 := Aside0.mk (Kd.R_lower ho0 (below_size hB_)); replace HO525 := kR (kT HO525 BK578) hb; replace HO530 := kR (kT HO530 BK578) hb; replace HO536 := kR (kT HO536 BK578) hb; replace HO542 := kR (kT HO542 BK578) hb; replace HO548 := kR (kT HO548 BK578) hb; replace HO553 := kR (kT HO553 BK578) hb; replace HO559 := kR (kT HO559 BK578) hb; replace HO565 := kR (kT HO565 BK578) hb; replace HO569 := kR (kT HO569 BK578) hb; replace HO576 := kR (kT HO576 BK578) hb; replace BK526 := kB (kF NB526_578 BK526) hb; replace BK532 := kB (kF NB532_578 BK532) hb; replace BK538 := kB (kF NB538_578 BK538) hb; replace BK544 := kB (kF NB544_578 BK544) hb; replace BK549 := kB (kF NB549_578 BK549) hb; replace BK555 := kB (kF NB555_578 BK555) hb; replace BK561 := kB (kF NB561_578 BK561) hb; replace BK570 := kB (kF NB570_578 BK570) hb; replace BK571 := kB (kF NB571_578 BK571) hb; replace BK578 := kB (kP BK578) hb; replace HB := kH HB hb; clear hb ho0) | ((with_reducible refine gate_dst (N := 20) rfl ?_); (try (refine gate_guard (by rfl) ?_; dsimp only)); refine box_event ?hg (N := 20) ?hd (cs := #[.int .i64 0, .slice none 0 0]) (t := 26) ?hr ?_; (case hd => rfl); (case hg => rfl); (case hr => first | (go_simp; done) | (go_simp; rfl)); intro gb584 hg w104 hbox hb; replace HO525 := kR HO525 hb; replace HO530 := kR HO530 hb; replace HO536 := kR HO536 hb; replace HO542 := kR HO542 hb; replace HO548 := kR HO548 hb; replace HO553 := kR HO553 hb; replace HO559 := kR HO559 hb; replace HO565 := kR HO565 hb; replace HO569 := kR HO569 hb; replace HO576 := kR HO576 hb; replace HO582 := kR HO582 hb; have BK584 := Aside0.mk (hbox); have GE584 := kG HB hg; replace HB := kH HB hb; have NB526_584 := kN BK526 hg; replace BK526 := kB BK526 hb; have NB532_584 := kN BK532 hg; replace BK532 := kB BK532 hb; have NB538_584 := kN BK538 hg; replace BK538 := kB BK538 hb; have NB544_584 := kN BK544 hg; replace BK544 := kB BK544 hb; have NB549_584 := kN BK549 hg; replace BK549 := kB BK549 hb; have NB555_584 := kN BK555 hg; replace BK555 := kB BK555 hb; have NB561_584 := kN BK561 hg; replace BK561 := kB BK561 hb; have NB570_584 := kN BK570 hg; replace BK570 := kB BK570 hb; have NB571_584 := kN BK571 hg; replace BK571 := kB BK571 hb; have NB578_584 := kN BK578 hg; replace BK578 := kB BK578 hb; clear hb hbox hg; have hcz115_0 : w104.cell? ⟨gb584, 0, none⟩ = some (.int .i64 0) := (blk_cell BK584.out 0).trans rfl; have hcz115_1 : w104.cell? ⟨gb584, 1, none⟩ = some (.slice none 0 0) := (blk_cell BK584.out 1).trans rfl; have hfz115_0 := blk_frozen BK584.out 0; have hfz115_1 := blk_frozen BK584.out 1; obtain ⟨Ao116, co116, eo116⟩ := Kd.R_slice HO582.out; subst eo116))
    (try simp only [Act.put, setIfInBounds_toArray, set_cons_zero, set_cons_succ])
    go_cut [140] (fun v140 wc => ∃ (kq : Nat) (x140_14 : Bool), v140 = .bool x140_14 ∧ Aside0 (laws_FnContexts.j0 kq t531 t554 x140_14 t522 t523 t527 t528 t545 t546 t550 t551 t562 t563 = some r) ∧ Aside0 (kq ≤ k) ∧ Aside0 (Kd.R (Kd.int .i64) 3 wc w.heap.size (ofs []) (.slice Ao19 t523.length co19) t523) ∧ Aside0 (Kd.R (Kd.int .i64) 3 wc w.heap.size (ofs []) (.slice Ao24 t528.length co24) t528) ∧ Aside0 (Kd.R (Kd.int .i64) 3 wc w.heap.size (ofs []) (.slice Ao46 t546.length co46) t546) ∧ Aside0 (Kd.R (Kd.int .i64) 3 wc w.heap.size (ofs []) (.slice Ao55 t551.length co55) t551) ∧ Aside0 (Kd.R (Kd.int .i64) 3 wc w.heap.size (ofs []) (.slice Ao79 t563.length co79) t563) ∧ Aside0 (wc.heap[gb526]? = some (.cells #[.int .i64 t522, (.slice Ao19 t523.length co19)] 26 (0, 0))) ∧ Aside0 (wc.heap[gb532]? = some (.cells #[.int .i64 t527, (.slice Ao24 t528.length co24)] 26 (0, 0))) ∧ Aside0 (wc.heap[gb549]? = some (.cells #[.int .i64 t545, (.slice Ao46 t546.length co46)] 26 (0, 0))) ∧ Aside0 (wc.heap[gb555]? = some (.cells #[.int .i64 t550, (.slice Ao55 t551.length co55)] 26 (0, 0))) ∧ Aside0 (wc.heap[gb570]? = some (.cells #[.int .i64 t562, (.slice Ao79 t563.length co79)] 26 (0, 0))) ∧ Aside0 (Below w.heap.size w wc))
    case first =>
      have H := HC15.out
      clear HC15
      by_cases c117 : (t531 != t537) = true
      · rw [if_pos c117] at H
        obtain ⟨c117b0, c117b1, c117b2, c117b3⟩ := neT c117
        clear c117
        (first | rw [c117b0] | (simp only [i64_w, i32_w]; rw [c117b0]) | skip)
        exact (laws_FnContexts.j0_dead _ _ _ _ _ _ _ _ _ _ _ _ _ (by rw [HRR.out] at H; exact H)).elim
      · rw [if_neg c117] at H
        obtain ⟨c117b0, c117b1, c117b2⟩ := neF c117
        clear c117
        (first | rw [c117b0] | (simp only [i64_w, i32_w]; rw [c117b0]) | skip)
        replace H := aB H
        obtain ⟨t585, A120, H⟩ := H
        by_cases c121 : t585 = true
        · subst c121
          replace H := ifT H
          replace H := aB H
          obtain ⟨t586, A122, H⟩ := H
          replace H := aB H
          obtain ⟨t587, A123, H⟩ := H
          by_cases c124 : t586 = t587
          · rw [if_pos c124] at H
            have c124b0 : (t586 == t587) = true := beq_iff_eq.mpr c124
            have c124b1 : (t586 != t587) = false := bne_eq_false_iff_eq.mpr c124
            clear c124
            by_cases c125 : (t554 != t560) = true
            · rw [if_pos c125] at H
              obtain ⟨c125b0, c125b1, c125b2, c125b3⟩ := neT c125
              clear c125
              exact (laws_FnContexts.j0_dead _ _ _ _ _ _ _ _ _ _ _ _ _ (by rw [HRR.out] at H; exact H)).elim
            · rw [if_neg c125] at H
              obtain ⟨c125b0, c125b1, c125b2⟩ := neF c125
              clear c125
              replace H := aB H
              obtain ⟨t588, A131, H⟩ := H
              by_cases c132 : t588 = true
              · subst c132
                replace H := ifT H
                replace H := aB H
                obtain ⟨t589, A133, H⟩ := H
                replace H := aB H
                obtain ⟨t590, A134, H⟩ := H
                by_cases c135 : (t589 != t590) = true
                · rw [if_pos c135] at H
                  obtain ⟨c135b0, c135b1, c135b2, c135b3⟩ := neT c135
                  clear c135
                  exact (laws_FnContexts.j0_dead _ _ _ _ _ _ _ _ _ _ _ _ _ (by rw [HRR.out] at H; exact H)).elim
                · rw [if_neg c135] at H
                  obtain ⟨c135b0, c135b1, c135b2⟩ := neF c135
                  clear c135
                  by_cases c144 : (t577 != t583) = true
                  · rw [if_pos c144] at H
                    obtain ⟨c144b0, c144b1, c144b2, c144b3⟩ := neT c144
                    clear c144
                    exact (laws_FnContexts.j0_dead _ _ _ _ _ _ _ _ _ _ _ _ _ (by rw [HRR.out] at H; exact H)).elim
                  · rw [if_neg c144] at H
                    obtain ⟨c144b0, c144b1, c144b2⟩ := neF c144
                    clear c144
                    replace H := aB H
                    obtain ⟨t591, A153, H⟩ := H
                    by_cases c154 : t591 = true
                    · subst c154
                      replace H := ifT H
                      replace H := aB H
                      obtain ⟨t592, A155, H⟩ := H
                      replace H := aB H
                      obtain ⟨t593, A156, H⟩ := H
                      by_cases c157 : (t592 != t593) = true
                      · rw [if_pos c157] at H
                        obtain ⟨c157b0, c157b1, c157b2, c157b3⟩ := neT c157
                        clear c157
                        exact (laws_FnContexts.j0_dead _ _ _ _ _ _ _ _ _ _ _ _ _ (by rw [HRR.out] at H; exact H)).elim
                      · rw [if_neg c157] at H
                        obtain ⟨c157b0, c157b1, c157b2⟩ := neF c157
                        clear c157
                        replace H := aB H
                        obtain ⟨t594, A169, H⟩ := H
                        have H' := Aside0.mk H
                        clear H
                        try go_wp2
                        have n0_ : Aside0 (Kd.R (Kd.int .i64) 3 ((w104.setCell ⟨gb584, 0, none⟩ (.int .i64 t579)).setCell ⟨gb584, 1, none⟩ (.slice Ao116 t580.length co116)) w.heap.size (ofs []) (.slice Ao19 t523.length co19) t523) := (rM (kT HO525 BK584))
                        have n1_ : Aside0 (Kd.R (Kd.int .i64) 3 ((w104.setCell ⟨gb584, 0, none⟩ (.int .i64 t579)).setCell ⟨gb584, 1, none⟩ (.slice Ao116 t580.length co116)) w.heap.size (ofs []) (.slice Ao24 t528.length co24) t528) := (rM (kT HO530 BK584))
                        have n2_ : Aside0 (Kd.R (Kd.int .i64) 3 ((w104.setCell ⟨gb584, 0, none⟩ (.int .i64 t579)).setCell ⟨gb584, 1, none⟩ (.slice Ao116 t580.length co116)) w.heap.size (ofs []) (.slice Ao31 t534.length co31) t534) := (rM (kT HO536 BK584))
                        have n3_ : Aside0 (Kd.R (Kd.int .i64) 3 ((w104.setCell ⟨gb584, 0, none⟩ (.int .i64 t579)).setCell ⟨gb584, 1, none⟩ (.slice Ao116 t580.length co116)) w.heap.size (ofs []) (.slice Ao38 t540.length co38) t540) := (rM (kT HO542 BK584))
                        have n4_ : Aside0 (Kd.R (Kd.int .i64) 3 ((w104.setCell ⟨gb584, 0, none⟩ (.int .i64 t579)).setCell ⟨gb584, 1, none⟩ (.slice Ao116 t580.length co116)) w.heap.size (ofs []) (.slice Ao46 t546.length co46) t546) := (rM (kT HO548 BK584))
                        have n5_ : Aside0 (Kd.R (Kd.int .i64) 3 ((w104.setCell ⟨gb584, 0, none⟩ (.int .i64 t579)).setCell ⟨gb584, 1, none⟩ (.slice Ao116 t580.length co116)) w.heap.size (ofs []) (.slice Ao55 t551.length co55) t551) := (rM (kT HO553 BK584))
                        have n6_ : Aside0 (Kd.R (Kd.int .i64) 3 ((w104.setCell ⟨gb584, 0, none⟩ (.int .i64 t579)).setCell ⟨gb584, 1, none⟩ (.slice Ao116 t580.length co116)) w.heap.size (ofs []) (.slice Ao66 t557.length co66) t557) := (rM (kT HO559 BK584))
                        have n7_ : Aside0 (Kd.R (Kd.int .i64) 3 ((w104.setCell ⟨gb584, 0, none⟩ (.int .i64 t579)).setCell ⟨gb584, 1, none⟩ (.slice Ao116 t580.length co116)) w.heap.size (ofs []) (.slice Ao79 t563.length co79) t563) := (rM (kT HO565 BK584))
                        have n8_ : Aside0 (Kd.R (Kd.int .i64) 3 ((w104.setCell ⟨gb584, 0, none⟩ (.int .i64 t579)).setCell ⟨gb584, 1, none⟩ (.slice Ao116 t580.length co116)) w.heap.size (ofs []) (.slice Ao88 t567.length co88) t567) := (rM (kT HO569 BK584))
                        have n9_ : Aside0 (Kd.R (Kd.int .i64) 3 ((w104.setCell ⟨gb584, 0, none⟩ (.int .i64 t579)).setCell ⟨gb584, 1, none⟩ (.slice Ao116 t580.length co116)) w.heap.size (ofs []) (.slice Ao102 t574.length co102) t574) := (rM (kT HO576 BK584))
                        have n10_ : Aside0 (Kd.R (Kd.int .i64) 3 ((w104.setCell ⟨gb584, 0, none⟩ (.int .i64 t579)).setCell ⟨gb584, 1, none⟩ (.slice Ao116 t580.length co116)) w.heap.size (ofs []) (.slice Ao116 t580.length co116) t580) := (rM (kT HO582 BK584))
                        have n11_ : Aside0 (((w104.setCell ⟨gb584, 0, none⟩ (.int .i64 t579)).setCell ⟨gb584, 1, none⟩ (.slice Ao116 t580.length co116)).heap[gb526]? = some (.cells #[.int .i64 t522, .slice Ao19 t523.length co19] 26 (0, 0))) := (qF NB526_584 (qF NB526_584 BK526))
                        have n12_ : Aside0 (((w104.setCell ⟨gb584, 0, none⟩ (.int .i64 t579)).setCell ⟨gb584, 1, none⟩ (.slice Ao116 t580.length co116)).heap[gb532]? = some (.cells #[.int .i64 t527, .slice Ao24 t528.length co24] 26 (0, 0))) := (qF NB532_584 (qF NB532_584 BK532))
                        have n13_ : Aside0 (((w104.setCell ⟨gb584, 0, none⟩ (.int .i64 t579)).setCell ⟨gb584, 1, none⟩ (.slice Ao116 t580.length co116)).heap[gb538]? = some (.cells #[.int .i64 t533, .slice Ao31 t534.length co31] 26 (0, 0))) := (qF NB538_584 (qF NB538_584 BK538))
                        have n14_ : Aside0 (((w104.setCell ⟨gb584, 0, none⟩ (.int .i64 t579)).setCell ⟨gb584, 1, none⟩ (.slice Ao116 t580.length co116)).heap[gb544]? = some (.cells #[.int .i64 t539, .slice Ao38 t540.length co38] 26 (0, 0))) := (qF NB544_584 (qF NB544_584 BK544))
                        have n15_ : Aside0 (((w104.setCell ⟨gb584, 0, none⟩ (.int .i64 t579)).setCell ⟨gb584, 1, none⟩ (.slice Ao116 t580.length co116)).heap[gb549]? = some (.cells #[.int .i64 t545, .slice Ao46 t546.length co46] 26 (0, 0))) := (qF NB549_584 (qF NB549_584 BK549))
                        have n16_ : Aside0 (((w104.setCell ⟨gb584, 0, none⟩ (.int .i64 t579)).setCell ⟨gb584, 1, none⟩ (.slice Ao116 t580.length co116)).heap[gb555]? = some (.cells #[.int .i64 t550, .slice Ao55 t551.length co55] 26 (0, 0))) := (qF NB555_584 (qF NB555_584 BK555))
                        have n17_ : Aside0 (((w104.setCell ⟨gb584, 0, none⟩ (.int .i64 t579)).setCell ⟨gb584, 1, none⟩ (.slice Ao116 t580.length co116)).heap[gb561]? = some (.cells #[.int .i64 t556, .slice Ao66 t557.length co66] 26 (0, 0))) := (qF NB561_584 (qF NB561_584 BK561))
                        have n18_ : Aside0 (((w104.setCell ⟨gb584, 0, none⟩ (.int .i64 t579)).setCell ⟨gb584, 1, none⟩ (.slice Ao116 t580.length co116)).heap[gb570]? = some (.cells #[.int .i64 t562, .slice Ao79 t563.length co79] 26 (0, 0))) := (qF NB570_584 (qF NB570_584 BK570))
                        have n19_ : Aside0 (((w104.setCell ⟨gb584, 0, none⟩ (.int .i64 t579)).setCell ⟨gb584, 1, none⟩ (.slice Ao116 t580.length co116)).heap[gb571]? = some (.cells #[.int .i64 t566, .slice Ao88 t567.length co88] 26 (0, 0))) := (qF NB571_584 (qF NB571_584 BK571))
                        have n20_ : Aside0 (((w104.setCell ⟨gb584, 0, none⟩ (.int .i64 t579)).setCell ⟨gb584, 1, none⟩ (.slice Ao116 t580.length co116)).heap[gb578]? = some (.cells #[.int .i64 t573, .slice Ao102 t574.length co102] 26 (0, 0))) := (qF NB578_584 (qF NB578_584 BK578))
                        have n21_ : Aside0 (((w104.setCell ⟨gb584, 0, none⟩ (.int .i64 t579)).setCell ⟨gb584, 1, none⟩ (.slice Ao116 t580.length co116)).heap[gb584]? = some (.cells #[.int .i64 t579, .slice Ao116 t580.length co116] 26 (0, 0))) := (qP (qP BK584))
                        have n22_ : Aside0 (Below w.heap.size w ((w104.setCell ⟨gb584, 0, none⟩ (.int .i64 t579)).setCell ⟨gb584, 1, none⟩ (.slice Ao116 t580.length co116))) := ⟨hB_⟩
                        (try clear HO525)
                        (try clear HO530)
                        (try clear HO536)
                        (try clear HO542)
                        (try clear HO548)
                        (try clear HO553)
                        (try clear HO559)
                        (try clear HO565)
                        (try clear HO569)
                        (try clear HO576)
                        (try clear HO582)
                        (try clear BK526)
                        (try clear BK532)
                        (try clear BK538)
                        (try clear BK544)
                        (try clear BK549)
                        (try clear BK555)
                        (try clear BK561)
                        (try clear BK570)
                        (try clear BK571)
                        (try clear BK578)
                        (try clear BK584)
                        (try clear HB)
                        generalize ((w104.setCell ⟨gb584, 0, none⟩ (.int .i64 t579)).setCell ⟨gb584, 1, none⟩ (.slice Ao116 t580.length co116)) = w170 at n0_ n1_ n2_ n3_ n4_ n5_ n6_ n7_ n8_ n9_ n10_ n11_ n12_ n13_ n14_ n15_ n16_ n17_ n18_ n19_ n20_ n21_ n22_ ⊢
                        have HO525 := n0_
                        have HO530 := n1_
                        have HO536 := n2_
                        have HO542 := n3_
                        have HO548 := n4_
                        have HO553 := n5_
                        have HO559 := n6_
                        have HO565 := n7_
                        have HO569 := n8_
                        have HO576 := n9_
                        have HO582 := n10_
                        have BK526 := n11_
                        have BK532 := n12_
                        have BK538 := n13_
                        have BK544 := n14_
                        have BK549 := n15_
                        have BK555 := n16_
                        have BK561 := n17_
                        have BK570 := n18_
                        have BK571 := n19_
                        have BK578 := n20_
                        have BK584 := n21_
                        have HB := n22_
                        clear n0_ n1_ n2_ n3_ n4_ n5_ n6_ n7_ n8_ n9_ n10_ n11_ n12_ n13_ n14_ n15_ n16_ n17_ n18_ n19_ n20_ n21_ n22_
                        replace HO525 := Aside0.mk (Kd.R_drew HO525.out)
                        replace HO530 := Aside0.mk (Kd.R_drew HO530.out)
                        replace HO536 := Aside0.mk (Kd.R_drew HO536.out)
                        replace HO542 := Aside0.mk (Kd.R_drew HO542.out)
                        replace HO548 := Aside0.mk (Kd.R_drew HO548.out)
                        replace HO553 := Aside0.mk (Kd.R_drew HO553.out)
                        replace HO559 := Aside0.mk (Kd.R_drew HO559.out)
                        replace HO565 := Aside0.mk (Kd.R_drew HO565.out)
                        replace HO569 := Aside0.mk (Kd.R_drew HO569.out)
                        replace HO576 := Aside0.mk (Kd.R_drew HO576.out)
                        replace HO582 := Aside0.mk (Kd.R_drew HO582.out)
                        replace BK526 := Aside0.mk (blk_drew BK526.out)
                        replace BK532 := Aside0.mk (blk_drew BK532.out)
                        replace BK538 := Aside0.mk (blk_drew BK538.out)
                        replace BK544 := Aside0.mk (blk_drew BK544.out)
                        replace BK549 := Aside0.mk (blk_drew BK549.out)
                        replace BK555 := Aside0.mk (blk_drew BK555.out)
                        replace BK561 := Aside0.mk (blk_drew BK561.out)
                        replace BK570 := Aside0.mk (blk_drew BK570.out)
                        replace BK571 := Aside0.mk (blk_drew BK571.out)
                        replace BK578 := Aside0.mk (blk_drew BK578.out)
                        replace BK584 := Aside0.mk (blk_drew BK584.out)
                        replace HB := Aside0.mk (below_drew1 HB.out)
                        refine start_ (n := 64) (S := fun w' => w'.cell? ⟨gb532, 0, none⟩ = some (.int .i64 t527) ∧ w'.cell? ⟨gb532, 1, none⟩ = some (.slice Ao24 t528.length co24) ∧ w'.cell? ⟨gb538, 0, none⟩ = some (.int .i64 t533) ∧ w'.cell? ⟨gb538, 1, none⟩ = some (.slice Ao31 t534.length co31) ∧ w'.cell? ⟨gb544, 0, none⟩ = some (.int .i64 t539) ∧ w'.cell? ⟨gb544, 1, none⟩ = some (.slice Ao38 t540.length co38) ∧ w'.cell? ⟨gb555, 0, none⟩ = some (.int .i64 t550) ∧ w'.cell? ⟨gb555, 1, none⟩ = some (.slice Ao55 t551.length co55) ∧ w'.cell? ⟨gb561, 0, none⟩ = some (.int .i64 t556) ∧ w'.cell? ⟨gb561, 1, none⟩ = some (.slice Ao66 t557.length co66) ∧ w'.cell? ⟨gb570, 0, none⟩ = some (.int .i64 t562) ∧ w'.cell? ⟨gb570, 1, none⟩ = some (.slice Ao79 t563.length co79) ∧ w'.cell? ⟨gb571, 0, none⟩ = some (.int .i64 t566) ∧ w'.cell? ⟨gb571, 1, none⟩ = some (.slice Ao88 t567.length co88) ∧ w'.cell? ⟨gb578, 0, none⟩ = some (.int .i64 t573) ∧ w'.cell? ⟨gb578, 1, none⟩ = some (.slice Ao102 t574.length co102) ∧ w'.cell? ⟨gb584, 0, none⟩ = some (.int .i64 t579) ∧ w'.cell? ⟨gb584, 1, none⟩ = some (.slice Ao116 t580.length co116)) (ds := []) #[false,false,false,false,false,false,false,false,false,false,false,false,false,false,false,false,false,false,false,false,false,false,false,false,false,false,false,false,false,false,false,false,false,false,false,false,false,false,false,false,false,false,false,false,false,false,false,false,false,false,false,false,false,false,false,false,false,false,false,false,false,false,false,false] (by kernel_rfl) rfl rfl ⟨(blk_cell BK532.out 0).trans rfl, (blk_cell BK532.out 1).trans rfl, (blk_cell BK538.out 0).trans rfl, (blk_cell BK538.out 1).trans rfl, (blk_cell BK544.out 0).trans rfl, (blk_cell BK544.out 1).trans rfl, (blk_cell BK555.out 0).trans rfl, (blk_cell BK555.out 1).trans rfl, (blk_cell BK561.out 0).trans rfl, (blk_cell BK561.out 1).trans rfl, (blk_cell BK570.out 0).trans rfl, (blk_cell BK570.out 1).trans rfl, (blk_cell BK571.out 0).trans rfl, (blk_cell BK571.out 1).trans rfl, (blk_cell BK578.out 0).trans rfl, (blk_cell BK578.out 1).trans rfl, (blk_cell BK584.out 0).trans rfl, (blk_cell BK584.out 1).trans rfl⟩ (fun hHeld => ?_); refine with_tabW laws_FnContexts.tab14 laws_FnContexts.bits14 (fun HT_ HW_ => ?_)
                        generalize w170.drew = w171 at HO525 HO530 HO536 HO542 HO548 HO553 HO559 HO565 HO569 HO576 HO582 BK526 BK532 BK538 BK544 BK549 BK555 BK561 BK570 BK571 BK578 BK584 HB hHeld ⊢
                        refine pure_ (i := 0) (N := some 77) (v := ?_) (a' := ?_) (nb 64 1) rfl rfl (any_of HT_.out (by kernel_rfl)) (fun _ _ _ h => h) (Or.inl ⟨by rfl, ?_⟩) ?_ ?_
                        rotate_left
                        · intro w'
                          go_simp
                          with_reducible rfl
                        rotate_left
                        · simp only [Act.put, setIfInBounds_toArray, set_cons_zero, set_cons_succ, i64_w, i32_w]
                          rfl
                        refine pure_ (i := 1) (N := some 78) (v := ?_) (a' := ?_) (nb 64 3) rfl rfl (any_of HT_.out (by kernel_rfl)) (fun _ _ _ h => h) (Or.inl ⟨by rfl, ?_⟩) ?_ ?_
                        rotate_left
                        · intro w'
                          go_simp
                          with_reducible rfl
                        rotate_left
                        · simp only [Act.put, setIfInBounds_toArray, set_cons_zero, set_cons_succ, i64_w, i32_w]
                          rfl
                        refine pure_ (i := 2) (N := some 79) (v := ?_) (a' := ?_) (nb 64 7) rfl rfl (any_of HT_.out (by kernel_rfl)) (fun _ _ _ h => h) (Or.inl ⟨by rfl, ?_⟩) ?_ ?_
                        rotate_left
                        · intro w'
                          go_simp
                          with_reducible rfl
                        rotate_left
                        · simp only [Act.put, setIfInBounds_toArray, set_cons_zero, set_cons_succ, i64_w, i32_w]
                          rfl
                        refine pure_ (i := 3) (N := some 80) (v := ?_) (a' := ?_) (nb 64 15) rfl rfl (any_of HT_.out (by kernel_rfl)) (fun _ _ _ h => h) (Or.inl ⟨by rfl, ?_⟩) ?_ ?_
                        rotate_left
                        · intro w'
                          go_simp
                          with_reducible rfl
                        rotate_left
                        · simp only [Act.put, setIfInBounds_toArray, set_cons_zero, set_cons_succ, i64_w, i32_w]
                          rfl
                        refine take_ (i := 4) (N := some 81) (v := ?_) (a' := ?_) (nb 64 31) rfl rfl (take_ofW HT_.out HW_.out (by kernel_rfl)) (fun _ _ _ h => h) (Or.inl ⟨by rfl, ?_⟩) hHeld ?_ ?_
                        rotate_left
                        · rintro w' ⟨s0, s1, s2, s3, s4, s5, s6, s7, s8, s9, s10, s11, s12, s13, s14, s15, s16, s17⟩
                          go_simp
                          with_reducible rfl
                        rotate_left
                        · simp only [Act.put, setIfInBounds_toArray, set_cons_zero, set_cons_succ, i64_w, i32_w]
                          rfl
                        refine take_ (i := 5) (N := some 82) (v := ?_) (a' := ?_) (nb 64 63) rfl rfl (take_ofW HT_.out HW_.out (by kernel_rfl)) (fun _ _ _ h => h) (Or.inl ⟨by rfl, ?_⟩) hHeld ?_ ?_
                        rotate_left
                        · rintro w' ⟨s0, s1, s2, s3, s4, s5, s6, s7, s8, s9, s10, s11, s12, s13, s14, s15, s16, s17⟩
                          go_simp
                          with_reducible rfl
                        rotate_left
                        · simp only [Act.put, setIfInBounds_toArray, set_cons_zero, set_cons_succ, i64_w, i32_w]
                          rfl
                        refine one_ (i := 6) (N := some 83) (nb 64 127) rfl rfl (one_of HT_.out (by kernel_rfl)) (by decide) (fun K hK => ?_)
                        refine goes_ Tryz.func16 (by kernel_rfl) rfl #[.agg #[.int .i64 t527, .slice Ao24 t528.length co24], .agg #[.int .i64 t533, .slice Ao31 t534.length co31]] (by rfl) rfl rfl gL_ ?_
                        with_reducible refine (spec_EqualContext.calls k t527 _ _ t528 t533 _ _ t534 true _ ?side1 ?side2 ?side3 ?side4 A120.out).mono ?_
                        (case side1 => exact rC HO530)
                        (case side2 => exact (Kd.R_reads' HO530.out).2.1)
                        (case side3 => exact rC HO536)
                        (case side4 => exact (Kd.R_reads' HO536.out).2.1)
                        rintro e w172 ⟨rfl, hb⟩
                        refine ⟨_, rfl, ?_⟩
                        replace HO525 := kR HO525 hb
                        replace HO530 := kR HO530 hb
                        clear HO536
                        replace HO542 := kR HO542 hb
                        replace HO548 := kR HO548 hb
                        replace HO553 := kR HO553 hb
                        replace HO559 := kR HO559 hb
                        replace HO565 := kR HO565 hb
                        replace HO569 := kR HO569 hb
                        replace HO576 := kR HO576 hb
                        replace HO582 := kR HO582 hb
                        replace BK526 := kB BK526 hb
                        replace BK532 := kB BK532 hb
                        replace BK538 := kB BK538 hb
                        replace BK544 := kB BK544 hb
                        replace BK549 := kB BK549 hb
                        replace BK555 := kB BK555 hb
                        replace BK561 := kB BK561 hb
                        replace BK570 := kB BK570 hb
                        replace BK571 := kB BK571 hb
                        replace BK578 := kB BK578 hb
                        replace BK584 := kB BK584 hb
                        replace HB := kH HB hb
                        (try clear hb)
                        (try clear hb2)
                        (try clear hk)
                        (try clear hi)
                        refine hK.out _ _ ⟨(blk_cell BK532.out 0).trans rfl, (blk_cell BK532.out 1).trans rfl, (blk_cell BK538.out 0).trans rfl, (blk_cell BK538.out 1).trans rfl, (blk_cell BK544.out 0).trans rfl, (blk_cell BK544.out 1).trans rfl, (blk_cell BK555.out 0).trans rfl, (blk_cell BK555.out 1).trans rfl, (blk_cell BK561.out 0).trans rfl, (blk_cell BK561.out 1).trans rfl, (blk_cell BK570.out 0).trans rfl, (blk_cell BK570.out 1).trans rfl, (blk_cell BK571.out 0).trans rfl, (blk_cell BK571.out 1).trans rfl, (blk_cell BK578.out 0).trans rfl, (blk_cell BK578.out 1).trans rfl, (blk_cell BK584.out 0).trans rfl, (blk_cell BK584.out 1).trans rfl⟩ (fun hHeld => ?_)
                        clear hK K
                        refine norm_ (a' := ?_) ?_ ?_
                        rotate_left
                        · show Act.put _ (some 83) _ = _
                          simp only [Act.put, setIfInBounds_toArray, set_cons_zero, set_cons_succ, i64_w, i32_w]
                          rfl
                        refine pure_ (i := 7) (N := some 84) (v := ?_) (a' := ?_) (nb 64 255) rfl rfl (any_of HT_.out (by kernel_rfl)) (fun _ _ _ h => h) (Or.inl ⟨by rfl, ?_⟩) ?_ ?_
                        rotate_left
                        · intro w'
                          go_simp
                          with_reducible rfl
                        rotate_left
                        · simp only [Act.put, setIfInBounds_toArray, set_cons_zero, set_cons_succ, i64_w, i32_w]
                          rfl
                        refine pure_ (i := 8) (N := some 85) (v := ?_) (a' := ?_) (nb 64 511) rfl rfl (any_of HT_.out (by kernel_rfl)) (fun _ _ _ h => h) (Or.inl ⟨by rfl, ?_⟩) ?_ ?_
                        rotate_left
                        · intro w'
                          go_simp
                          with_reducible rfl
                        rotate_left
                        · simp only [Act.put, setIfInBounds_toArray, set_cons_zero, set_cons_succ, i64_w, i32_w]
                          rfl
                        refine pure_ (i := 9) (N := some 86) (v := ?_) (a' := ?_) (nb 64 1023) rfl rfl (any_of HT_.out (by kernel_rfl)) (fun _ _ _ h => h) (Or.inl ⟨by rfl, ?_⟩) ?_ ?_
                        rotate_left
                        · intro w'
                          go_simp
                          with_reducible rfl
                        rotate_left
                        · simp only [Act.put, setIfInBounds_toArray, set_cons_zero, set_cons_succ, i64_w, i32_w]
                          rfl
                        refine pure_ (i := 11) (N := some 88) (v := ?_) (a' := ?_) (nb 64 3071) rfl rfl (any_of HT_.out (by kernel_rfl)) (fun _ _ _ h => h) (Or.inl ⟨by rfl, ?_⟩) ?_ ?_
                        rotate_left
                        · intro w'
                          go_simp
                          with_reducible rfl
                        rotate_left
                        · simp only [Act.put, setIfInBounds_toArray, set_cons_zero, set_cons_succ, i64_w, i32_w]
                          rfl
                        refine pure_ (i := 14) (N := some 91) (v := ?_) (a' := ?_) (nb 64 19455) rfl rfl (any_of HT_.out (by kernel_rfl)) (fun _ _ _ h => h) (Or.inl ⟨by rfl, ?_⟩) ?_ ?_
                        rotate_left
                        · intro w'
                          go_simp
                          with_reducible rfl
                        rotate_left
                        · simp only [Act.put, setIfInBounds_toArray, set_cons_zero, set_cons_succ, i64_w, i32_w]
                          rfl
                        refine take_ (i := 10) (N := some 87) (v := ?_) (a' := ?_) (nb 64 20479) rfl rfl (take_ofW HT_.out HW_.out (by kernel_rfl)) (fun _ _ _ h => h) (Or.inl ⟨by rfl, ?_⟩) hHeld ?_ ?_
                        rotate_left
                        · rintro w' ⟨s0, s1, s2, s3, s4, s5, s6, s7, s8, s9, s10, s11, s12, s13, s14, s15, s16, s17⟩
                          go_simp
                          with_reducible rfl
                        rotate_left
                        · simp only [Act.put, setIfInBounds_toArray, set_cons_zero, set_cons_succ, i64_w, i32_w]
                          rfl
                        refine take_ (i := 13) (N := some 90) (v := ?_) (a' := ?_) (nb 64 28671) rfl rfl (take_ofW HT_.out HW_.out (by kernel_rfl)) (fun _ _ _ h => h) (Or.inl ⟨by rfl, ?_⟩) hHeld ?_ ?_
                        rotate_left
                        · rintro w' ⟨s0, s1, s2, s3, s4, s5, s6, s7, s8, s9, s10, s11, s12, s13, s14, s15, s16, s17⟩
                          go_simp
                          with_reducible rfl
                        rotate_left
                        · simp only [Act.put, setIfInBounds_toArray, set_cons_zero, set_cons_succ, i64_w, i32_w]
                          rfl
                        refine one_ (i := 12) (N := some 89) (nb 64 32767) rfl rfl (one_of HT_.out (by kernel_rfl)) (by decide) (fun K hK => ?_)
                        refine goes_ Tryz.func17 (by kernel_rfl) rfl #[.agg #[.int .i64 t539, .slice Ao38 t540.length co38], .int .i64 t543] (by rfl) rfl rfl gL_ ?_
                        with_reducible refine (impl_ColumnOf.calls k t539 _ _ t540 t543 t586 _ ?side1 ?side2 A122.out).mono ?_
                        (case side1 => exact rC HO542)
                        (case side2 => exact (Kd.R_reads' HO542.out).2.1)
                        rintro e w173 ⟨rfl, hb⟩
                        refine ⟨_, rfl, ?_⟩
                        replace HO525 := kR HO525 hb
                        replace HO530 := kR HO530 hb
                        replace HO542 := kR HO542 hb
                        replace HO548 := kR HO548 hb
                        replace HO553 := kR HO553 hb
                        replace HO559 := kR HO559 hb
                        replace HO565 := kR HO565 hb
                        replace HO569 := kR HO569 hb
                        replace HO576 := kR HO576 hb
                        replace HO582 := kR HO582 hb
                        replace BK526 := kB BK526 hb
                        replace BK532 := kB BK532 hb
                        replace BK538 := kB BK538 hb
                        replace BK544 := kB BK544 hb
                        replace BK549 := kB BK549 hb
                        replace BK555 := kB BK555 hb
                        replace BK561 := kB BK561 hb
                        replace BK570 := kB BK570 hb
                        replace BK571 := kB BK571 hb
                        replace BK578 := kB BK578 hb
                        replace BK584 := kB BK584 hb
                        replace HB := kH HB hb
                        (try clear hb)
                        (try clear hb2)
                        (try clear hk)
                        (try clear hi)
                        refine hK.out _ _ ⟨(blk_cell BK532.out 0).trans rfl, (blk_cell BK532.out 1).trans rfl, (blk_cell BK538.out 0).trans rfl, (blk_cell BK538.out 1).trans rfl, (blk_cell BK544.out 0).trans rfl, (blk_cell BK544.out 1).trans rfl, (blk_cell BK555.out 0).trans rfl, (blk_cell BK555.out 1).trans rfl, (blk_cell BK561.out 0).trans rfl, (blk_cell BK561.out 1).trans rfl, (blk_cell BK570.out 0).trans rfl, (blk_cell BK570.out 1).trans rfl, (blk_cell BK571.out 0).trans rfl, (blk_cell BK571.out 1).trans rfl, (blk_cell BK578.out 0).trans rfl, (blk_cell BK578.out 1).trans rfl, (blk_cell BK584.out 0).trans rfl, (blk_cell BK584.out 1).trans rfl⟩ (fun hHeld => ?_)
                        clear hK K
                        refine norm_ (a' := ?_) ?_ ?_
                        rotate_left
                        · show Act.put _ (some 89) _ = _
                          simp only [Act.put, setIfInBounds_toArray, set_cons_zero, set_cons_succ, i64_w, i32_w]
                          rfl
                        refine one_ (i := 15) (N := some 92) (nb 64 65535) rfl rfl (one_of HT_.out (by kernel_rfl)) (by decide) (fun K hK => ?_)
                        refine goes_ Tryz.func18 (by kernel_rfl) rfl #[.agg #[.int .i64 t539, .slice Ao38 t540.length co38], .int .i64 t543] (by rfl) rfl rfl gL_ ?_
                        with_reducible refine (spec_ColumnOf.calls k t539 _ _ t540 t543 t587 _ ?side1 ?side2 A123.out).mono ?_
                        (case side1 => exact rC HO542)
                        (case side2 => exact (Kd.R_reads' HO542.out).2.1)
                        rintro e w174 ⟨rfl, hb⟩
                        refine ⟨_, rfl, ?_⟩
                        replace HO525 := kR HO525 hb
                        replace HO530 := kR HO530 hb
                        clear HO542
                        replace HO548 := kR HO548 hb
                        replace HO553 := kR HO553 hb
                        replace HO559 := kR HO559 hb
                        replace HO565 := kR HO565 hb
                        replace HO569 := kR HO569 hb
                        replace HO576 := kR HO576 hb
                        replace HO582 := kR HO582 hb
                        replace BK526 := kB BK526 hb
                        replace BK532 := kB BK532 hb
                        replace BK538 := kB BK538 hb
                        replace BK544 := kB BK544 hb
                        replace BK549 := kB BK549 hb
                        replace BK555 := kB BK555 hb
                        replace BK561 := kB BK561 hb
                        replace BK570 := kB BK570 hb
                        replace BK571 := kB BK571 hb
                        replace BK578 := kB BK578 hb
                        replace BK584 := kB BK584 hb
                        replace HB := kH HB hb
                        (try clear hb)
                        (try clear hb2)
                        (try clear hk)
                        (try clear hi)
                        refine hK.out _ _ ⟨(blk_cell BK532.out 0).trans rfl, (blk_cell BK532.out 1).trans rfl, (blk_cell BK538.out 0).trans rfl, (blk_cell BK538.out 1).trans rfl, (blk_cell BK544.out 0).trans rfl, (blk_cell BK544.out 1).trans rfl, (blk_cell BK555.out 0).trans rfl, (blk_cell BK555.out 1).trans rfl, (blk_cell BK561.out 0).trans rfl, (blk_cell BK561.out 1).trans rfl, (blk_cell BK570.out 0).trans rfl, (blk_cell BK570.out 1).trans rfl, (blk_cell BK571.out 0).trans rfl, (blk_cell BK571.out 1).trans rfl, (blk_cell BK578.out 0).trans rfl, (blk_cell BK578.out 1).trans rfl, (blk_cell BK584.out 0).trans rfl, (blk_cell BK584.out 1).trans rfl⟩ (fun hHeld => ?_)
                        clear hK K
                        refine norm_ (a' := ?_) ?_ ?_
                        rotate_left
                        · show Act.put _ (some 92) _ = _
                          simp only [Act.put, setIfInBounds_toArray, set_cons_zero, set_cons_succ, i64_w, i32_w]
                          rfl
                        refine pure_ (i := 16) (N := some 93) (v := ?_) (a' := ?_) (nb 64 131071) rfl rfl (any_of HT_.out (by kernel_rfl)) (fun _ _ _ h => h) (Or.inl ⟨by rfl, ?_⟩) ?_ ?_
                        rotate_left
                        · intro w'
                          go_simp
                          with_reducible rfl
                        rotate_left
                        · simp only [Act.put, setIfInBounds_toArray, set_cons_zero, set_cons_succ, i64_w, i32_w]
                          rfl
                        refine pure_ (i := 17) (N := some 94) (v := ?_) (a' := ?_) (nb 64 262143) rfl rfl (any_of HT_.out (by kernel_rfl)) (fun _ _ _ h => h) (Or.inl ⟨by rfl, ?_⟩) ?_ ?_
                        rotate_left
                        · intro w'
                          go_simp
                          with_reducible rfl
                        rotate_left
                        · simp only [Act.put, setIfInBounds_toArray, set_cons_zero, set_cons_succ, i64_w, i32_w]
                          rfl
                        refine pure_ (i := 18) (N := some 95) (v := ?_) (a' := ?_) (nb 64 524287) rfl rfl (any_of HT_.out (by kernel_rfl)) (fun _ _ _ h => h) (Or.inl ⟨by rfl, ?_⟩) ?_ ?_
                        rotate_left
                        · intro w'
                          go_simp
                          with_reducible rfl
                        rotate_left
                        · simp only [Act.put, setIfInBounds_toArray, set_cons_zero, set_cons_succ, i64_w, i32_w]
                          rfl
                        refine pure_ (i := 19) (N := some 96) (v := ?_) (a' := ?_) (nb 64 1048575) rfl rfl (any_of HT_.out (by kernel_rfl)) (fun _ _ _ h => h) (Or.inl ⟨by rfl, ?_⟩) ?_ ?_
                        rotate_left
                        · intro w'
                          go_simp
                          with_reducible rfl
                        rotate_left
                        · simp only [Act.put, setIfInBounds_toArray, set_cons_zero, set_cons_succ, i64_w, i32_w]
                          rfl
                        refine pure_ (i := 20) (N := some 97) (v := ?_) (a' := ?_) (nb 64 2097151) rfl rfl (any_of HT_.out (by kernel_rfl)) (fun _ _ _ h => h) (Or.inl ⟨by rfl, ?_⟩) ?_ ?_
                        rotate_left
                        · intro w'
                          go_simp
                          with_reducible rfl
                        rotate_left
                        · simp only [Act.put, setIfInBounds_toArray, set_cons_zero, set_cons_succ, i64_w, i32_w]
                          rfl
                        refine pure_ (i := 21) (N := some 98) (v := ?_) (a' := ?_) (nb 64 4194303) rfl rfl (any_of HT_.out (by kernel_rfl)) (fun _ _ _ h => h) (Or.inl ⟨by rfl, ?_⟩) ?_ ?_
                        rotate_left
                        · intro w'
                          go_simp
                          with_reducible rfl
                        rotate_left
                        · simp only [Act.put, setIfInBounds_toArray, set_cons_zero, set_cons_succ, i64_w, i32_w]
                          rfl
                        refine pure_ (i := 22) (N := some 99) (v := ?_) (a' := ?_) (nb 64 8388607) rfl rfl (any_of HT_.out (by kernel_rfl)) (fun _ _ _ h => h) (Or.inl ⟨by rfl, ?_⟩) ?_ ?_
                        rotate_left
                        · intro w'
                          go_simp
                          with_reducible rfl
                        rotate_left
                        · simp only [Act.put, setIfInBounds_toArray, set_cons_zero, set_cons_succ, i64_w, i32_w]
                          rfl
                        refine pure_ (i := 23) (N := some 100) (v := ?_) (a' := ?_) (nb 64 16777215) rfl rfl (any_of HT_.out (by kernel_rfl)) (fun _ _ _ h => h) (Or.inl ⟨by rfl, ?_⟩) ?_ ?_
                        rotate_left
                        · intro w'
                          go_simp
                          with_reducible rfl
                        rotate_left
                        · simp only [Act.put, setIfInBounds_toArray, set_cons_zero, set_cons_succ, i64_w, i32_w]
                          rfl
                        refine take_ (i := 24) (N := some 101) (v := ?_) (a' := ?_) (nb 64 33554431) rfl rfl (take_ofW HT_.out HW_.out (by kernel_rfl)) (fun _ _ _ h => h) (Or.inl ⟨by rfl, ?_⟩) hHeld ?_ ?_
                        rotate_left
                        · rintro w' ⟨s0, s1, s2, s3, s4, s5, s6, s7, s8, s9, s10, s11, s12, s13, s14, s15, s16, s17⟩
                          go_simp
                          with_reducible rfl
                        rotate_left
                        · simp only [Act.put, setIfInBounds_toArray, set_cons_zero, set_cons_succ, i64_w, i32_w]
                          rfl
                        refine take_ (i := 25) (N := some 102) (v := ?_) (a' := ?_) (nb 64 67108863) rfl rfl (take_ofW HT_.out HW_.out (by kernel_rfl)) (fun _ _ _ h => h) (Or.inl ⟨by rfl, ?_⟩) hHeld ?_ ?_
                        rotate_left
                        · rintro w' ⟨s0, s1, s2, s3, s4, s5, s6, s7, s8, s9, s10, s11, s12, s13, s14, s15, s16, s17⟩
                          go_simp
                          with_reducible rfl
                        rotate_left
                        · simp only [Act.put, setIfInBounds_toArray, set_cons_zero, set_cons_succ, i64_w, i32_w]
                          rfl
                        refine one_ (i := 26) (N := some 103) (nb 64 134217727) rfl rfl (one_of HT_.out (by kernel_rfl)) (by decide) (fun K hK => ?_)
                        refine goes_ Tryz.func16 (by kernel_rfl) rfl #[.agg #[.int .i64 t550, .slice Ao55 t551.length co55], .agg #[.int .i64 t556, .slice Ao66 t557.length co66]] (by rfl) rfl rfl gL_ ?_
                        with_reducible refine (spec_EqualContext.calls k t550 _ _ t551 t556 _ _ t557 true _ ?side1 ?side2 ?side3 ?side4 A131.out).mono ?_
                        (case side1 => exact rC HO553)
                        (case side2 => exact (Kd.R_reads' HO553.out).2.1)
                        (case side3 => exact rC HO559)
                        (case side4 => exact (Kd.R_reads' HO559.out).2.1)
                        rintro e w175 ⟨rfl, hb⟩
                        refine ⟨_, rfl, ?_⟩
                        replace HO525 := kR HO525 hb
                        replace HO530 := kR HO530 hb
                        replace HO548 := kR HO548 hb
                        replace HO553 := kR HO553 hb
                        clear HO559
                        replace HO565 := kR HO565 hb
                        replace HO569 := kR HO569 hb
                        replace HO576 := kR HO576 hb
                        replace HO582 := kR HO582 hb
                        replace BK526 := kB BK526 hb
                        replace BK532 := kB BK532 hb
                        replace BK538 := kB BK538 hb
                        replace BK544 := kB BK544 hb
                        replace BK549 := kB BK549 hb
                        replace BK555 := kB BK555 hb
                        replace BK561 := kB BK561 hb
                        replace BK570 := kB BK570 hb
                        replace BK571 := kB BK571 hb
                        replace BK578 := kB BK578 hb
                        replace BK584 := kB BK584 hb
                        replace HB := kH HB hb
                        (try clear hb)
                        (try clear hb2)
                        (try clear hk)
                        (try clear hi)
                        refine hK.out _ _ ⟨(blk_cell BK532.out 0).trans rfl, (blk_cell BK532.out 1).trans rfl, (blk_cell BK538.out 0).trans rfl, (blk_cell BK538.out 1).trans rfl, (blk_cell BK544.out 0).trans rfl, (blk_cell BK544.out 1).trans rfl, (blk_cell BK555.out 0).trans rfl, (blk_cell BK555.out 1).trans rfl, (blk_cell BK561.out 0).trans rfl, (blk_cell BK561.out 1).trans rfl, (blk_cell BK570.out 0).trans rfl, (blk_cell BK570.out 1).trans rfl, (blk_cell BK571.out 0).trans rfl, (blk_cell BK571.out 1).trans rfl, (blk_cell BK578.out 0).trans rfl, (blk_cell BK578.out 1).trans rfl, (blk_cell BK584.out 0).trans rfl, (blk_cell BK584.out 1).trans rfl⟩ (fun hHeld => ?_)
                        clear hK K
                        refine norm_ (a' := ?_) ?_ ?_
                        rotate_left
                        · show Act.put _ (some 103) _ = _
                          simp only [Act.put, setIfInBounds_toArray, set_cons_zero, set_cons_succ, i64_w, i32_w]
                          rfl
                        refine pure_ (i := 27) (N := some 104) (v := ?_) (a' := ?_) (nb 64 268435455) rfl rfl (any_of HT_.out (by kernel_rfl)) (fun _ _ _ h => h) (Or.inl ⟨by rfl, ?_⟩) ?_ ?_
                        rotate_left
                        · intro w'
                          go_simp
                          with_reducible rfl
                        rotate_left
                        · simp only [Act.put, setIfInBounds_toArray, set_cons_zero, set_cons_succ, i64_w, i32_w]
                          rfl
                        refine pure_ (i := 28) (N := some 105) (v := ?_) (a' := ?_) (nb 64 536870911) rfl rfl (any_of HT_.out (by kernel_rfl)) (fun _ _ _ h => h) (Or.inl ⟨by rfl, ?_⟩) ?_ ?_
                        rotate_left
                        · intro w'
                          go_simp
                          with_reducible rfl
                        rotate_left
                        · simp only [Act.put, setIfInBounds_toArray, set_cons_zero, set_cons_succ, i64_w, i32_w]
                          rfl
                        refine pure_ (i := 29) (N := some 106) (v := ?_) (a' := ?_) (nb 64 1073741823) rfl rfl (any_of HT_.out (by kernel_rfl)) (fun _ _ _ h => h) (Or.inl ⟨by rfl, ?_⟩) ?_ ?_
                        rotate_left
                        · intro w'
                          go_simp
                          with_reducible rfl
                        rotate_left
                        · simp only [Act.put, setIfInBounds_toArray, set_cons_zero, set_cons_succ, i64_w, i32_w]
                          rfl
                        refine take_ (i := 30) (N := some 107) (v := ?_) (a' := ?_) (nb 64 2147483647) rfl rfl (take_ofW HT_.out HW_.out (by kernel_rfl)) (fun _ _ _ h => h) (Or.inl ⟨by rfl, ?_⟩) hHeld ?_ ?_
                        rotate_left
                        · rintro w' ⟨s0, s1, s2, s3, s4, s5, s6, s7, s8, s9, s10, s11, s12, s13, s14, s15, s16, s17⟩
                          go_simp
                          with_reducible rfl
                        rotate_left
                        · simp only [Act.put, setIfInBounds_toArray, set_cons_zero, set_cons_succ, i64_w, i32_w]
                          rfl
                        refine take_ (i := 31) (N := some 108) (v := ?_) (a' := ?_) (nb 64 4294967295) rfl rfl (take_ofW HT_.out HW_.out (by kernel_rfl)) (fun _ _ _ h => h) (Or.inl ⟨by rfl, ?_⟩) hHeld ?_ ?_
                        rotate_left
                        · rintro w' ⟨s0, s1, s2, s3, s4, s5, s6, s7, s8, s9, s10, s11, s12, s13, s14, s15, s16, s17⟩
                          go_simp
                          with_reducible rfl
                        rotate_left
                        · simp only [Act.put, setIfInBounds_toArray, set_cons_zero, set_cons_succ, i64_w, i32_w]
                          rfl
                        refine take_ (i := 33) (N := some 110) (v := ?_) (a' := ?_) (nb 64 12884901887) rfl rfl (take_ofW HT_.out HW_.out (by kernel_rfl)) (fun _ _ _ h => h) (Or.inl ⟨by rfl, ?_⟩) hHeld ?_ ?_
                        rotate_left
                        · rintro w' ⟨s0, s1, s2, s3, s4, s5, s6, s7, s8, s9, s10, s11, s12, s13, s14, s15, s16, s17⟩
                          go_simp
                          with_reducible rfl
                        rotate_left
                        · simp only [Act.put, setIfInBounds_toArray, set_cons_zero, set_cons_succ, i64_w, i32_w]
                          rfl
                        refine take_ (i := 34) (N := some 111) (v := ?_) (a' := ?_) (nb 64 30064771071) rfl rfl (take_ofW HT_.out HW_.out (by kernel_rfl)) (fun _ _ _ h => h) (Or.inl ⟨by rfl, ?_⟩) hHeld ?_ ?_
                        rotate_left
                        · rintro w' ⟨s0, s1, s2, s3, s4, s5, s6, s7, s8, s9, s10, s11, s12, s13, s14, s15, s16, s17⟩
                          go_simp
                          with_reducible rfl
                        rotate_left
                        · simp only [Act.put, setIfInBounds_toArray, set_cons_zero, set_cons_succ, i64_w, i32_w]
                          rfl
                        refine one_ (i := 32) (N := some 109) (nb 64 34359738367) rfl rfl (one_of HT_.out (by kernel_rfl)) (by decide) (fun K hK => ?_)
                        refine goes_ Tryz.func19 (by kernel_rfl) rfl #[.agg #[.int .i64 t562, .slice Ao79 t563.length co79], .agg #[.int .i64 t566, .slice Ao88 t567.length co88]] (by rfl) rfl rfl gL_ ?_
                        with_reducible refine (impl_EqualContext.calls k t562 _ _ t563 t566 _ _ t567 t589 _ ?side1 ?side2 ?side3 ?side4 A133.out).mono ?_
                        (case side1 => exact rC HO565)
                        (case side2 => exact (Kd.R_reads' HO565.out).2.1)
                        (case side3 => exact rC HO569)
                        (case side4 => exact (Kd.R_reads' HO569.out).2.1)
                        rintro e w176 ⟨rfl, hb⟩
                        refine ⟨_, rfl, ?_⟩
                        replace HO525 := kR HO525 hb
                        replace HO530 := kR HO530 hb
                        replace HO548 := kR HO548 hb
                        replace HO553 := kR HO553 hb
                        replace HO565 := kR HO565 hb
                        replace HO569 := kR HO569 hb
                        replace HO576 := kR HO576 hb
                        replace HO582 := kR HO582 hb
                        replace BK526 := kB BK526 hb
                        replace BK532 := kB BK532 hb
                        replace BK538 := kB BK538 hb
                        replace BK544 := kB BK544 hb
                        replace BK549 := kB BK549 hb
                        replace BK555 := kB BK555 hb
                        replace BK561 := kB BK561 hb
                        replace BK570 := kB BK570 hb
                        replace BK571 := kB BK571 hb
                        replace BK578 := kB BK578 hb
                        replace BK584 := kB BK584 hb
                        replace HB := kH HB hb
                        (try clear hb)
                        (try clear hb2)
                        (try clear hk)
                        (try clear hi)
                        refine hK.out _ _ ⟨(blk_cell BK532.out 0).trans rfl, (blk_cell BK532.out 1).trans rfl, (blk_cell BK538.out 0).trans rfl, (blk_cell BK538.out 1).trans rfl, (blk_cell BK544.out 0).trans rfl, (blk_cell BK544.out 1).trans rfl, (blk_cell BK555.out 0).trans rfl, (blk_cell BK555.out 1).trans rfl, (blk_cell BK561.out 0).trans rfl, (blk_cell BK561.out 1).trans rfl, (blk_cell BK570.out 0).trans rfl, (blk_cell BK570.out 1).trans rfl, (blk_cell BK571.out 0).trans rfl, (blk_cell BK571.out 1).trans rfl, (blk_cell BK578.out 0).trans rfl, (blk_cell BK578.out 1).trans rfl, (blk_cell BK584.out 0).trans rfl, (blk_cell BK584.out 1).trans rfl⟩ (fun hHeld => ?_)
                        clear hK K
                        refine norm_ (a' := ?_) ?_ ?_
                        rotate_left
                        · show Act.put _ (some 109) _ = _
                          simp only [Act.put, setIfInBounds_toArray, set_cons_zero, set_cons_succ, i64_w, i32_w]
                          rfl
                        refine one_ (i := 35) (N := some 112) (nb 64 68719476735) rfl rfl (one_of HT_.out (by kernel_rfl)) (by decide) (fun K hK => ?_)
                        refine goes_ Tryz.func16 (by kernel_rfl) rfl #[.agg #[.int .i64 t562, .slice Ao79 t563.length co79], .agg #[.int .i64 t566, .slice Ao88 t567.length co88]] (by rfl) rfl rfl gL_ ?_
                        with_reducible refine (spec_EqualContext.calls k t562 _ _ t563 t566 _ _ t567 t590 _ ?side1 ?side2 ?side3 ?side4 A134.out).mono ?_
                        (case side1 => exact rC HO565)
                        (case side2 => exact (Kd.R_reads' HO565.out).2.1)
                        (case side3 => exact rC HO569)
                        (case side4 => exact (Kd.R_reads' HO569.out).2.1)
                        rintro e w177 ⟨rfl, hb⟩
                        refine ⟨_, rfl, ?_⟩
                        replace HO525 := kR HO525 hb
                        replace HO530 := kR HO530 hb
                        replace HO548 := kR HO548 hb
                        replace HO553 := kR HO553 hb
                        replace HO565 := kR HO565 hb
                        clear HO569
                        replace HO576 := kR HO576 hb
                        replace HO582 := kR HO582 hb
                        replace BK526 := kB BK526 hb
                        replace BK532 := kB BK532 hb
                        replace BK538 := kB BK538 hb
                        replace BK544 := kB BK544 hb
                        replace BK549 := kB BK549 hb
                        replace BK555 := kB BK555 hb
                        replace BK561 := kB BK561 hb
                        replace BK570 := kB BK570 hb
                        replace BK571 := kB BK571 hb
                        replace BK578 := kB BK578 hb
                        replace BK584 := kB BK584 hb
                        replace HB := kH HB hb
                        (try clear hb)
                        (try clear hb2)
                        (try clear hk)
                        (try clear hi)
                        refine hK.out _ _ ⟨(blk_cell BK532.out 0).trans rfl, (blk_cell BK532.out 1).trans rfl, (blk_cell BK538.out 0).trans rfl, (blk_cell BK538.out 1).trans rfl, (blk_cell BK544.out 0).trans rfl, (blk_cell BK544.out 1).trans rfl, (blk_cell BK555.out 0).trans rfl, (blk_cell BK555.out 1).trans rfl, (blk_cell BK561.out 0).trans rfl, (blk_cell BK561.out 1).trans rfl, (blk_cell BK570.out 0).trans rfl, (blk_cell BK570.out 1).trans rfl, (blk_cell BK571.out 0).trans rfl, (blk_cell BK571.out 1).trans rfl, (blk_cell BK578.out 0).trans rfl, (blk_cell BK578.out 1).trans rfl, (blk_cell BK584.out 0).trans rfl, (blk_cell BK584.out 1).trans rfl⟩ (fun hHeld => ?_)
                        clear hK K
                        refine norm_ (a' := ?_) ?_ ?_
                        rotate_left
                        · show Act.put _ (some 112) _ = _
                          simp only [Act.put, setIfInBounds_toArray, set_cons_zero, set_cons_succ, i64_w, i32_w]
                          rfl
                        refine pure_ (i := 36) (N := some 113) (v := ?_) (a' := ?_) (nb 64 137438953471) rfl rfl (any_of HT_.out (by kernel_rfl)) (fun _ _ _ h => h) (Or.inl ⟨by rfl, ?_⟩) ?_ ?_
                        rotate_left
                        · intro w'
                          go_simp
                          with_reducible rfl
                        rotate_left
                        · simp only [Act.put, setIfInBounds_toArray, set_cons_zero, set_cons_succ, i64_w, i32_w]
                          rfl
                        refine pure_ (i := 37) (N := some 114) (v := ?_) (a' := ?_) (nb 64 274877906943) rfl rfl (any_of HT_.out (by kernel_rfl)) (fun _ _ _ h => h) (Or.inl ⟨by rfl, ?_⟩) ?_ ?_
                        rotate_left
                        · intro w'
                          go_simp
                          with_reducible rfl
                        rotate_left
                        · simp only [Act.put, setIfInBounds_toArray, set_cons_zero, set_cons_succ, i64_w, i32_w]
                          rfl
                        refine pure_ (i := 38) (N := some 115) (v := ?_) (a' := ?_) (nb 64 549755813887) rfl rfl (any_of HT_.out (by kernel_rfl)) (fun _ _ _ h => h) (Or.inl ⟨by rfl, ?_⟩) ?_ ?_
                        rotate_left
                        · intro w'
                          go_simp
                          with_reducible rfl
                        rotate_left
                        · simp only [Act.put, setIfInBounds_toArray, set_cons_zero, set_cons_succ, i64_w, i32_w]
                          rfl
                        refine pure_ (i := 39) (N := some 116) (v := ?_) (a' := ?_) (nb 64 1099511627775) rfl rfl (any_of HT_.out (by kernel_rfl)) (fun _ _ _ h => h) (Or.inl ⟨by rfl, ?_⟩) ?_ ?_
                        rotate_left
                        · intro w'
                          go_simp
                          with_reducible rfl
                        rotate_left
                        · simp only [Act.put, setIfInBounds_toArray, set_cons_zero, set_cons_succ, i64_w, i32_w]
                          rfl
                        refine pure_ (i := 40) (N := some 117) (v := ?_) (a' := ?_) (nb 64 2199023255551) rfl rfl (any_of HT_.out (by kernel_rfl)) (fun _ _ _ h => h) (Or.inl ⟨by rfl, ?_⟩) ?_ ?_
                        rotate_left
                        · intro w'
                          go_simp
                          with_reducible rfl
                        rotate_left
                        · simp only [Act.put, setIfInBounds_toArray, set_cons_zero, set_cons_succ, i64_w, i32_w]
                          rfl
                        refine pure_ (i := 41) (N := some 118) (v := ?_) (a' := ?_) (nb 64 4398046511103) rfl rfl (any_of HT_.out (by kernel_rfl)) (fun _ _ _ h => h) (Or.inl ⟨by rfl, ?_⟩) ?_ ?_
                        rotate_left
                        · intro w'
                          go_simp
                          with_reducible rfl
                        rotate_left
                        · simp only [Act.put, setIfInBounds_toArray, set_cons_zero, set_cons_succ, i64_w, i32_w]
                          rfl
                        refine pure_ (i := 42) (N := some 119) (v := ?_) (a' := ?_) (nb 64 8796093022207) rfl rfl (any_of HT_.out (by kernel_rfl)) (fun _ _ _ h => h) (Or.inl ⟨by rfl, ?_⟩) ?_ ?_
                        rotate_left
                        · intro w'
                          go_simp
                          with_reducible rfl
                        rotate_left
                        · simp only [Act.put, setIfInBounds_toArray, set_cons_zero, set_cons_succ, i64_w, i32_w]
                          rfl
                        refine pure_ (i := 43) (N := some 120) (v := ?_) (a' := ?_) (nb 64 17592186044415) rfl rfl (any_of HT_.out (by kernel_rfl)) (fun _ _ _ h => h) (Or.inl ⟨by rfl, ?_⟩) ?_ ?_
                        rotate_left
                        · intro w'
                          go_simp
                          with_reducible rfl
                        rotate_left
                        · simp only [Act.put, setIfInBounds_toArray, set_cons_zero, set_cons_succ, i64_w, i32_w]
                          rfl
                        refine take_ (i := 44) (N := some 121) (v := ?_) (a' := ?_) (nb 64 35184372088831) rfl rfl (take_ofW HT_.out HW_.out (by kernel_rfl)) (fun _ _ _ h => h) (Or.inl ⟨by rfl, ?_⟩) hHeld ?_ ?_
                        rotate_left
                        · rintro w' ⟨s0, s1, s2, s3, s4, s5, s6, s7, s8, s9, s10, s11, s12, s13, s14, s15, s16, s17⟩
                          go_simp
                          with_reducible rfl
                        rotate_left
                        · simp only [Act.put, setIfInBounds_toArray, set_cons_zero, set_cons_succ, i64_w, i32_w]
                          rfl
                        refine take_ (i := 45) (N := some 122) (v := ?_) (a' := ?_) (nb 64 70368744177663) rfl rfl (take_ofW HT_.out HW_.out (by kernel_rfl)) (fun _ _ _ h => h) (Or.inl ⟨by rfl, ?_⟩) hHeld ?_ ?_
                        rotate_left
                        · rintro w' ⟨s0, s1, s2, s3, s4, s5, s6, s7, s8, s9, s10, s11, s12, s13, s14, s15, s16, s17⟩
                          go_simp
                          with_reducible rfl
                        rotate_left
                        · simp only [Act.put, setIfInBounds_toArray, set_cons_zero, set_cons_succ, i64_w, i32_w]
                          rfl
                        refine one_ (i := 46) (N := some 123) (nb 64 140737488355327) rfl rfl (one_of HT_.out (by kernel_rfl)) (by decide) (fun K hK => ?_)
                        refine goes_ Tryz.func16 (by kernel_rfl) rfl #[.agg #[.int .i64 t573, .slice Ao102 t574.length co102], .agg #[.int .i64 t579, .slice Ao116 t580.length co116]] (by rfl) rfl rfl gL_ ?_
                        with_reducible refine (spec_EqualContext.calls k t573 _ _ t574 t579 _ _ t580 true _ ?side1 ?side2 ?side3 ?side4 A153.out).mono ?_
                        (case side1 => exact rC HO576)
                        (case side2 => exact (Kd.R_reads' HO576.out).2.1)
                        (case side3 => exact rC HO582)
                        (case side4 => exact (Kd.R_reads' HO582.out).2.1)
                        rintro e w178 ⟨rfl, hb⟩
                        refine ⟨_, rfl, ?_⟩
                        replace HO525 := kR HO525 hb
                        replace HO530 := kR HO530 hb
                        replace HO548 := kR HO548 hb
                        replace HO553 := kR HO553 hb
                        replace HO565 := kR HO565 hb
                        clear HO576
                        clear HO582
                        replace BK526 := kB BK526 hb
                        replace BK532 := kB BK532 hb
                        replace BK538 := kB BK538 hb
                        replace BK544 := kB BK544 hb
                        replace BK549 := kB BK549 hb
                        replace BK555 := kB BK555 hb
                        replace BK561 := kB BK561 hb
                        replace BK570 := kB BK570 hb
                        replace BK571 := kB BK571 hb
                        replace BK578 := kB BK578 hb
                        replace BK584 := kB BK584 hb
                        replace HB := kH HB hb
                        (try clear hb)
                        (try clear hb2)
                        (try clear hk)
                        (try clear hi)
                        refine hK.out _ _ ⟨(blk_cell BK532.out 0).trans rfl, (blk_cell BK532.out 1).trans rfl, (blk_cell BK538.out 0).trans rfl, (blk_cell BK538.out 1).trans rfl, (blk_cell BK544.out 0).trans rfl, (blk_cell BK544.out 1).trans rfl, (blk_cell BK555.out 0).trans rfl, (blk_cell BK555.out 1).trans rfl, (blk_cell BK561.out 0).trans rfl, (blk_cell BK561.out 1).trans rfl, (blk_cell BK570.out 0).trans rfl, (blk_cell BK570.out 1).trans rfl, (blk_cell BK571.out 0).trans rfl, (blk_cell BK571.out 1).trans rfl, (blk_cell BK578.out 0).trans rfl, (blk_cell BK578.out 1).trans rfl, (blk_cell BK584.out 0).trans rfl, (blk_cell BK584.out 1).trans rfl⟩ (fun hHeld => ?_)
                        clear hK K
                        refine norm_ (a' := ?_) ?_ ?_
                        rotate_left
                        · show Act.put _ (some 123) _ = _
                          simp only [Act.put, setIfInBounds_toArray, set_cons_zero, set_cons_succ, i64_w, i32_w]
                          rfl
                        refine pure_ (i := 47) (N := some 124) (v := ?_) (a' := ?_) (nb 64 281474976710655) rfl rfl (any_of HT_.out (by kernel_rfl)) (fun _ _ _ h => h) (Or.inl ⟨by rfl, ?_⟩) ?_ ?_
                        rotate_left
                        · intro w'
                          go_simp
                          with_reducible rfl
                        rotate_left
                        · simp only [Act.put, setIfInBounds_toArray, set_cons_zero, set_cons_succ, i64_w, i32_w]
                          rfl
                        refine pure_ (i := 48) (N := some 125) (v := ?_) (a' := ?_) (nb 64 562949953421311) rfl rfl (any_of HT_.out (by kernel_rfl)) (fun _ _ _ h => h) (Or.inl ⟨by rfl, ?_⟩) ?_ ?_
                        rotate_left
                        · intro w'
                          go_simp
                          with_reducible rfl
                        rotate_left
                        · simp only [Act.put, setIfInBounds_toArray, set_cons_zero, set_cons_succ, i64_w, i32_w]
                          rfl
                        refine pure_ (i := 49) (N := some 126) (v := ?_) (a' := ?_) (nb 64 1125899906842623) rfl rfl (any_of HT_.out (by kernel_rfl)) (fun _ _ _ h => h) (Or.inl ⟨by rfl, ?_⟩) ?_ ?_
                        rotate_left
                        · intro w'
                          go_simp
                          with_reducible rfl
                        rotate_left
                        · simp only [Act.put, setIfInBounds_toArray, set_cons_zero, set_cons_succ, i64_w, i32_w]
                          rfl
                        refine take_ (i := 50) (N := some 127) (v := ?_) (a' := ?_) (nb 64 2251799813685247) rfl rfl (take_ofW HT_.out HW_.out (by kernel_rfl)) (fun _ _ _ h => h) (Or.inl ⟨by rfl, ?_⟩) hHeld ?_ ?_
                        rotate_left
                        · rintro w' ⟨s0, s1, s2, s3, s4, s5, s6, s7, s8, s9, s10, s11, s12, s13, s14, s15, s16, s17⟩
                          go_simp
                          with_reducible rfl
                        rotate_left
                        · simp only [Act.put, setIfInBounds_toArray, set_cons_zero, set_cons_succ, i64_w, i32_w]
                          rfl
                        refine take_ (i := 52) (N := some 129) (v := ?_) (a' := ?_) (nb 64 6755399441055743) rfl rfl (take_ofW HT_.out HW_.out (by kernel_rfl)) (fun _ _ _ h => h) (Or.inl ⟨by rfl, ?_⟩) hHeld ?_ ?_
                        rotate_left
                        · rintro w' ⟨s0, s1, s2, s3, s4, s5, s6, s7, s8, s9, s10, s11, s12, s13, s14, s15, s16, s17⟩
                          go_simp
                          with_reducible rfl
                        rotate_left
                        · simp only [Act.put, setIfInBounds_toArray, set_cons_zero, set_cons_succ, i64_w, i32_w]
                          rfl
                        refine one_ (i := 51) (N := some 128) (nb 64 9007199254740991) rfl rfl (one_of HT_.out (by kernel_rfl)) (by decide) (fun K hK => ?_)
                        refine goes_ Tryz.func20 (by kernel_rfl) rfl #[.agg #[.int .i64 t562, .slice Ao79 t563.length co79]] (by rfl) rfl rfl gL_ ?_
                        with_reducible refine (impl_IsContext.calls t562 _ _ t563 t592 _ ?side1 ?side2 A155.out).mono ?_
                        (case side1 => exact rC HO565)
                        (case side2 => exact (Kd.R_reads' HO565.out).2.1)
                        rintro e w179 ⟨rfl, hb⟩
                        refine ⟨_, rfl, ?_⟩
                        replace HO525 := kR HO525 hb
                        replace HO530 := kR HO530 hb
                        replace HO548 := kR HO548 hb
                        replace HO553 := kR HO553 hb
                        replace HO565 := kR HO565 hb
                        replace BK526 := kB BK526 hb
                        replace BK532 := kB BK532 hb
                        replace BK538 := kB BK538 hb
                        replace BK544 := kB BK544 hb
                        replace BK549 := kB BK549 hb
                        replace BK555 := kB BK555 hb
                        replace BK561 := kB BK561 hb
                        replace BK570 := kB BK570 hb
                        replace BK571 := kB BK571 hb
                        replace BK578 := kB BK578 hb
                        replace BK584 := kB BK584 hb
                        replace HB := kH HB hb
                        (try clear hb)
                        (try clear hb2)
                        (try clear hk)
                        (try clear hi)
                        refine hK.out _ _ ⟨(blk_cell BK532.out 0).trans rfl, (blk_cell BK532.out 1).trans rfl, (blk_cell BK538.out 0).trans rfl, (blk_cell BK538.out 1).trans rfl, (blk_cell BK544.out 0).trans rfl, (blk_cell BK544.out 1).trans rfl, (blk_cell BK555.out 0).trans rfl, (blk_cell BK555.out 1).trans rfl, (blk_cell BK561.out 0).trans rfl, (blk_cell BK561.out 1).trans rfl, (blk_cell BK570.out 0).trans rfl, (blk_cell BK570.out 1).trans rfl, (blk_cell BK571.out 0).trans rfl, (blk_cell BK571.out 1).trans rfl, (blk_cell BK578.out 0).trans rfl, (blk_cell BK578.out 1).trans rfl, (blk_cell BK584.out 0).trans rfl, (blk_cell BK584.out 1).trans rfl⟩ (fun hHeld => ?_)
                        clear hK K
                        refine norm_ (a' := ?_) ?_ ?_
                        rotate_left
                        · show Act.put _ (some 128) _ = _
                          simp only [Act.put, setIfInBounds_toArray, set_cons_zero, set_cons_succ, i64_w, i32_w]
                          rfl
                        refine one_ (i := 53) (N := some 130) (nb 64 18014398509481983) rfl rfl (one_of HT_.out (by kernel_rfl)) (by decide) (fun K hK => ?_)
                        refine goes_ Tryz.func21 (by kernel_rfl) rfl #[.agg #[.int .i64 t562, .slice Ao79 t563.length co79]] (by rfl) rfl rfl gL_ ?_
                        with_reducible refine (spec_IsContext.calls k t562 _ _ t563 t593 _ ?side1 ?side2 A156.out).mono ?_
                        (case side1 => exact rC HO565)
                        (case side2 => exact (Kd.R_reads' HO565.out).2.1)
                        rintro e w180 ⟨rfl, hb⟩
                        refine ⟨_, rfl, ?_⟩
                        replace HO525 := kR HO525 hb
                        replace HO530 := kR HO530 hb
                        replace HO548 := kR HO548 hb
                        replace HO553 := kR HO553 hb
                        replace HO565 := kR HO565 hb
                        replace BK526 := kB BK526 hb
                        replace BK532 := kB BK532 hb
                        replace BK538 := kB BK538 hb
                        replace BK544 := kB BK544 hb
                        replace BK549 := kB BK549 hb
                        replace BK555 := kB BK555 hb
                        replace BK561 := kB BK561 hb
                        replace BK570 := kB BK570 hb
                        replace BK571 := kB BK571 hb
                        replace BK578 := kB BK578 hb
                        replace BK584 := kB BK584 hb
                        replace HB := kH HB hb
                        (try clear hb)
                        (try clear hb2)
                        (try clear hk)
                        (try clear hi)
                        refine hK.out _ _ ⟨(blk_cell BK532.out 0).trans rfl, (blk_cell BK532.out 1).trans rfl, (blk_cell BK538.out 0).trans rfl, (blk_cell BK538.out 1).trans rfl, (blk_cell BK544.out 0).trans rfl, (blk_cell BK544.out 1).trans rfl, (blk_cell BK555.out 0).trans rfl, (blk_cell BK555.out 1).trans rfl, (blk_cell BK561.out 0).trans rfl, (blk_cell BK561.out 1).trans rfl, (blk_cell BK570.out 0).trans rfl, (blk_cell BK570.out 1).trans rfl, (blk_cell BK571.out 0).trans rfl, (blk_cell BK571.out 1).trans rfl, (blk_cell BK578.out 0).trans rfl, (blk_cell BK578.out 1).trans rfl, (blk_cell BK584.out 0).trans rfl, (blk_cell BK584.out 1).trans rfl⟩ (fun hHeld => ?_)
                        clear hK K
                        refine norm_ (a' := ?_) ?_ ?_
                        rotate_left
                        · show Act.put _ (some 130) _ = _
                          simp only [Act.put, setIfInBounds_toArray, set_cons_zero, set_cons_succ, i64_w, i32_w]
                          rfl
                        refine pure_ (i := 54) (N := some 131) (v := ?_) (a' := ?_) (nb 64 36028797018963967) rfl rfl (any_of HT_.out (by kernel_rfl)) (fun _ _ _ h => h) (Or.inl ⟨by rfl, ?_⟩) ?_ ?_
                        rotate_left
                        · intro w'
                          go_simp
                          with_reducible rfl
                        rotate_left
                        · simp only [Act.put, setIfInBounds_toArray, set_cons_zero, set_cons_succ, i64_w, i32_w]
                          rfl
                        refine pure_ (i := 55) (N := some 132) (v := ?_) (a' := ?_) (nb 64 72057594037927935) rfl rfl (any_of HT_.out (by kernel_rfl)) (fun _ _ _ h => h) (Or.inl ⟨by rfl, ?_⟩) ?_ ?_
                        rotate_left
                        · intro w'
                          go_simp
                          with_reducible rfl
                        rotate_left
                        · simp only [Act.put, setIfInBounds_toArray, set_cons_zero, set_cons_succ, i64_w, i32_w]
                          rfl
                        refine pure_ (i := 56) (N := some 133) (v := ?_) (a' := ?_) (nb 64 144115188075855871) rfl rfl (any_of HT_.out (by kernel_rfl)) (fun _ _ _ h => h) (Or.inl ⟨by rfl, ?_⟩) ?_ ?_
                        rotate_left
                        · intro w'
                          go_simp
                          with_reducible rfl
                        rotate_left
                        · simp only [Act.put, setIfInBounds_toArray, set_cons_zero, set_cons_succ, i64_w, i32_w]
                          rfl
                        refine pure_ (i := 59) (N := some 136) (v := ?_) (a' := ?_) (nb 64 720575940379279359) rfl rfl (any_of HT_.out (by kernel_rfl)) (fun _ _ _ h => h) (Or.inl ⟨by rfl, ?_⟩) ?_ ?_
                        rotate_left
                        · intro w'
                          go_simp
                          with_reducible rfl
                        rotate_left
                        · simp only [Act.put, setIfInBounds_toArray, set_cons_zero, set_cons_succ, i64_w, i32_w]
                          rfl
                        refine take_ (i := 57) (N := some 134) (v := ?_) (a' := ?_) (nb 64 864691128455135231) rfl rfl (take_ofW HT_.out HW_.out (by kernel_rfl)) (fun _ _ _ h => h) (Or.inl ⟨by rfl, ?_⟩) hHeld ?_ ?_
                        rotate_left
                        · rintro w' ⟨s0, s1, s2, s3, s4, s5, s6, s7, s8, s9, s10, s11, s12, s13, s14, s15, s16, s17⟩
                          go_simp
                          with_reducible rfl
                        rotate_left
                        · simp only [Act.put, setIfInBounds_toArray, set_cons_zero, set_cons_succ, i64_w, i32_w]
                          rfl
                        refine take_ (i := 60) (N := some 137) (v := ?_) (a' := ?_) (nb 64 2017612633061982207) rfl rfl (take_ofW HT_.out HW_.out (by kernel_rfl)) (fun _ _ _ h => h) (Or.inl ⟨by rfl, ?_⟩) hHeld ?_ ?_
                        rotate_left
                        · rintro w' ⟨s0, s1, s2, s3, s4, s5, s6, s7, s8, s9, s10, s11, s12, s13, s14, s15, s16, s17⟩
                          go_simp
                          with_reducible rfl
                        rotate_left
                        · simp only [Act.put, setIfInBounds_toArray, set_cons_zero, set_cons_succ, i64_w, i32_w]
                          rfl
                        refine pure_ (i := 61) (N := some 138) (v := ?_) (a' := ?_) (nb 64 4323455642275676159) rfl rfl (any_of HT_.out (by kernel_rfl)) (fun _ _ _ h => h) (Or.inl ⟨by rfl, ?_⟩) ?_ ?_
                        rotate_left
                        · intro w'
                          go_simp
                          with_reducible rfl
                        rotate_left
                        · simp only [Act.put, setIfInBounds_toArray, set_cons_zero, set_cons_succ, i64_w, i32_w]
                          rfl
                        refine one_ (i := 58) (N := some 135) (nb 64 4611686018427387903) rfl rfl (one_of HT_.out (by kernel_rfl)) (by decide) (fun K hK => ?_)
                        refine goes_ Tryz.func22 (by kernel_rfl) rfl #[.agg #[.int .i64 t562, .slice Ao79 t563.length co79]] (by rfl) rfl rfl gL_ ?_
                        with_reducible refine (impl_ObjectCount.calls t562 _ _ t563 t594 _ ?side1 ?side2 A169.out).mono ?_
                        (case side1 => exact rC HO565)
                        (case side2 => exact (Kd.R_reads' HO565.out).2.1)
                        rintro e w181 ⟨rfl, hb⟩
                        refine ⟨_, rfl, ?_⟩
                        replace HO525 := kR HO525 hb
                        replace HO530 := kR HO530 hb
                        replace HO548 := kR HO548 hb
                        replace HO553 := kR HO553 hb
                        replace HO565 := kR HO565 hb
                        replace BK526 := kB BK526 hb
                        replace BK532 := kB BK532 hb
                        replace BK538 := kB BK538 hb
                        replace BK544 := kB BK544 hb
                        replace BK549 := kB BK549 hb
                        replace BK555 := kB BK555 hb
                        replace BK561 := kB BK561 hb
                        replace BK570 := kB BK570 hb
                        replace BK571 := kB BK571 hb
                        replace BK578 := kB BK578 hb
                        replace BK584 := kB BK584 hb
                        replace HB := kH HB hb
                        (try clear hb)
                        (try clear hb2)
                        (try clear hk)
                        (try clear hi)
                        refine hK.out _ _ ⟨(blk_cell BK532.out 0).trans rfl, (blk_cell BK532.out 1).trans rfl, (blk_cell BK538.out 0).trans rfl, (blk_cell BK538.out 1).trans rfl, (blk_cell BK544.out 0).trans rfl, (blk_cell BK544.out 1).trans rfl, (blk_cell BK555.out 0).trans rfl, (blk_cell BK555.out 1).trans rfl, (blk_cell BK561.out 0).trans rfl, (blk_cell BK561.out 1).trans rfl, (blk_cell BK570.out 0).trans rfl, (blk_cell BK570.out 1).trans rfl, (blk_cell BK571.out 0).trans rfl, (blk_cell BK571.out 1).trans rfl, (blk_cell BK578.out 0).trans rfl, (blk_cell BK578.out 1).trans rfl, (blk_cell BK584.out 0).trans rfl, (blk_cell BK584.out 1).trans rfl⟩ (fun hHeld => ?_)
                        clear hK K
                        refine norm_ (a' := ?_) ?_ ?_
                        rotate_left
                        · show Act.put _ (some 135) _ = _
                          simp only [Act.put, setIfInBounds_toArray, set_cons_zero, set_cons_succ, i64_w, i32_w]
                          rfl
                        refine pure_ (i := 62) (N := some 139) (v := ?_) (a' := ?_) (nb 64 9223372036854775807) rfl rfl (any_of HT_.out (by kernel_rfl)) (fun _ _ _ h => h) (Or.inl ⟨by rfl, ?_⟩) ?_ ?_
                        rotate_left
                        · intro w'
                          go_simp
                          with_reducible rfl
                        rotate_left
                        · simp only [Act.put, setIfInBounds_toArray, set_cons_zero, set_cons_succ, i64_w, i32_w]
                          rfl
                        refine pure_ (i := 63) (N := some 140) (v := ?_) (a' := ?_) (nb 64 18446744073709551615) rfl rfl (any_of HT_.out (by kernel_rfl)) (fun _ _ _ h => h) (Or.inl ⟨by rfl, ?_⟩) ?_ ?_
                        rotate_left
                        · intro w'
                          go_simp
                          with_reducible rfl
                        rotate_left
                        · simp only [Act.put, setIfInBounds_toArray, set_cons_zero, set_cons_succ, i64_w, i32_w]
                          rfl
                        refine done_ (done_of HT_.out (by kernel_rfl)) ?_
                        try go_wp2
                        go_meet
                        case rel => exact ⟨_, ((t594 != (t563.length : Int))), (by first | rfl | (simp; done) | (simp [*]; done)), H', ⟨by first | omega | exact Nat.le_refl _⟩, ⟨by (with_reducible repeat (first | apply Kd.R_alloc | apply Kd.R_drewN | apply Kd.R_drew)); exact HO525.out⟩, ⟨by (with_reducible repeat (first | apply Kd.R_alloc | apply Kd.R_drewN | apply Kd.R_drew)); exact HO530.out⟩, ⟨by (with_reducible repeat (first | apply Kd.R_alloc | apply Kd.R_drewN | apply Kd.R_drew)); exact HO548.out⟩, ⟨by (with_reducible repeat (first | apply Kd.R_alloc | apply Kd.R_drewN | apply Kd.R_drew)); exact HO553.out⟩, ⟨by (with_reducible repeat (first | apply Kd.R_alloc | apply Kd.R_drewN | apply Kd.R_drew)); exact HO565.out⟩, ⟨bW BK526⟩, ⟨bW BK532⟩, ⟨bW BK549⟩, ⟨bW BK555⟩, ⟨bW BK570⟩, ⟨hB_⟩⟩
                    · replace c154 := Bool.eq_false_iff.mpr c154
                      subst c154
                      replace H := ifF H
                      exact (laws_FnContexts.j0_dead _ _ _ _ _ _ _ _ _ _ _ _ _ (by rw [HRR.out] at H; exact H)).elim
              · replace c132 := Bool.eq_false_iff.mpr c132
                subst c132
                replace H := ifF H
                exact (laws_FnContexts.j0_dead _ _ _ _ _ _ _ _ _ _ _ _ _ (by rw [HRR.out] at H; exact H)).elim
          · rw [if_neg c124] at H
            have c124b0 : (t586 == t587) = false := beq_eq_false_iff_ne.mpr c124
            have c124b1 : (t586 != t587) = true := bne_iff_ne.mpr c124
            exact (laws_FnContexts.j0_dead _ _ _ _ _ _ _ _ _ _ _ _ _ (by rw [HRR.out] at H; exact H)).elim
        · replace c121 := Bool.eq_false_iff.mpr c121
          subst c121
          replace H := ifF H
          exact (laws_FnContexts.j0_dead _ _ _ _ _ _ _ _ _ _ _ _ _ (by rw [HRR.out] at H; exact H)).elim
    case rest =>
      clear HC15
      try clear c1
      try clear p2
      try clear c12
      try clear c16
      try clear c121
      try clear BK526; try clear BK532; try clear BK538; try clear BK544; try clear BK549; try clear BK555; try clear BK561; try clear BK570; try clear BK571; try clear BK578; try clear BK584; try clear HO525; try clear HO530; try clear HO536; try clear HO542; try clear HO548; try clear HO553; try clear HO559; try clear HO565; try clear HO569; try clear HO576; try clear HO582
      obtain ⟨kq, x140_14, rfl, HA, HJ14, HO_527001, HO_533001, HO_550001, HO_556001, HO_571001, BK526, BK532, BK549, BK555, BK570, HB⟩ := hcut
      cases kq with
      | zero => exact absurd HA.out (by simp [laws_FnContexts.j0])
      | succ kj14 =>
        have H := HA.out
        clear HA
        simp only [laws_FnContexts.j0] at H
        by_cases c205 : x140_14 = true
        · subst c205
          replace H := ifT H
          exact absurd (Option.some.inj H) (by rw [HRR.out]; decide)
        · replace c205 := Bool.eq_false_iff.mpr c205
          subst c205
          replace H := ifF H
          replace H := aB H
          obtain ⟨t595, A206, H⟩ := H
          replace H := aB H
          obtain ⟨⟨t596, t597, t600⟩, A207, H⟩ := H
          dsimp only at H
          have HC208 := Aside0.mk H
          clear H
          have hcz219_0 : wc.cell? ⟨gb570, 0, none⟩ = some (.int .i64 t562) := (blk_cell BK570.out 0).trans rfl
          have hcz219_1 : wc.cell? ⟨gb570, 1, none⟩ = some (.slice Ao79 t563.length co79) := (blk_cell BK570.out 1).trans rfl
          have hfz219_0 := blk_frozen BK570.out 0
          have hfz219_1 := blk_frozen BK570.out 1
          go_upto_region 18 with (first | ((with_reducible refine gate_callee (f := 23) rfl ?_); refine goesL_ (some 142) rfl rfl Tryz.func23 (by kernel_rfl) rfl #[.agg #[.int .i64 t562, .slice Ao79 t563.length co79]] rfl gL_ ?_; (with_reducible refine (impl_ContextText.calls kj14 t562 _ _ t563 t595 _ ?side1 ?side2 ?sideT A206.out).mono ?_); (case sideT => exact hT_); (case side1 => exact rC HO_571001); (case side2 => exact (Kd.R_reads' HO_571001.out).2.1); rintro e w220 ⟨rfl, hb⟩; refine ⟨_, rfl, ?_⟩; replace HO_527001 := kR HO_527001 hb; replace HO_533001 := kR HO_533001 hb; replace HO_550001 := kR HO_550001 hb; replace HO_556001 := kR HO_556001 hb; replace HO_571001 := kR HO_571001 hb; replace BK526 := kB BK526 hb; replace BK532 := kB BK532 hb; replace BK549 := kB BK549 hb; replace BK555 := kB BK555 hb; replace BK570 := kB BK570 hb; replace HB := kH HB hb; clear hb) | ((with_reducible refine gate_callee (f := 14) rfl ?_); refine goesL_ (some 145) rfl rfl Tryz.func14 (by kernel_rfl) rfl #[.string t595] rfl gL_ ?_; (with_reducible refine (impl_ParseContext.calls kj14 t595 t596 t597 t600 _ ?sideT A207.out).mono ?_); (case sideT => exact hT_); rintro e w221 ⟨v598, rfl, ho0, hb⟩; refine ⟨_, rfl, ?_⟩; have HO599 := Aside0.mk (Kd.R_lower ho0 (below_size hB_)); replace HO_527001 := kR HO_527001 hb; replace HO_533001 := kR HO_533001 hb; replace HO_550001 := kR HO_550001 hb; replace HO_556001 := kR HO_556001 hb; replace HO_571001 := kR HO_571001 hb; replace BK526 := kB BK526 hb; replace BK532 := kB BK532 hb; replace BK549 := kB BK549 hb; replace BK555 := kB BK555 hb; replace BK570 := kB BK570 hb; replace HB := kH HB hb; clear hb ho0) | ((with_reducible refine gate_dst (N := 23) rfl ?_); (try (refine gate_guard (by rfl) ?_; dsimp only)); refine box_event ?hg (N := 23) ?hd (cs := #[.int .i64 0, .slice none 0 0]) (t := 26) ?hr ?_; (case hd => rfl); (case hg => rfl); (case hr => first | (go_simp; done) | (go_simp; rfl)); intro gb601 hg w222 hbox hb; replace HO_527001 := kR HO_527001 hb; replace HO_533001 := kR HO_533001 hb; replace HO_550001 := kR HO_550001 hb; replace HO_556001 := kR HO_556001 hb; replace HO_571001 := kR HO_571001 hb; replace HO599 := kR HO599 hb; have BK601 := Aside0.mk (hbox); have GE601 := kG HB hg; replace HB := kH HB hb; have NB526_601 := kN BK526 hg; replace BK526 := kB BK526 hb; have NB532_601 := kN BK532 hg; replace BK532 := kB BK532 hb; have NB549_601 := kN BK549 hg; replace BK549 := kB BK549 hb; have NB555_601 := kN BK555 hg; replace BK555 := kB BK555 hb; have NB570_601 := kN BK570 hg; have NB601_570 := kM BK570 hg; replace BK570 := kB BK570 hb; clear hb hbox hg; have hcz234_0 : w222.cell? ⟨gb601, 0, none⟩ = some (.int .i64 0) := (blk_cell BK601.out 0).trans rfl; have hcz234_1 : w222.cell? ⟨gb601, 1, none⟩ = some (.slice none 0 0) := (blk_cell BK601.out 1).trans rfl; have hfz234_0 := blk_frozen BK601.out 0; have hfz234_1 := blk_frozen BK601.out 1; obtain ⟨Ao235, co235, eo235⟩ := Kd.R_slice HO599.out; subst eo235))
          (try simp only [Act.put, setIfInBounds_toArray, set_cons_zero, set_cons_succ])
          go_cut [166] (fun v166 wc => ∃ (kq : Nat) (x166_207 : Bool), v166 = .bool x166_207 ∧ Aside0 (laws_FnContexts.j1 kq t531 t554 x166_207 t522 t523 t527 t528 t545 t546 t550 t551 = some r) ∧ Aside0 (kq ≤ kj14) ∧ Aside0 (Kd.R (Kd.int .i64) 3 wc w.heap.size (ofs []) (.slice Ao19 t523.length co19) t523) ∧ Aside0 (Kd.R (Kd.int .i64) 3 wc w.heap.size (ofs []) (.slice Ao24 t528.length co24) t528) ∧ Aside0 (Kd.R (Kd.int .i64) 3 wc w.heap.size (ofs []) (.slice Ao46 t546.length co46) t546) ∧ Aside0 (Kd.R (Kd.int .i64) 3 wc w.heap.size (ofs []) (.slice Ao55 t551.length co55) t551) ∧ Aside0 (wc.heap[gb526]? = some (.cells #[.int .i64 t522, (.slice Ao19 t523.length co19)] 26 (0, 0))) ∧ Aside0 (wc.heap[gb532]? = some (.cells #[.int .i64 t527, (.slice Ao24 t528.length co24)] 26 (0, 0))) ∧ Aside0 (wc.heap[gb549]? = some (.cells #[.int .i64 t545, (.slice Ao46 t546.length co46)] 26 (0, 0))) ∧ Aside0 (wc.heap[gb555]? = some (.cells #[.int .i64 t550, (.slice Ao55 t551.length co55)] 26 (0, 0))) ∧ Aside0 (Below w.heap.size w wc))
          case first =>
            have H := HC208.out
            clear HC208
            replace H := aB H
            obtain ⟨t602, A236, H⟩ := H
            by_cases c237 : t595.toList = t602.toList
            · rw [if_pos c237] at H
              have c237b0 : (t595.toList == t602.toList) = true := beq_iff_eq.mpr c237
              have c237b1 : (t595.toList != t602.toList) = false := bne_eq_false_iff_eq.mpr c237
              clear c237
              (first | rw [c237b0] | (simp only [i64_w, i32_w]; rw [c237b0]) | skip)
              replace H := aB H
              obtain ⟨t603, A238, H⟩ := H
              by_cases c239 : (t600 != t603) = true
              · rw [if_pos c239] at H
                obtain ⟨c239b0, c239b1, c239b2, c239b3⟩ := neT c239
                clear c239
                exact (laws_FnContexts.j1_dead _ _ _ _ _ _ _ _ _ _ _ (by rw [HRR.out] at H; exact H)).elim
              · rw [if_neg c239] at H
                obtain ⟨c239b0, c239b1, c239b2⟩ := neF c239
                clear c239
                by_cases c255 : t600 = true
                · subst c255
                  replace H := ifT H
                  replace H := aB H
                  obtain ⟨t604, A256, H⟩ := H
                  have H' := Aside0.mk H
                  clear H
                  have hnb267 := NB570_601.out
                  have hnc267 := NB601_570.out
                  have hcz268_0 : w222.cell? ⟨gb570, 0, none⟩ = some (.int .i64 t562) := (blk_cell BK570.out 0).trans rfl
                  have hcz268_1 : w222.cell? ⟨gb570, 1, none⟩ = some (.slice Ao79 t563.length co79) := (blk_cell BK570.out 1).trans rfl
                  have hfz268_0 := blk_frozen BK570.out 0
                  have hfz268_1 := blk_frozen BK570.out 1
                  go_wp2_with (first | ((with_reducible refine gate_callee (f := 24) rfl ?_); refine goesL_ (some 150) rfl rfl Tryz.func24 (by kernel_rfl) rfl #[.agg #[.int .i64 t562, .slice Ao79 t563.length co79]] rfl gL_ ?_; (with_reducible refine (spec_ContextText.calls kj14 t562 _ _ t563 t602 _ ?side1 ?side2 A236.out).mono ?_); (case side1 => exact rC (kT HO_571001 BK601)); (case side2 => exact (Kd.R_reads' HO_571001.out).2.1); rintro e w269 ⟨rfl, hb⟩; refine ⟨_, rfl, ?_⟩; replace HO_527001 := kR (kT HO_527001 BK601) hb; replace HO_533001 := kR (kT HO_533001 BK601) hb; replace HO_550001 := kR (kT HO_550001 BK601) hb; replace HO_556001 := kR (kT HO_556001 BK601) hb; replace HO_571001 := kR (kT HO_571001 BK601) hb; replace HO599 := kR (kT HO599 BK601) hb; replace BK526 := kB (kF NB526_601 BK526) hb; replace BK532 := kB (kF NB532_601 BK532) hb; replace BK549 := kB (kF NB549_601 BK549) hb; replace BK555 := kB (kF NB555_601 BK555) hb; replace BK570 := kB (kF NB570_601 BK570) hb; replace BK601 := kB (kP BK601) hb; replace HB := kH HB hb; clear hb; have hcz270_0 : w269.cell? ⟨gb570, 0, none⟩ = some (.int .i64 t562) := (blk_cell BK570.out 0).trans rfl; have hcz270_1 : w269.cell? ⟨gb570, 1, none⟩ = some (.slice Ao79 t563.length co79) := (blk_cell BK570.out 1).trans rfl; have hfz270_0 := blk_frozen BK570.out 0; have hfz270_1 := blk_frozen BK570.out 1) | (go_at_call 21; (with_reducible refine (spec_IsContext.calls kj14 t562 _ _ t563 t603 _ ?side1 ?side2 A238.out).mono ?_); (case side1 => exact rC HO_571001); (case side2 => exact (Kd.R_reads' HO_571001.out).2.1); rintro e w271 ⟨rfl, hb⟩; replace HO_527001 := kR HO_527001 hb; replace HO_533001 := kR HO_533001 hb; replace HO_550001 := kR HO_550001 hb; replace HO_556001 := kR HO_556001 hb; replace HO_571001 := kR HO_571001 hb; replace HO599 := kR HO599 hb; replace BK526 := kB BK526 hb; replace BK532 := kB BK532 hb; replace BK549 := kB BK549 hb; replace BK555 := kB BK555 hb; replace BK570 := kB BK570 hb; replace BK601 := kB BK601 hb; replace HB := kH HB hb; clear hb; have hcz282_0 : w271.cell? ⟨gb601, 0, none⟩ = some (.int .i64 t596) := (blk_cell BK601.out 0).trans rfl; have hcz282_1 : w271.cell? ⟨gb601, 1, none⟩ = some (.slice Ao235 t597.length co235) := (blk_cell BK601.out 1).trans rfl; have hfz282_0 := blk_frozen BK601.out 0; have hfz282_1 := blk_frozen BK601.out 1; have hcz283_0 : w271.cell? ⟨gb570, 0, none⟩ = some (.int .i64 t562) := (blk_cell BK570.out 0).trans rfl; have hcz283_1 : w271.cell? ⟨gb570, 1, none⟩ = some (.slice Ao79 t563.length co79) := (blk_cell BK570.out 1).trans rfl; have hfz283_0 := blk_frozen BK570.out 0; have hfz283_1 := blk_frozen BK570.out 1) | (go_at_call 16; (with_reducible refine (spec_EqualContext.calls kj14 t596 _ _ t597 t562 _ _ t563 t604 _ ?side1 ?side2 ?side3 ?side4 A256.out).mono ?_); (case side1 => exact rC HO599); (case side2 => exact (Kd.R_reads' HO599.out).2.1); (case side3 => exact rC HO_571001); (case side4 => exact (Kd.R_reads' HO_571001.out).2.1); rintro e w284 ⟨rfl, hb⟩; replace HO_527001 := kR HO_527001 hb; replace HO_533001 := kR HO_533001 hb; replace HO_550001 := kR HO_550001 hb; replace HO_556001 := kR HO_556001 hb; clear HO_571001 HO599; replace BK526 := kB BK526 hb; replace BK532 := kB BK532 hb; replace BK549 := kB BK549 hb; replace BK555 := kB BK555 hb; clear BK570 BK601; replace HB := kH HB hb; clear hb))
                  go_meet
                  case rel => exact ⟨_, (!t604), (by first | rfl | (simp; done) | (simp [*]; done)), H', ⟨by have := HJ14.out; first | omega | exact Nat.le_refl _⟩, (rM HO_527001), (rM HO_533001), (rM HO_550001), (rM HO_556001), ⟨bW BK526⟩, ⟨bW BK532⟩, ⟨bW BK549⟩, ⟨bW BK555⟩, ⟨hB_⟩⟩
                · replace c255 := Bool.eq_false_iff.mpr c255
                  subst c255
                  replace H := ifF H
                  have H' := Aside0.mk H
                  clear H
                  have hnb295 := NB570_601.out
                  have hnc295 := NB601_570.out
                  have hcz296_0 : w222.cell? ⟨gb570, 0, none⟩ = some (.int .i64 t562) := (blk_cell BK570.out 0).trans rfl
                  have hcz296_1 : w222.cell? ⟨gb570, 1, none⟩ = some (.slice Ao79 t563.length co79) := (blk_cell BK570.out 1).trans rfl
                  have hfz296_0 := blk_frozen BK570.out 0
                  have hfz296_1 := blk_frozen BK570.out 1
                  go_wp2_with (first | ((with_reducible refine gate_callee (f := 24) rfl ?_); refine goesL_ (some 150) rfl rfl Tryz.func24 (by kernel_rfl) rfl #[.agg #[.int .i64 t562, .slice Ao79 t563.length co79]] rfl gL_ ?_; (with_reducible refine (spec_ContextText.calls kj14 t562 _ _ t563 t602 _ ?side1 ?side2 A236.out).mono ?_); (case side1 => exact rC (kT HO_571001 BK601)); (case side2 => exact (Kd.R_reads' HO_571001.out).2.1); rintro e w297 ⟨rfl, hb⟩; refine ⟨_, rfl, ?_⟩; replace HO_527001 := kR (kT HO_527001 BK601) hb; replace HO_533001 := kR (kT HO_533001 BK601) hb; replace HO_550001 := kR (kT HO_550001 BK601) hb; replace HO_556001 := kR (kT HO_556001 BK601) hb; replace HO_571001 := kR (kT HO_571001 BK601) hb; clear HO599; replace BK526 := kB (kF NB526_601 BK526) hb; replace BK532 := kB (kF NB532_601 BK532) hb; replace BK549 := kB (kF NB549_601 BK549) hb; replace BK555 := kB (kF NB555_601 BK555) hb; replace BK570 := kB (kF NB570_601 BK570) hb; clear BK601; replace HB := kH HB hb; clear hb; have hcz298_0 : w297.cell? ⟨gb570, 0, none⟩ = some (.int .i64 t562) := (blk_cell BK570.out 0).trans rfl; have hcz298_1 : w297.cell? ⟨gb570, 1, none⟩ = some (.slice Ao79 t563.length co79) := (blk_cell BK570.out 1).trans rfl; have hfz298_0 := blk_frozen BK570.out 0; have hfz298_1 := blk_frozen BK570.out 1) | (go_at_call 21; (with_reducible refine (spec_IsContext.calls kj14 t562 _ _ t563 t603 _ ?side1 ?side2 A238.out).mono ?_); (case side1 => exact rC HO_571001); (case side2 => exact (Kd.R_reads' HO_571001.out).2.1); rintro e w299 ⟨rfl, hb⟩; replace HO_527001 := kR HO_527001 hb; replace HO_533001 := kR HO_533001 hb; replace HO_550001 := kR HO_550001 hb; replace HO_556001 := kR HO_556001 hb; clear HO_571001; replace BK526 := kB BK526 hb; replace BK532 := kB BK532 hb; replace BK549 := kB BK549 hb; replace BK555 := kB BK555 hb; clear BK570; replace HB := kH HB hb; clear hb))
                  go_meet
                  case rel => exact ⟨_, (false), (by first | rfl | (simp; done) | (simp [*]; done)), H', ⟨by have := HJ14.out; first | omega | exact Nat.le_refl _⟩, (rM HO_527001), (rM HO_533001), (rM HO_550001), (rM HO_556001), ⟨bW BK526⟩, ⟨bW BK532⟩, ⟨bW BK549⟩, ⟨bW BK555⟩, ⟨hB_⟩⟩
            · rw [if_neg c237] at H
              have c237b0 : (t595.toList == t602.toList) = false := beq_eq_false_iff_ne.mpr c237
              have c237b1 : (t595.toList != t602.toList) = true := bne_iff_ne.mpr c237
              (first | rw [c237b0] | (simp only [i64_w, i32_w]; rw [c237b0]) | skip)
              exact (laws_FnContexts.j1_dead _ _ _ _ _ _ _ _ _ _ _ (by rw [HRR.out] at H; exact H)).elim
          case rest =>
            clear HC208
            try clear c1
            try clear c2
            try clear p2
            try clear c3
            try clear c12
            try clear c14
            try clear c16
            try clear c20
            try clear c21
            try clear c22
            try clear c23
            try clear c24
            try clear c25
            try clear c26
            try clear c27
            try clear c28
            try clear c29
            try clear c30
            try clear c31
            try clear c121
            try clear c205
            try clear c209
            try clear c210
            try clear c211
            try clear c212
            try clear c213
            try clear c214
            try clear c215
            try clear c216
            try clear c217
            try clear c218
            try clear c223
            try clear c224
            try clear c225
            try clear c226
            try clear c227
            try clear c228
            try clear c229
            try clear c230
            try clear c231
            try clear c232
            try clear c233
            try clear c237
            try clear c237b0
            try clear c237b1
            try clear c239
            try clear c239b0
            try clear c239b1
            try clear c239b2
            try clear c240
            try clear c241
            try clear c242
            try clear c243
            try clear c244
            try clear c245
            try clear c246
            try clear c247
            try clear c248
            try clear c249
            try clear c250
            try clear c255
            try clear c257
            try clear c258
            try clear c259
            try clear c260
            try clear c261
            try clear c262
            try clear c263
            try clear c264
            try clear c265
            try clear c266
            try clear c267
            try clear c272
            try clear c273
            try clear c274
            try clear c275
            try clear c276
            try clear c277
            try clear c278
            try clear c279
            try clear c280
            try clear c281
            try clear c285
            try clear c286
            try clear c287
            try clear c288
            try clear c289
            try clear c290
            try clear c291
            try clear c292
            try clear c293
            try clear c294
            try clear c295
            try clear c300
            try clear c301
            try clear c302
            try clear c303
            try clear c304
            try clear c305
            try clear c306
            try clear c307
            try clear c308
            try clear c309
            try clear c310
            try clear hcz219_0
            try clear hcz219_1
            try clear hcz234_0
            try clear hcz234_1
            try clear hcz251_0
            try clear hcz251_1
            try clear hcz253_0
            try clear hcz253_1
            try clear hcz268_0
            try clear hcz268_1
            try clear hcz270_0
            try clear hcz270_1
            try clear hcz282_0
            try clear hcz282_1
            try clear hcz283_0
            try clear hcz283_1
            try clear hcz296_0
            try clear hcz296_1
            try clear hcz298_0
            try clear hcz298_1
            try clear hcz311_0
            try clear hcz311_1
            try clear hfz219_0
            try clear hfz219_1
            try clear hfz234_0
            try clear hfz234_1
            try clear hfz251_0
            try clear hfz251_1
            try clear hfz253_0
            try clear hfz253_1
            try clear hfz268_0
            try clear hfz268_1
            try clear hfz270_0
            try clear hfz270_1
            try clear hfz282_0
            try clear hfz282_1
            try clear hfz283_0
            try clear hfz283_1
            try clear hfz296_0
            try clear hfz296_1
            try clear hfz298_0
            try clear hfz298_1
            try clear hfz311_0
            try clear hfz311_1
            try clear p2
            try clear BK526; try clear BK532; try clear BK549; try clear BK555; try clear BK570; try clear BK601; try clear HO525; try clear HO530; try clear HO536; try clear HO542; try clear HO548; try clear HO553; try clear HO559; try clear HO565; try clear HO569; try clear HO576; try clear HO582; try clear HO599; try clear HO_527001; try clear HO_533001; try clear HO_550001; try clear HO_556001; try clear HO_571001
            obtain ⟨kq, x166_207, rfl, HA, HJ207, HO_527001, HO_533001, HO_550001, HO_556001, BK526, BK532, BK549, BK555, HB⟩ := hcut
            cases kq with
            | zero => exact absurd HA.out (by simp [laws_FnContexts.j1])
            | succ kj207 =>
              have H := HA.out
              clear HA
              simp only [laws_FnContexts.j1] at H
              by_cases c313 : x166_207 = true
              · subst c313
                replace H := ifT H
                exact absurd (Option.some.inj H) (by rw [HRR.out]; decide)
              · replace c313 := Bool.eq_false_iff.mpr c313
                subst c313
                replace H := ifF H
                by_cases c314 : t554 = true
                · subst c314
                  replace H := ifT H
                  replace H := aB H
                  obtain ⟨⟨t605, t606, t609⟩, A315, H⟩ := H
                  dsimp only at H
                  have HC316 := Aside0.mk H
                  clear H
                  have hcz328_0 : wc.cell? ⟨gb555, 0, none⟩ = some (.int .i64 t550) := (blk_cell BK555.out 0).trans rfl
                  have hcz328_1 : wc.cell? ⟨gb555, 1, none⟩ = some (.slice Ao55 t551.length co55) := (blk_cell BK555.out 1).trans rfl
                  have hfz328_0 := blk_frozen BK555.out 0
                  have hfz328_1 := blk_frozen BK555.out 1
                  go_upto_region 22 with (first | ((with_reducible refine gate_callee (f := 10) rfl ?_); refine goesL_ (some 170) rfl rfl Tryz.func10 (by kernel_rfl) rfl #[.agg #[.int .i64 t550, .slice Ao55 t551.length co55]] rfl gL_ ?_; (with_reducible refine (impl_ComplementContext.calls kj207 t550 _ _ t551 t605 t606 t609 _ ?side1 ?side2 A315.out).mono ?_); (case side1 => exact rC HO_556001); (case side2 => exact (Kd.R_reads' HO_556001.out).2.1); rintro e w329 ⟨v607, rfl, ho0, hb⟩; refine ⟨_, rfl, ?_⟩; have HO608 := Aside0.mk (Kd.R_lower ho0 (below_size hB_)); replace HO_527001 := kR HO_527001 hb; replace HO_533001 := kR HO_533001 hb; replace HO_550001 := kR HO_550001 hb; clear HO_556001; replace BK526 := kB BK526 hb; replace BK532 := kB BK532 hb; replace BK549 := kB BK549 hb; clear BK555; replace HB := kH HB hb; clear hb ho0) | ((with_reducible refine gate_dst (N := 25) rfl ?_); (try (refine gate_guard (by rfl) ?_; dsimp only)); refine box_event ?hg (N := 25) ?hd (cs := #[.int .i64 0, .slice none 0 0]) (t := 26) ?hr ?_; (case hd => rfl); (case hg => rfl); (case hr => first | (go_simp; done) | (go_simp; rfl)); intro gb610 hg w330 hbox hb; replace HO_527001 := kR HO_527001 hb; replace HO_533001 := kR HO_533001 hb; replace HO_550001 := kR HO_550001 hb; replace HO608 := kR HO608 hb; have BK610 := Aside0.mk (hbox); have GE610 := kG HB hg; replace HB := kH HB hb; have NB526_610 := kN BK526 hg; replace BK526 := kB BK526 hb; have NB532_610 := kN BK532 hg; replace BK532 := kB BK532 hb; have NB549_610 := kN BK549 hg; have NB610_549 := kM BK549 hg; replace BK549 := kB BK549 hb; clear hb hbox hg; have hcz343_0 : w330.cell? ⟨gb610, 0, none⟩ = some (.int .i64 0) := (blk_cell BK610.out 0).trans rfl; have hcz343_1 : w330.cell? ⟨gb610, 1, none⟩ = some (.slice none 0 0) := (blk_cell BK610.out 1).trans rfl; have hfz343_0 := blk_frozen BK610.out 0; have hfz343_1 := blk_frozen BK610.out 1; obtain ⟨Ao344, co344, eo344⟩ := Kd.R_slice HO608.out; subst eo344))
                  (try simp only [Act.put, setIfInBounds_toArray, set_cons_zero, set_cons_succ])
                  go_cut [180] (fun v180 wc => ∃ (kq : Nat) (x180_315 : Bool), v180 = .bool x180_315 ∧ Aside0 (laws_FnContexts.j2 kq t531 x180_315 t522 t523 t527 t528 = some r) ∧ Aside0 (kq ≤ kj207) ∧ Aside0 (Kd.R (Kd.int .i64) 3 wc w.heap.size (ofs []) (.slice Ao19 t523.length co19) t523) ∧ Aside0 (Kd.R (Kd.int .i64) 3 wc w.heap.size (ofs []) (.slice Ao24 t528.length co24) t528) ∧ Aside0 (wc.heap[gb526]? = some (.cells #[.int .i64 t522, (.slice Ao19 t523.length co19)] 26 (0, 0))) ∧ Aside0 (wc.heap[gb532]? = some (.cells #[.int .i64 t527, (.slice Ao24 t528.length co24)] 26 (0, 0))) ∧ Aside0 (Below w.heap.size w wc))
                  case first =>
                    have H := HC316.out
                    clear HC316
                    by_cases c345 : t609 = true
                    · subst c345
                      replace H := ifT H
                      replace H := aB H
                      obtain ⟨t611, A346, H⟩ := H
                      have H' := Aside0.mk H
                      clear H
                      have hnb351 := NB610_549.out
                      have hnc351 := NB549_610.out
                      have hcz359_0 : w330.cell? ⟨gb610, 0, none⟩ = some (.int .i64 0) := (blk_cell BK610.out 0).trans rfl
                      have hcz359_1 : w330.cell? ⟨gb610, 1, none⟩ = some (.slice none 0 0) := (blk_cell BK610.out 1).trans rfl
                      have hfz359_0 := blk_frozen BK610.out 0
                      have hfz359_1 := blk_frozen BK610.out 1
                      have hcz371_0 : w330.cell? ⟨gb549, 0, none⟩ = some (.int .i64 t545) := (blk_cell BK549.out 0).trans rfl
                      have hcz371_1 : w330.cell? ⟨gb549, 1, none⟩ = some (.slice Ao46 t546.length co46) := (blk_cell BK549.out 1).trans rfl
                      have hfz371_0 := blk_frozen BK549.out 0
                      have hfz371_1 := blk_frozen BK549.out 1
                      go_wp2_with (first | (go_at_call 16; (with_reducible refine (spec_EqualContext.calls kj207 t605 _ _ t606 t545 _ _ t546 t611 _ ?side1 ?side2 ?side3 ?side4 A346.out).mono ?_); (case side1 => exact rC (kT HO608 BK610)); (case side2 => exact (Kd.R_reads' HO608.out).2.1); (case side3 => exact rC (kT HO_550001 BK610)); (case side4 => exact (Kd.R_reads' HO_550001.out).2.1); rintro e w372 ⟨rfl, hb⟩; replace HO_527001 := kR (kT HO_527001 BK610) hb; replace HO_533001 := kR (kT HO_533001 BK610) hb; clear HO_550001 HO608; replace BK526 := kB (kF NB526_610 BK526) hb; replace BK532 := kB (kF NB532_610 BK532) hb; clear BK549 BK610; replace HB := kH HB hb; clear hb))
                      go_meet
                      case rel => exact ⟨_, (!t611), (by first | rfl | (simp; done) | (simp [*]; done)), H', ⟨by have := HJ14.out; have := HJ207.out; first | omega | exact Nat.le_refl _⟩, (rM HO_527001), (rM HO_533001), ⟨bW BK526⟩, ⟨bW BK532⟩, ⟨hB_⟩⟩
                    · replace c345 := Bool.eq_false_iff.mpr c345
                      subst c345
                      replace H := ifF H
                      exact (laws_FnContexts.j2_dead _ _ _ _ _ _ (by rw [HRR.out] at H; exact H)).elim
                  case rest =>
                    clear HC316
                    try clear c1
                    try clear c2
                    try clear p2
                    try clear c3
                    try clear c10
                    try clear c12
                    try clear c14
                    try clear c16
                    try clear c20
                    try clear c21
                    try clear c22
                    try clear c23
                    try clear c24
                    try clear c25
                    try clear c26
                    try clear c27
                    try clear c28
                    try clear c29
                    try clear c30
                    try clear c31
                    try clear c32
                    try clear c33
                    try clear c34
                    try clear c35
                    try clear c36
                    try clear c37
                    try clear c121
                    try clear c205
                    try clear c209
                    try clear c210
                    try clear c211
                    try clear c212
                    try clear c213
                    try clear c214
                    try clear c215
                    try clear c216
                    try clear c217
                    try clear c218
                    try clear c223
                    try clear c224
                    try clear c225
                    try clear c226
                    try clear c227
                    try clear c228
                    try clear c229
                    try clear c230
                    try clear c231
                    try clear c232
                    try clear c233
                    try clear c237
                    try clear c237b0
                    try clear c237b1
                    try clear c239
                    try clear c239b0
                    try clear c239b1
                    try clear c239b2
                    try clear c240
                    try clear c241
                    try clear c242
                    try clear c243
                    try clear c244
                    try clear c245
                    try clear c246
                    try clear c247
                    try clear c248
                    try clear c249
                    try clear c250
                    try clear c255
                    try clear c257
                    try clear c258
                    try clear c259
                    try clear c260
                    try clear c261
                    try clear c262
                    try clear c263
                    try clear c264
                    try clear c265
                    try clear c266
                    try clear c267
                    try clear c272
                    try clear c273
                    try clear c274
                    try clear c275
                    try clear c276
                    try clear c277
                    try clear c278
                    try clear c279
                    try clear c280
                    try clear c281
                    try clear c285
                    try clear c286
                    try clear c287
                    try clear c288
                    try clear c289
                    try clear c290
                    try clear c291
                    try clear c292
                    try clear c293
                    try clear c294
                    try clear c295
                    try clear c300
                    try clear c301
                    try clear c302
                    try clear c303
                    try clear c304
                    try clear c305
                    try clear c306
                    try clear c307
                    try clear c308
                    try clear c309
                    try clear c310
                    try clear c313
                    try clear c314
                    try clear c317
                    try clear c318
                    try clear c319
                    try clear c320
                    try clear c321
                    try clear c322
                    try clear c323
                    try clear c324
                    try clear c325
                    try clear c326
                    try clear c327
                    try clear c331
                    try clear c332
                    try clear c333
                    try clear c334
                    try clear c335
                    try clear c336
                    try clear c337
                    try clear c338
                    try clear c339
                    try clear c340
                    try clear c341
                    try clear c342
                    try clear c345
                    try clear c347
                    try clear c348
                    try clear c349
                    try clear c350
                    try clear c351
                    try clear c352
                    try clear c353
                    try clear c354
                    try clear c355
                    try clear c356
                    try clear c357
                    try clear c358
                    try clear c360
                    try clear c361
                    try clear c362
                    try clear c363
                    try clear c364
                    try clear c365
                    try clear c366
                    try clear c367
                    try clear c368
                    try clear c369
                    try clear c370
                    try clear hcz219_0
                    try clear hcz219_1
                    try clear hcz234_0
                    try clear hcz234_1
                    try clear hcz251_0
                    try clear hcz251_1
                    try clear hcz253_0
                    try clear hcz253_1
                    try clear hcz268_0
                    try clear hcz268_1
                    try clear hcz270_0
                    try clear hcz270_1
                    try clear hcz282_0
                    try clear hcz282_1
                    try clear hcz283_0
                    try clear hcz283_1
                    try clear hcz296_0
                    try clear hcz296_1
                    try clear hcz298_0
                    try clear hcz298_1
                    try clear hcz311_0
                    try clear hcz311_1
                    try clear hcz328_0
                    try clear hcz328_1
                    try clear hcz343_0
                    try clear hcz343_1
                    try clear hcz359_0
                    try clear hcz359_1
                    try clear hcz371_0
                    try clear hcz371_1
                    try clear hfz219_0
                    try clear hfz219_1
                    try clear hfz234_0
                    try clear hfz234_1
                    try clear hfz251_0
                    try clear hfz251_1
                    try clear hfz253_0
                    try clear hfz253_1
                    try clear hfz268_0
                    try clear hfz268_1
                    try clear hfz270_0
                    try clear hfz270_1
                    try clear hfz282_0
                    try clear hfz282_1
                    try clear hfz283_0
                    try clear hfz283_1
                    try clear hfz296_0
                    try clear hfz296_1
                    try clear hfz298_0
                    try clear hfz298_1
                    try clear hfz311_0
                    try clear hfz311_1
                    try clear hfz328_0
                    try clear hfz328_1
                    try clear hfz343_0
                    try clear hfz343_1
                    try clear hfz359_0
                    try clear hfz359_1
                    try clear hfz371_0
                    try clear hfz371_1
                    try clear p2
                    try clear BK526; try clear BK532; try clear BK549; try clear BK610; try clear HO525; try clear HO530; try clear HO536; try clear HO542; try clear HO548; try clear HO553; try clear HO559; try clear HO565; try clear HO569; try clear HO576; try clear HO582; try clear HO599; try clear HO608; try clear HO_527001; try clear HO_533001; try clear HO_550001
                    obtain ⟨kq, x180_315, rfl, HA, HJ315, HO_527001, HO_533001, BK526, BK532, HB⟩ := hcut
                    cases kq with
                    | zero => exact absurd HA.out (by simp [laws_FnContexts.j2])
                    | succ kj315 =>
                      have H := HA.out
                      clear HA
                      simp only [laws_FnContexts.j2] at H
                      by_cases c373 : x180_315 = true
                      · subst c373
                        replace H := ifT H
                        exact absurd (Option.some.inj H) (by rw [HRR.out]; decide)
                      · replace c373 := Bool.eq_false_iff.mpr c373
                        subst c373
                        replace H := ifF H
                        replace H := aB H
                        obtain ⟨⟨t612, t613, t616⟩, A374, H⟩ := H
                        dsimp only at H
                        by_cases c375 : t531 = true
                        · subst c375
                          replace H := ifT H
                          by_cases c376 : t616 = true
                          · subst c376
                            replace H := ifT H
                            replace H := aB H
                            obtain ⟨t618, A377, H⟩ := H
                            obtain rfl := Option.some.inj H
                            have hcz390_0 : wc.cell? ⟨gb532, 0, none⟩ = some (.int .i64 t527) := (blk_cell BK532.out 0).trans rfl
                            have hcz390_1 : wc.cell? ⟨gb532, 1, none⟩ = some (.slice Ao24 t528.length co24) := (blk_cell BK532.out 1).trans rfl
                            have hfz390_0 := blk_frozen BK532.out 0
                            have hfz390_1 := blk_frozen BK532.out 1
                            go_wp2_with (first | ((with_reducible refine gate_callee (f := 6) rfl ?_); refine goesL_ (some 183) rfl rfl Tryz.func6 (by kernel_rfl) rfl #[.agg #[.int .i64 t527, .slice Ao24 t528.length co24]] rfl gL_ ?_; (with_reducible refine (impl_DualContext.calls kj315 t527 _ _ t528 t612 t613 true _ ?side1 ?side2 A374.out).mono ?_); (case side1 => exact rC HO_533001); (case side2 => exact (Kd.R_reads' HO_533001.out).2.1); rintro e w391 ⟨v614, rfl, ho0, hb⟩; refine ⟨_, rfl, ?_⟩; have HO615 := Aside0.mk (Kd.R_lower ho0 (below_size hB_)); replace HO_527001 := kR HO_527001 hb; clear HO_533001; replace BK526 := kB BK526 hb; clear BK532; replace HB := kH HB hb; clear hb ho0) | ((with_reducible refine gate_dst (N := 27) rfl ?_); (try (refine gate_guard (by rfl) ?_; dsimp only)); refine box_event ?hg (N := 27) ?hd (cs := #[.int .i64 0, .slice none 0 0]) (t := 26) ?hr ?_; (case hd => rfl); (case hg => rfl); (case hr => first | (go_simp; done) | (go_simp; rfl)); intro gb617 hg w392 hbox hb; replace HO_527001 := kR HO_527001 hb; replace HO615 := kR HO615 hb; have BK617 := Aside0.mk (hbox); have GE617 := kG HB hg; replace HB := kH HB hb; have NB526_617 := kN BK526 hg; have NB617_526 := kM BK526 hg; replace BK526 := kB BK526 hb; clear hb hbox hg; have hnb393 := NB617_526.out; have hnc393 := NB526_617.out; have hcz406_0 : w392.cell? ⟨gb617, 0, none⟩ = some (.int .i64 0) := (blk_cell BK617.out 0).trans rfl; have hcz406_1 : w392.cell? ⟨gb617, 1, none⟩ = some (.slice none 0 0) := (blk_cell BK617.out 1).trans rfl; have hfz406_0 := blk_frozen BK617.out 0; have hfz406_1 := blk_frozen BK617.out 1; obtain ⟨Ao407, co407, eo407⟩ := Kd.R_slice HO615.out; subst eo407; have hcz419_0 : w392.cell? ⟨gb526, 0, none⟩ = some (.int .i64 t522) := (blk_cell BK526.out 0).trans rfl; have hcz419_1 : w392.cell? ⟨gb526, 1, none⟩ = some (.slice Ao19 t523.length co19) := (blk_cell BK526.out 1).trans rfl; have hfz419_0 := blk_frozen BK526.out 0; have hfz419_1 := blk_frozen BK526.out 1) | (go_at_call 16; (with_reducible refine (spec_EqualContext.calls kj315 t612 _ _ t613 t522 _ _ t523 t618 _ ?side1 ?side2 ?side3 ?side4 A377.out).mono ?_); (case side1 => exact rC (kT HO615 BK617)); (case side2 => exact (Kd.R_reads' HO615.out).2.1); (case side3 => exact rC (kT HO_527001 BK617)); (case side4 => exact (Kd.R_reads' HO_527001.out).2.1); rintro e w420 ⟨rfl, hb⟩; clear HO_527001 HO615 BK526 BK617; replace HB := kH HB hb; clear hb))
                            go_ret
                            exact ⟨eR_, hB_⟩
                          · replace c376 := Bool.eq_false_iff.mpr c376
                            subst c376
                            replace H := ifF H
                            exact absurd (Option.some.inj H) (by rw [HRR.out]; decide)
                        · replace c375 := Bool.eq_false_iff.mpr c375
                          subst c375
                          replace H := ifF H
                          obtain rfl := Option.some.inj H
                          have hcz463_0 : wc.cell? ⟨gb532, 0, none⟩ = some (.int .i64 t527) := (blk_cell BK532.out 0).trans rfl
                          have hcz463_1 : wc.cell? ⟨gb532, 1, none⟩ = some (.slice Ao24 t528.length co24) := (blk_cell BK532.out 1).trans rfl
                          have hfz463_0 := blk_frozen BK532.out 0
                          have hfz463_1 := blk_frozen BK532.out 1
                          go_wp2_with (first | ((with_reducible refine gate_callee (f := 6) rfl ?_); refine goesL_ (some 183) rfl rfl Tryz.func6 (by kernel_rfl) rfl #[.agg #[.int .i64 t527, .slice Ao24 t528.length co24]] rfl gL_ ?_; (with_reducible refine (impl_DualContext.calls kj315 t527 _ _ t528 t612 t613 t616 _ ?side1 ?side2 A374.out).mono ?_); (case side1 => exact rC HO_533001); (case side2 => exact (Kd.R_reads' HO_533001.out).2.1); rintro e w464 ⟨v614, rfl, ho0, hb⟩; refine ⟨_, rfl, ?_⟩; have HO615 := Aside0.mk (Kd.R_lower ho0 (below_size hB_)); clear HO_527001 HO_533001 BK526 BK532; replace HB := kH HB hb; clear hb ho0) | ((with_reducible refine gate_dst (N := 27) rfl ?_); (try (refine gate_guard (by rfl) ?_; dsimp only)); refine box_event ?hg (N := 27) ?hd (cs := #[.int .i64 0, .slice none 0 0]) (t := 26) ?hr ?_; (case hd => rfl); (case hg => rfl); (case hr => first | (go_simp; done) | (go_simp; rfl)); intro gb617 hg w465 hbox hb; replace HO615 := kR HO615 hb; have BK617 := Aside0.mk (hbox); have GE617 := kG HB hg; replace HB := kH HB hb; clear hb hbox hg; have hcz479_0 : w465.cell? ⟨gb617, 0, none⟩ = some (.int .i64 0) := (blk_cell BK617.out 0).trans rfl; have hcz479_1 : w465.cell? ⟨gb617, 1, none⟩ = some (.slice none 0 0) := (blk_cell BK617.out 1).trans rfl; have hfz479_0 := blk_frozen BK617.out 0; have hfz479_1 := blk_frozen BK617.out 1; obtain ⟨Ao480, co480, eo480⟩ := Kd.R_slice HO615.out; subst eo480))
                          go_ret
                          exact ⟨eR_, hB_⟩
                · replace c314 := Bool.eq_false_iff.mpr c314
                  subst c314
                  replace H := ifF H
                  replace H := aB H
                  obtain ⟨⟨t619, t620, t623⟩, A481, H⟩ := H
                  dsimp only at H
                  by_cases c482 : t531 = true
                  · subst c482
                    replace H := ifT H
                    by_cases c483 : t623 = true
                    · subst c483
                      replace H := ifT H
                      replace H := aB H
                      obtain ⟨t625, A484, H⟩ := H
                      obtain rfl := Option.some.inj H
                      have hcz496_0 : wc.cell? ⟨gb532, 0, none⟩ = some (.int .i64 t527) := (blk_cell BK532.out 0).trans rfl
                      have hcz496_1 : wc.cell? ⟨gb532, 1, none⟩ = some (.slice Ao24 t528.length co24) := (blk_cell BK532.out 1).trans rfl
                      have hfz496_0 := blk_frozen BK532.out 0
                      have hfz496_1 := blk_frozen BK532.out 1
                      go_wp2_with (first | ((with_reducible refine gate_callee (f := 6) rfl ?_); refine goesL_ (some 183) rfl rfl Tryz.func6 (by kernel_rfl) rfl #[.agg #[.int .i64 t527, .slice Ao24 t528.length co24]] rfl gL_ ?_; (with_reducible refine (impl_DualContext.calls kj207 t527 _ _ t528 t619 t620 true _ ?side1 ?side2 A481.out).mono ?_); (case side1 => exact rC HO_533001); (case side2 => exact (Kd.R_reads' HO_533001.out).2.1); rintro e w497 ⟨v621, rfl, ho0, hb⟩; refine ⟨_, rfl, ?_⟩; have HO622 := Aside0.mk (Kd.R_lower ho0 (below_size hB_)); replace HO_527001 := kR HO_527001 hb; clear HO_533001 HO_550001 HO_556001; replace BK526 := kB BK526 hb; clear BK532 BK549 BK555; replace HB := kH HB hb; clear hb ho0) | ((with_reducible refine gate_dst (N := 27) rfl ?_); (try (refine gate_guard (by rfl) ?_; dsimp only)); refine box_event ?hg (N := 27) ?hd (cs := #[.int .i64 0, .slice none 0 0]) (t := 26) ?hr ?_; (case hd => rfl); (case hg => rfl); (case hr => first | (go_simp; done) | (go_simp; rfl)); intro gb624 hg w498 hbox hb; replace HO_527001 := kR HO_527001 hb; replace HO622 := kR HO622 hb; have BK624 := Aside0.mk (hbox); have GE624 := kG HB hg; replace HB := kH HB hb; have NB526_624 := kN BK526 hg; have NB624_526 := kM BK526 hg; replace BK526 := kB BK526 hb; clear hb hbox hg; have hnb499 := NB624_526.out; have hnc499 := NB526_624.out; have hcz511_0 : w498.cell? ⟨gb624, 0, none⟩ = some (.int .i64 0) := (blk_cell BK624.out 0).trans rfl; have hcz511_1 : w498.cell? ⟨gb624, 1, none⟩ = some (.slice none 0 0) := (blk_cell BK624.out 1).trans rfl; have hfz511_0 := blk_frozen BK624.out 0; have hfz511_1 := blk_frozen BK624.out 1; obtain ⟨Ao512, co512, eo512⟩ := Kd.R_slice HO622.out; subst eo512; have hcz523_0 : w498.cell? ⟨gb526, 0, none⟩ = some (.int .i64 t522) := (blk_cell BK526.out 0).trans rfl; have hcz523_1 : w498.cell? ⟨gb526, 1, none⟩ = some (.slice Ao19 t523.length co19) := (blk_cell BK526.out 1).trans rfl; have hfz523_0 := blk_frozen BK526.out 0; have hfz523_1 := blk_frozen BK526.out 1) | (go_at_call 16; (with_reducible refine (spec_EqualContext.calls kj207 t619 _ _ t620 t522 _ _ t523 t625 _ ?side1 ?side2 ?side3 ?side4 A484.out).mono ?_); (case side1 => exact rC (kT HO622 BK624)); (case side2 => exact (Kd.R_reads' HO622.out).2.1); (case side3 => exact rC (kT HO_527001 BK624)); (case side4 => exact (Kd.R_reads' HO_527001.out).2.1); rintro e w524 ⟨rfl, hb⟩; clear HO_527001 HO622 BK526 BK624; replace HB := kH HB hb; clear hb))
                      go_ret
                      exact ⟨eR_, hB_⟩
                    · replace c483 := Bool.eq_false_iff.mpr c483
                      subst c483
                      replace H := ifF H
                      exact absurd (Option.some.inj H) (by rw [HRR.out]; decide)
                  · replace c482 := Bool.eq_false_iff.mpr c482
                    subst c482
                    replace H := ifF H
                    obtain rfl := Option.some.inj H
                    have hcz564_0 : wc.cell? ⟨gb532, 0, none⟩ = some (.int .i64 t527) := (blk_cell BK532.out 0).trans rfl
                    have hcz564_1 : wc.cell? ⟨gb532, 1, none⟩ = some (.slice Ao24 t528.length co24) := (blk_cell BK532.out 1).trans rfl
                    have hfz564_0 := blk_frozen BK532.out 0
                    have hfz564_1 := blk_frozen BK532.out 1
                    go_wp2_with (first | ((with_reducible refine gate_callee (f := 6) rfl ?_); refine goesL_ (some 183) rfl rfl Tryz.func6 (by kernel_rfl) rfl #[.agg #[.int .i64 t527, .slice Ao24 t528.length co24]] rfl gL_ ?_; (with_reducible refine (impl_DualContext.calls kj207 t527 _ _ t528 t619 t620 t623 _ ?side1 ?side2 A481.out).mono ?_); (case side1 => exact rC HO_533001); (case side2 => exact (Kd.R_reads' HO_533001.out).2.1); rintro e w565 ⟨v621, rfl, ho0, hb⟩; refine ⟨_, rfl, ?_⟩; have HO622 := Aside0.mk (Kd.R_lower ho0 (below_size hB_)); clear HO_527001 HO_533001 HO_550001 HO_556001 BK526 BK532 BK549 BK555; replace HB := kH HB hb; clear hb ho0) | ((with_reducible refine gate_dst (N := 27) rfl ?_); (try (refine gate_guard (by rfl) ?_; dsimp only)); refine box_event ?hg (N := 27) ?hd (cs := #[.int .i64 0, .slice none 0 0]) (t := 26) ?hr ?_; (case hd => rfl); (case hg => rfl); (case hr => first | (go_simp; done) | (go_simp; rfl)); intro gb624 hg w566 hbox hb; replace HO622 := kR HO622 hb; have BK624 := Aside0.mk (hbox); have GE624 := kG HB hg; replace HB := kH HB hb; clear hb hbox hg; have hcz579_0 : w566.cell? ⟨gb624, 0, none⟩ = some (.int .i64 0) := (blk_cell BK624.out 0).trans rfl; have hcz579_1 : w566.cell? ⟨gb624, 1, none⟩ = some (.slice none 0 0) := (blk_cell BK624.out 1).trans rfl; have hfz579_0 := blk_frozen BK624.out 0; have hfz579_1 := blk_frozen BK624.out 1; obtain ⟨Ao580, co580, eo580⟩ := Kd.R_slice HO622.out; subst eo580))
                    go_ret
                    exact ⟨eR_, hB_⟩

/-- THE ONE PURE STATEMENT of laws_FnContexts. -/
def laws_FnContexts.Pure : Prop := ∀ (l0 : List Int), l0.length ≤ maxLen → (∀ x ∈ l0, (Lit.int .u8 x).wf = true) → ∃ k, laws_FnContexts.f k l0 = some true

end Go.Proofs.YtgmnmimaeklfeaaGreatDoor.PFnContexts
