-- Written by a program of this session (wip/myprint.py), which runs the kit's print with contracts proved by hand; not the kit's own print. Lean checks it.
import Derived.Test.YtgmnmimaeklfeaaGreatDoorPFnContextsx0
import Derived.Test.YtgmnmimaeklfeaaGreatDoorPFnContextsx1
import Derived.Test.YtgmnmimaeklfeaaGreatDoorPFnContextsx3
import Derived.Test.YtgmnmimaeklfeaaGreatDoorPFnContextsx4
namespace Go.Proofs.YtgmnmimaeklfeaaGreatDoor.PFnContexts
open Go.RowKit Go.Proofs.YtgmnmimaeklfeaaGreatDoorW.PrintWords Go.Proofs.YtgmnmimaeklfeaaGreatDoorW.PrintLast Go.Proofs.YtgmnmimaeklfeaaGreatDoorW.PrintMore
attribute [local go_sem] max2_int min2_int max_two min_two max_three min_three max_four min_four   -- for this text's walks alone
set_option linter.unusedVariables false
set_option linter.unusedSimpArgs false

/-! ### spec_l3Copy: function 33 -/
def spec_l3Copy.f (a0_0 : Int) (l0_1 : List Int) : Option (Int × List Int) := (some (([] : List Int) : List Int)).bind fun y299 => (if y299.length + l0_1.length < 17592186044416 then (some (a0_0, (y299 ++ l0_1))) else (none))
def spec_l3Copy.T1 : Bool × List (List Nat × List Nat) := (true, [([], []), ([0], [0]), ([], []), ([], []), ([3], [3]), ([2, 4], [2, 4]), ([1, 5], [1, 5]), ([6, 5, 0, 1, 2, 3, 4, 5, 6], [6])])
def spec_l3Copy.B1 : List Nat := [0, 1, 0, 0, 8, 28, 63, 127]
theorem spec_l3Copy.tab1 : rtab .any (opsOf Tryz.f33 1) = spec_l3Copy.T1 := by kernel_rfl
theorem spec_l3Copy.bits1 : waitsOk spec_l3Copy.T1.2 spec_l3Copy.B1 = true := by kernel_rfl
set_option maxHeartbeats 8000000 in
set_option maxRecDepth 100000 in
theorem spec_l3Copy.calls (a0_0 : Int) (A0_1 : Option Addr) (c0_1 : Nat) (l0_1 : List Int) (r1 : Int) (r2 : List Int) (w : World) (hr0_1 : Kd.C (Kd.int .i64) w A0_1 l0_1.length l0_1) (hc0_1 : l0_1.length ≤ c0_1) (h : spec_l3Copy.f a0_0 l0_1 = some (r1, r2)) :
    Calls Tryz.prog 33 #[.agg #[.int .i64 a0_0, .slice A0_1 l0_1.length c0_1]] w fun e w' => ∃ v1_ : Value, e = .returned (.agg #[.int .i64 r1, v1_]) ∧ Kd.R (Kd.int .i64) 3 w' w.heap.size (fun _ => True) v1_ r2 ∧ Below w.heap.size w w' := by
  have hu26 := Tryz.underlying26
  have HR0_1 := Aside0.mk hr0_1
  have HC0_1 := Aside0.mk hc0_1
  clear hr0_1 hc0_1
  have HB := Aside0.mk (Below.refl w.heap.size w)
  have H : ((some (([] : List Int) : List Int)).bind fun y299 => (if y299.length + l0_1.length < 17592186044416 then (some (a0_0, (y299 ++ l0_1))) else (none))) = some (r1, r2) := h
  clear h
  obtain ⟨y299, hy299⟩ : ∃ y_ : List Int, y_ = (([] : List Int)) := ⟨_, rfl⟩
  replace H : (if y299.length + l0_1.length < 17592186044416 then (some (a0_0, (y299 ++ l0_1))) else (none)) = some (r1, r2) := by first | (rw [hy299]; with_reducible exact H) | (have H2_ := (Option.bind_some _ _).symm.trans H; rw [hy299]; with_reducible exact H2_) | (have H2_ := (Option.bind_some _ _).symm.trans H; with_reducible exact H2_) | with_reducible exact H | (rw [hy299]; exact H) | exact H
  have Ny299 := Aside0.mk hy299
  clear hy299
  by_cases c2 : y299.length + l0_1.length < 17592186044416
  · rw [if_pos c2] at H
    have LMc2 := Aside0.mk c2
    clear c2
    obtain ⟨y302, hy302⟩ : ∃ y_ : List Int, y_ = (y299 ++ l0_1) := ⟨_, rfl⟩
    replace H : (some (a0_0, y302)) = some (r1, r2) := by first | (rw [hy302]; with_reducible exact H) | (have H2_ := (Option.bind_some _ _).symm.trans H; rw [hy302]; with_reducible exact H2_) | (have H2_ := (Option.bind_some _ _).symm.trans H; with_reducible exact H2_) | with_reducible exact H | (rw [hy302]; exact H) | exact H
    have Ny302 := Aside0.mk hy302
    clear hy302
    simp only [Option.some.injEq, Prod.mk.injEq] at H
    obtain ⟨rfl, rfl⟩ := H
    go_enter Tryz.func33, Tryz.ntmps33
    try go_wp2_with (first | ((with_reducible refine gate_dst (N := 1) rfl ?_); refine box_event ?hg (N := 1) ?hd (cs := #[.int .i64 a0_0, .slice A0_1 l0_1.length c0_1]) (t := 26) ?hr ?_; (case hd => rfl); (case hg => rfl); (case hr => first | (go_simp; done) | (go_simp; rfl)); intro gb297 hg w3 hbox hb; have BK297 := Aside0.mk (hbox); have GW297 := kG HB hg; have GE297 := kG HB hg; replace HB := kH HB hb; clear hb hbox hg) | ((with_reducible refine gate_dst (N := 2) rfl ?_); refine box_event ?hg (N := 2) ?hd (cs := #[.int .i64 0, .slice none 0 0]) (t := 26) ?hr ?_; (case hd => rfl); (case hg => rfl); (case hr => first | (go_simp; done) | (go_simp; rfl)); intro gb298 hg w4 hbox hb; have BK298 := Aside0.mk (hbox); have GW298 := kG HB hg; have GE298 := kG HB hg; replace HB := kH HB hb; have NB297_298 := kN BK297 hg; have NB298_297 := kM BK297 hg; replace BK297 := kB BK297 hb; clear hb hbox hg))
    replace BK297 := Aside0.mk (blk_drew BK297.out)
    replace BK298 := Aside0.mk (blk_drew BK298.out)
    replace HB := Aside0.mk (below_drew1 HB.out)
    refine start_ (n := 8) (S := fun w' => w'.cell? ⟨gb297, 0, none⟩ = some (.int .i64 a0_0) ∧ w'.cell? ⟨gb297, 1, none⟩ = some (.slice A0_1 l0_1.length c0_1)) (ds := []) #[false, false, false, false, false, false, false, false] (by kernel_rfl) rfl rfl ⟨(blk_cell BK297.out 0).trans rfl, (blk_cell BK297.out 1).trans rfl⟩ (fun hHeld => ?_); refine with_tabW spec_l3Copy.tab1 spec_l3Copy.bits1 (fun HT_ HW_ => ?_)
    generalize w4.drew = w5 at BK297 BK298 HB hHeld ⊢
    refine pure_ (i := 0) (N := some 3) (v := ?_) (a' := ?_) #[true, false, false, false, false, false, false, false] rfl rfl (any_of HT_.out (by kernel_rfl)) (fun _ _ _ h => h) (Or.inl ⟨by rfl, ?_⟩) ?_ ?_
    rotate_left
    · intro w'
      go_simp
      with_reducible rfl
    rotate_left
    · simp only [Act.put, List.setIfInBounds_toArray, List.set_cons_zero, List.set_cons_succ, i64_w, i32_w]
      rfl
    refine pure_ (i := 3) (N := some 6) (v := ?_) (a' := ?_) #[true, false, false, true, false, false, false, false] rfl rfl (any_of HT_.out (by kernel_rfl)) (fun _ _ _ h => h) (Or.inl ⟨by rfl, ?_⟩) ?_ ?_
    rotate_left
    · intro w'
      go_simp
      with_reducible rfl
    rotate_left
    · simp only [Act.put, List.setIfInBounds_toArray, List.set_cons_zero, List.set_cons_succ, i64_w, i32_w]
      rfl
    refine take_ (i := 1) (N := some 4) (v := ?_) (a' := ?_) #[true, true, false, true, false, false, false, false] rfl rfl (take_ofW HT_.out HW_.out (by kernel_rfl)) (fun _ _ _ h => h) (Or.inl ⟨by rfl, ?_⟩) hHeld ?_ ?_
    rotate_left
    · rintro w' ⟨s0, s1⟩
      go_simp
      with_reducible rfl
    rotate_left
    · simp only [Act.put, List.setIfInBounds_toArray, List.set_cons_zero, List.set_cons_succ, i64_w, i32_w]
      rfl
    refine take_ (i := 4) (N := some 7) (v := ?_) (a' := ?_) #[true, true, false, true, true, false, false, false] rfl rfl (take_ofW HT_.out HW_.out (by kernel_rfl)) (fun _ _ _ h => h) (Or.inl ⟨by rfl, ?_⟩) hHeld ?_ ?_
    rotate_left
    · rintro w' ⟨s0, s1⟩
      go_simp
      with_reducible rfl
    rotate_left
    · simp only [Act.put, List.setIfInBounds_toArray, List.set_cons_zero, List.set_cons_succ, i64_w, i32_w]
      rfl
    refine one_ (i := 2) (N := some 5) #[true, true, true, true, true, false, false, false] rfl rfl (one_of HT_.out (by kernel_rfl)) (by decide) (fun K hK => ?_)
    refine Kd.R_lit_step (Kd.int .i64) _ 3 ?hg (N := 5) ?hd (xs := ([] : List Int)) (inner := []) (ok := fun _ => True) (okp := fun _ => True) ?hr ?hp (fun _ hk => hk) trivial (Below.refl _ _) (Nat.le_refl _) (by simp) ?_; (case hd => rfl); (case hg => rfl); (case hr => first | (go_simp; done) | (go_simp; rfl)); (case hp => exact (Reps.none _ _))
    intro v300 w6 ho7 hb hg_ hnew_
    clear hg_ hnew_
    (first | rw [← Ny299.out] at ho7 | (simp only [Int.reduceToNat] at ho7; rw [← Ny299.out] at ho7))
    have HO301 := Aside0.mk (Kd.R_lower ho7 (below_size hB_))
    replace BK297 := kB BK297 hb
    replace BK298 := kB BK298 hb
    replace HB := kH HB hb
    clear hb ho7
    refine hK.out _ _ ⟨(blk_cell BK297.out 0).trans rfl, (blk_cell BK297.out 1).trans rfl⟩ (fun hHeld => ?_)
    clear hK K
    refine norm_ (a' := ?_) ?_ ?_
    rotate_left
    · show Act.put _ (some 5) _ = _
      simp only [Act.put, List.setIfInBounds_toArray, List.set_cons_zero, List.set_cons_succ, i64_w, i32_w]
      rfl
    refine one_ (i := 5) (N := some 8) #[true, true, true, true, true, true, false, false] rfl rfl (one_of HT_.out (by kernel_rfl)) (by decide) (fun K hK => ?_)
    refine Kd.R_append_rows_step (Kd.int .i64) (w0 := w) w.heap.size (by rfl) (.tmp 5) (.tmp 7) 24 3 (.int .i64 0) 8 rfl Tryz.underlying24 info3 rfl (by decide) (by omega) v300 y299 l0_1 _ _ _ (fun _ => True) (fun _ => False) rfl rfl ?aO ?aR (fun _ _ h => h) (fun _ h => h.elim) ?aF ?aB ?aS ?aL ?_
    (case aR => exact cW (Kd.C_below HR0_1.out HB.out))
    (case aB => exact hB_)
    (case aF => exact (fun _ _ => trivial))
    (case aO => exact (rW HO301.out))
    (case aS => exact (below_size hB_))
    (case aL => have := LMc2.out; omega)
    intro v303 w8 ho hb hg hat
    rw [← Ny302.out] at ho
    replace BK297 := Aside0.mk (blk_grown (bW BK297) hg (Kd.R_ne HO301.out BK297.out (by decide)))
    replace BK298 := Aside0.mk (blk_grown (bW BK298) hg (Kd.R_ne HO301.out BK298.out (by decide)))
    replace HB := Aside0.mk (hb)
    have HO304 := Aside0.mk (ho)
    clear HO301
    clear ho hb hg hat
    obtain ⟨Ao9, co9, eo9⟩ := Kd.R_slice HO304.out
    (first | subst eo9 | (injection eo9 with f1_ f2_ f3_; have f4_ := f1_.symm; have f5_ := f3_.symm; clear f1_ f2_ f3_; subst f4_; subst f5_))
    refine hK.out _ _ ⟨(blk_cell BK297.out 0).trans rfl, (blk_cell BK297.out 1).trans rfl⟩ (fun hHeld => ?_)
    clear hK K
    refine norm_ (a' := ?_) ?_ ?_
    rotate_left
    · show Act.put _ (some 8) _ = _
      simp only [Act.put, List.setIfInBounds_toArray, List.set_cons_zero, List.set_cons_succ, i64_w, i32_w]
      rfl
    refine pure_ (i := 6) (N := some 9) (v := ?_) (a' := ?_) #[true, true, true, true, true, true, true, false] rfl rfl (any_of HT_.out (by kernel_rfl)) (fun _ _ _ h => h) (Or.inl ⟨by rfl, ?_⟩) ?_ ?_
    rotate_left
    · intro w'
      go_simp
      with_reducible rfl
    rotate_left
    · simp only [Act.put, List.setIfInBounds_toArray, List.set_cons_zero, List.set_cons_succ, i64_w, i32_w]
      rfl
    refine one_ (i := 7) (N := none) #[true, true, true, true, true, true, true, true] rfl rfl (one_of HT_.out (by kernel_rfl)) (by decide) (fun K hK => ?_)
    have hs10 : w8.cell? ⟨gb298, 0, none⟩ = some (.int .i64 0) := (blk_cell BK298.out 0).trans rfl
    have hfs10 := blk_frozen BK298.out 0
    have hns10_0 := NB297_298.out
    have hms10_0 := NB298_297.out
    have hs11 : w8.cell? ⟨gb298, 1, none⟩ = some (.slice none 0 0) := (blk_cell BK298.out 1).trans rfl
    have hfs11 := blk_frozen BK298.out 1
    have hns11_0 := NB297_298.out
    have hms11_0 := NB298_297.out
    refine skip_ (w1 := ?_) (by rfl) rfl ?_ ?_
    rotate_left
    · go_simp
      rfl
    refine hK.out _ _ ⟨((cell_far (p := ⟨gb298, _, none⟩) NB297_298.out _).trans (((cell_far (p := ⟨gb298, _, none⟩) NB297_298.out _).trans (hHeld.1)))), ((cell_far (p := ⟨gb298, _, none⟩) NB297_298.out _).trans (((cell_far (p := ⟨gb298, _, none⟩) NB297_298.out _).trans (hHeld.2))))⟩ (fun hHeld => ?_)
    clear hK K
    refine done_ (done_of HT_.out (by kernel_rfl)) ?_
    try go_wp2
    refine bodyPost_ret (results_cell_row rfl _ _ gb298 26 #[.int .i64 a0_0, .slice Ao9 y302.length co9] (0, 0) _ rfl (qP (qP BK298)).out Tryz.underlying26 rfl (by kernel_rfl)) rfl ?_
    exact ⟨_, eR_, by (with_reducible repeat (first | apply Kd.R_alloc | apply Kd.R_drewN | apply Kd.R_drew)); exact Kd.R_mono (Kd.R_far (p := ⟨gb298, 1, none⟩) (Kd.R_far (p := ⟨gb298, 0, none⟩) (Kd.R_types HO304.out BK298.out (by decide)) (fun _ hk => hk.2) (.int .i64 a0_0)) (fun _ hk => hk.2) (.slice Ao9 y302.length co9)) (fun _ hk => trivial), hB_⟩
  · rw [if_neg c2] at H
    exact absurd H (by simp)

/-! ### spec_DrawEqualContext: function 12 -/
def spec_DrawEqualContext.f (k : Nat) (l0 : List Int) : Option (Int × List Int × Int × List Int) := (spec_l1New.f k l0).bind fun bt307 => ((spec_l3Bent.f k bt307.1 bt307.2.1 bt307.2.2).bind fun bt311 => ((spec_l1Once.f bt307.1 bt311.2.2.1 bt311.2.2.2 2).bind fun bt318 => (if bt318.1 = true then ((spec_l3Copy.f bt311.1 bt311.2.1).bind fun bt321 => (some (bt311.1, bt311.2.1, bt321.1, bt321.2))) else ((spec_l3Bent.f k bt307.1 bt318.2.1 bt318.2.2).bind fun bt325 => (some (bt311.1, bt311.2.1, bt325.1, bt325.2.1))))))
theorem spec_DrawEqualContext.mono : ∀ a0 k, LeO (spec_DrawEqualContext.f k a0) (spec_DrawEqualContext.f (k + 1) a0) := by
  intro a0 k
  unfold spec_DrawEqualContext.f
  repeat' first
      | (with_reducible exact spec_l1New.mono _ _)
      | (with_reducible exact spec_l3Bent.mono _ _ _ _)
      | (with_reducible exact LeO.refl _)
      | (with_reducible exact LeO.none _)
      | (with_reducible refine LeO.ite ?_ ?_)
      | (with_reducible refine LeO.bind ?_ (fun _ => ?_))
      | exact spec_l1New.mono _ _
      | exact spec_l3Bent.mono _ _ _ _
      | exact LeO.none _
      | refine LeO.ite ?_ ?_
      | refine LeO.bind ?_ (fun _ => ?_)
set_option maxHeartbeats 8000000 in
set_option maxRecDepth 100000 in
theorem spec_DrawEqualContext.calls (k : Nat) (A0 : Option Addr) (c0 : Nat) (l0 : List Int) (r1 : Int) (r2 : List Int) (r3 : Int) (r4 : List Int) (w : World) (hr0 : Kd.C (Kd.int .u8) w A0 l0.length l0) (hc0 : l0.length ≤ c0) (h : spec_DrawEqualContext.f k l0 = some (r1, r2, r3, r4)) :
    Calls Tryz.prog 12 #[.slice A0 l0.length c0] w fun e w' => ∃ v1_ v3_ : Value, e = .returned (.tuple #[.agg #[.int .i64 r1, v1_], .agg #[.int .i64 r3, v3_]]) ∧ Kd.R (Kd.int .i64) 3 w' w.heap.size (fun k_ => some k_ ≠ (v3_ : Value).ownBlock) v1_ r2 ∧ Kd.R (Kd.int .i64) 3 w' w.heap.size (fun k_ => some k_ ≠ (v1_ : Value).ownBlock) v3_ r4 ∧ Below w.heap.size w w' := by
  have hu26 := Tryz.underlying26
  have HR0 := Aside0.mk hr0
  have HC0 := Aside0.mk hc0
  clear hr0 hc0
  have HB := Aside0.mk (Below.refl w.heap.size w)
  have H : ((spec_l1New.f k l0).bind fun bt307 => ((spec_l3Bent.f k bt307.1 bt307.2.1 bt307.2.2).bind fun bt311 => ((spec_l1Once.f bt307.1 bt311.2.2.1 bt311.2.2.2 2).bind fun bt318 => (if bt318.1 = true then ((spec_l3Copy.f bt311.1 bt311.2.1).bind fun bt321 => (some (bt311.1, bt311.2.1, bt321.1, bt321.2))) else ((spec_l3Bent.f k bt307.1 bt318.2.1 bt318.2.2).bind fun bt325 => (some (bt311.1, bt311.2.1, bt325.1, bt325.2.1))))))) = some (r1, r2, r3, r4) := h
  clear h
  replace H := aB H
  obtain ⟨⟨t307, t308, t309⟩, A2, H⟩ := H
  dsimp only at H
  replace H := aB H
  obtain ⟨⟨t311, t312, t315, t316⟩, A3, H⟩ := H
  dsimp only at H
  replace H := aB H
  obtain ⟨⟨t318, t319, t320⟩, A4, H⟩ := H
  dsimp only at H
  by_cases c5 : t318 = true
  · subst c5
    replace H := ifT H
    replace H := aB H
    obtain ⟨⟨t321, t322⟩, A6, H⟩ := H
    dsimp only at H
    simp only [Option.some.injEq, Prod.mk.injEq] at H
    obtain ⟨rfl, rfl, rfl, rfl⟩ := H
    go_enter Tryz.func12, Tryz.ntmps12
    try go_wp2_with (first | ((with_reducible refine gate_dst (N := 2) rfl ?_); refine box_event ?hg (N := 2) ?hd (cs := #[.int .i64 0, .slice none 0 0]) (t := 26) ?hr ?_; (case hd => rfl); (case hg => rfl); (case hr => first | (go_simp; done) | (go_simp; rfl)); intro gb305 hg w7 hbox hb; have BK305 := Aside0.mk (hbox); have GW305 := kG HB hg; have GE305 := kG HB hg; replace HB := kH HB hb; clear hb hbox hg) | ((with_reducible refine gate_dst (N := 3) rfl ?_); refine box_event ?hg (N := 3) ?hd (cs := #[.int .i64 0, .slice none 0 0]) (t := 26) ?hr ?_; (case hd => rfl); (case hg => rfl); (case hr => first | (go_simp; done) | (go_simp; rfl)); intro gb306 hg w8 hbox hb; have BK306 := Aside0.mk (hbox); have GW306 := kG HB hg; have GE306 := kG HB hg; replace HB := kH HB hb; have NB305_306 := kN BK305 hg; have NB306_305 := kM BK305 hg; replace BK305 := kB BK305 hb; clear hb hbox hg) | ((with_reducible refine gate_callee (f := 26) rfl ?_); refine goesL_ (some 7) rfl rfl Tryz.func26 (by kernel_rfl) rfl #[.slice A0 l0.length c0] rfl gL_ ?_; (with_reducible refine (spec_l1New.calls k _ _ l0 t307 t308 t309 w _ ?side1 ?side2 ?side3 A2.out).mono ?_); (case side1 => exact hB_); (case side2 => exact HR0.out); (case side3 => exact HC0.out); rintro e w9 ⟨g310, rfl, hi, hb, hb2⟩; refine ⟨_, rfl, ?_⟩; replace HB := Aside0.mk (hb); have HI310 := Aside0.mk (hi); have NB310_305 := Aside0.mk (IsS69.ne_blk hi (blk_below (g := gb305) (o := .cells #[.int .i64 0, .slice none 0 0] 26 (0, 0)) (bW BK305) hb2) (by decide)); have NB305_310 := Aside0.mk (Ne.symm (IsS69.ne_blk hi (blk_below (g := gb305) (o := .cells #[.int .i64 0, .slice none 0 0] 26 (0, 0)) (bW BK305) hb2) (by decide))); replace BK305 := Aside0.mk (blk_below (g := gb305) (o := .cells #[.int .i64 0, .slice none 0 0] 26 (0, 0)) (bW BK305) hb2); have NB310_306 := Aside0.mk (IsS69.ne_blk hi (blk_below (g := gb306) (o := .cells #[.int .i64 0, .slice none 0 0] 26 (0, 0)) (bW BK306) hb2) (by decide)); have NB306_310 := Aside0.mk (Ne.symm (IsS69.ne_blk hi (blk_below (g := gb306) (o := .cells #[.int .i64 0, .slice none 0 0] 26 (0, 0)) (bW BK306) hb2) (by decide))); replace BK306 := Aside0.mk (blk_below (g := gb306) (o := .cells #[.int .i64 0, .slice none 0 0] 26 (0, 0)) (bW BK306) hb2); clear hb hb2 hi) | ((with_reducible refine gate_callee (f := 25) rfl ?_); refine goesL_ (some 9) rfl rfl Tryz.func25 (by kernel_rfl) rfl #[.pointer (some ⟨g310, 0, none⟩)] rfl gL_ ?_; (with_reducible refine (spec_l3Bent.calls k g310 t307 t308 t309 t311 t312 t315 t316 w _ ?side1 ?side2 A3.out).mono ?_); (case side1 => exact hI69_HI310); (case side2 => exact hC69_); rintro e w10 ⟨v313, rfl, ho0, hi, hb, hk⟩; refine ⟨_, rfl, ?_⟩; replace BK305 := kK hk BK305 NB305_310; replace BK306 := kK hk BK306 NB306_310; have HO314 := Aside0.mk (Kd.R_lower ho0 (below_size hC69_)); replace HB := Aside0.mk (hb); replace HI310 := Aside0.mk (hi); clear hb hk hi ho0) | ((with_reducible refine gate_dst (N := 5) rfl ?_); refine box_event ?hg (N := 5) ?hd (cs := #[.int .i64 0, .slice none 0 0]) (t := 26) ?hr ?_; (case hd => rfl); (case hg => rfl); (case hr => first | (go_simp; done) | (go_simp; rfl)); intro gb317 hg w11 hbox hb; replace HO314 := kR HO314 hb; have BK317 := Aside0.mk (hbox); have GW317 := Aside0.mk ((by rw [hg]; exact (below_size hC69_) : w.heap.size ≤ gb317)); have GE317 := Aside0.mk ((by rw [hg]; exact (below_size hC69_) : w.heap.size ≤ gb317)); replace HB := Aside0.mk (below_step hC69_ hb); have NB305_317 := kN BK305 hg; have NB317_305 := kM BK305 hg; replace BK305 := kB BK305 hb; have NB306_317 := kN BK306 hg; have NB317_306 := kM BK306 hg; replace BK306 := kB BK306 hb; have NB310_317 := Aside0.mk ((by rw [hg]; exact Nat.ne_of_lt (IsS69.lt (show IsS69 w _ g310 t307 t315 t316 from hI69_HI310)) : g310 ≠ gb317)); have NB317_310 := Aside0.mk ((by rw [hg]; exact Nat.ne_of_gt (IsS69.lt (show IsS69 w _ g310 t307 t315 t316 from hI69_HI310)) : gb317 ≠ g310)); replace HI310 := Aside0.mk (IsS69.below hI69_HI310 hb); clear hb hbox hg; have hnb12 := NB317_305.out; have hnc12 := NB305_317.out; have hnb13 := NB317_306.out; have hnc13 := NB306_317.out; have hnb14 := NB317_310.out; have hnc14 := NB310_317.out; have hcz15_0 : w11.cell? ⟨gb317, 0, none⟩ = some (.int .i64 0) := (blk_cell BK317.out 0).trans rfl; have hcz15_1 : w11.cell? ⟨gb317, 1, none⟩ = some (.slice none 0 0) := (blk_cell BK317.out 1).trans rfl; have hfz15_0 := blk_frozen BK317.out 0; have hfz15_1 := blk_frozen BK317.out 1; obtain ⟨Ao16, co16, eo16⟩ := Kd.R_slice HO314.out; subst eo16) | ((with_reducible refine gate_callee (f := 32) rfl ?_); refine goesL_ (some 11) rfl rfl Tryz.func32 (by kernel_rfl) rfl #[.pointer (some ⟨g310, 0, none⟩), .int .i64 2] rfl gL_ ?_; (with_reducible refine (spec_l1Once.calls g310 t307 t315 t316 2 true t319 t320 w _ ?side1 ?side2 A4.out).mono ?_); (case side1 => exact hI69_HI310); (case side2 => exact hC69_); rintro e w17 ⟨rfl, hi, hb, hk⟩; refine ⟨_, rfl, ?_⟩; replace BK305 := Aside0.mk (KeepBut.blk hk (g' := gb305) (o := .cells #[.int .i64 0, .slice none 0 0] 26 (0, 0)) (qF NB305_317 (qF NB305_317 BK305)).out NB305_310.out (by simp)); replace BK306 := Aside0.mk (KeepBut.blk hk (g' := gb306) (o := .cells #[.int .i64 0, .slice none 0 0] 26 (0, 0)) (qF NB306_317 (qF NB306_317 BK306)).out NB306_310.out (by simp)); replace HO314 := Aside0.mk (Kd.R_mono (Kd.R_keep (IsS69.apart (show IsS69 w _ g310 t307 t315 t316 from hI69_HI310) (rW (kT HO314 BK317).out) (by decide)) hk (fun _ h => h.2)) (fun _ h => h.1)); replace BK317 := Aside0.mk (KeepBut.blk hk (g' := gb317) (o := .cells #[.int .i64 t311, .slice Ao16 t312.length co16] 26 (0, 0)) (qP (qP BK317)).out NB317_310.out (by simp)); replace HB := Aside0.mk (hb); replace HI310 := Aside0.mk (hi); clear hb hk hi))
    replace HO314 := Aside0.mk (Kd.R_drew HO314.out)
    replace BK305 := Aside0.mk (blk_drew BK305.out)
    replace BK306 := Aside0.mk (blk_drew BK306.out)
    replace BK317 := Aside0.mk (blk_drew BK317.out)
    replace HI310 := Aside0.mk (IsS69.drew HI310.out)
    replace HB := Aside0.mk (below_drew1 HB.out)
    refine start_ (n := 5) (S := fun w' => w'.cell? ⟨gb317, 0, none⟩ = some (.int .i64 t311) ∧ w'.cell? ⟨gb317, 1, none⟩ = some (.slice Ao16 t312.length co16)) (ds := []) #[false, false, false, false, false] (by kernel_rfl) rfl rfl ⟨(blk_cell BK317.out 0).trans rfl, (blk_cell BK317.out 1).trans rfl⟩ (fun hHeld => ?_)
    generalize w17.drew = w18 at HO314 BK305 BK306 BK317 HI310 HB hHeld ⊢
    refine take_ (i := 0) (N := some 12) (v := ?_) (a' := ?_) #[true, false, false, false, false] rfl rfl (by kernel_rfl) (fun _ _ _ h => h) (Or.inl ⟨by rfl, ?_⟩) hHeld ?_ ?_
    rotate_left
    · rintro w' ⟨s0, s1⟩
      go_simp
      with_reducible rfl
    rotate_left
    · simp only [Act.put, List.setIfInBounds_toArray, List.set_cons_zero, List.set_cons_succ, i64_w, i32_w]
      rfl
    refine take_ (i := 1) (N := some 13) (v := ?_) (a' := ?_) #[true, true, false, false, false] rfl rfl (by kernel_rfl) (fun _ _ _ h => h) (Or.inl ⟨by rfl, ?_⟩) hHeld ?_ ?_
    rotate_left
    · rintro w' ⟨s0, s1⟩
      go_simp
      with_reducible rfl
    rotate_left
    · simp only [Act.put, List.setIfInBounds_toArray, List.set_cons_zero, List.set_cons_succ, i64_w, i32_w]
      rfl
    refine one_ (i := 2) (N := some 14) #[true, true, true, false, false] rfl rfl (by kernel_rfl) (by decide) (fun K hK => ?_)
    refine goes_ Tryz.func33 (by kernel_rfl) rfl #[.agg #[.int .i64 t311, .slice Ao16 t312.length co16]] (by rfl) rfl rfl gL_ ?_
    with_reducible refine (spec_l3Copy.calls t311 _ _ t312 t321 t322 _ ?side1 ?side2 A6.out).mono ?_
    (case side1 => exact rC HO314)
    (case side2 => exact (Kd.R_reads' HO314.out).2.1)
    rintro e w19 ⟨v323, rfl, ho0, hb⟩
    refine ⟨_, rfl, ?_⟩
    have HO324 := Aside0.mk (Kd.R_lower (Kd.R_new' ho0 (Kd.R_lt (rW HO314.out))) (below_size hC69_))
    replace HO314 := kE HO314 ho0 hb
    replace BK305 := kB BK305 hb
    replace BK306 := kB BK306 hb
    replace BK317 := kB BK317 hb
    replace HB := Aside0.mk (below_step hC69_ hb)
    replace HI310 := Aside0.mk (IsS69.below hI69_HI310 hb)
    (try clear hb)
    (try clear hb2)
    (try clear hk)
    (try clear hi)
    (try clear ho0)
    obtain ⟨Ao23, co23, eo23⟩ := Kd.R_slice HO324.out
    (first | subst eo23 | (injection eo23 with f1_ f2_ f3_; have f4_ := f1_.symm; have f5_ := f3_.symm; clear f1_ f2_ f3_; subst f4_; subst f5_))
    refine hK.out _ _ ⟨(blk_cell BK317.out 0).trans rfl, (blk_cell BK317.out 1).trans rfl⟩ (fun hHeld => ?_)
    clear hK K
    refine norm_ (a' := ?_) ?_ ?_
    rotate_left
    · show Act.put _ (some 14) _ = _
      simp only [Act.put, List.setIfInBounds_toArray, List.set_cons_zero, List.set_cons_succ, i64_w, i32_w]
      rfl
    refine one_ (i := 3) (N := none) #[true, true, true, true, false] rfl rfl (by kernel_rfl) (by decide) (fun K hK => ?_)
    have hs20 : w19.cell? ⟨gb305, 0, none⟩ = some (.int .i64 0) := (blk_cell BK305.out 0).trans rfl
    have hfs20 := blk_frozen BK305.out 0
    have hns20_1 := NB306_305.out
    have hns20_2 := NB317_305.out
    have hms20_1 := NB305_306.out
    have hms20_2 := NB305_317.out
    have hs21 : w19.cell? ⟨gb305, 1, none⟩ = some (.slice none 0 0) := (blk_cell BK305.out 1).trans rfl
    have hfs21 := blk_frozen BK305.out 1
    have hns21_1 := NB306_305.out
    have hns21_2 := NB317_305.out
    have hms21_1 := NB305_306.out
    have hms21_2 := NB305_317.out
    refine skip_ (w1 := ?_) (by rfl) rfl ?_ ?_
    rotate_left
    · go_simp
      rfl
    refine hK.out _ _ ⟨((cell_far (p := ⟨gb305, _, none⟩) NB317_305.out _).trans (((cell_far (p := ⟨gb305, _, none⟩) NB317_305.out _).trans (hHeld.1)))), ((cell_far (p := ⟨gb305, _, none⟩) NB317_305.out _).trans (((cell_far (p := ⟨gb305, _, none⟩) NB317_305.out _).trans (hHeld.2))))⟩ (fun hHeld => ?_)
    clear hK K
    refine one_ (i := 4) (N := none) #[true, true, true, true, true] rfl rfl (by kernel_rfl) (by decide) (fun K hK => ?_)
    have hs22 : w19.cell? ⟨gb306, 0, none⟩ = some (.int .i64 0) := (blk_cell BK306.out 0).trans rfl
    have hfs22 := blk_frozen BK306.out 0
    have hns22_0 := NB305_306.out
    have hns22_2 := NB317_306.out
    have hms22_0 := NB306_305.out
    have hms22_2 := NB306_317.out
    have hs24 : w19.cell? ⟨gb306, 1, none⟩ = some (.slice none 0 0) := (blk_cell BK306.out 1).trans rfl
    have hfs24 := blk_frozen BK306.out 1
    have hns24_0 := NB305_306.out
    have hns24_2 := NB317_306.out
    have hms24_0 := NB306_305.out
    have hms24_2 := NB306_317.out
    refine skip_ (w1 := ?_) (by rfl) rfl ?_ ?_
    rotate_left
    · go_simp
      rfl
    refine hK.out _ _ ⟨((cell_far (p := ⟨gb306, _, none⟩) NB317_306.out _).trans (((cell_far (p := ⟨gb306, _, none⟩) NB317_306.out _).trans (hHeld.1)))), ((cell_far (p := ⟨gb306, _, none⟩) NB317_306.out _).trans (((cell_far (p := ⟨gb306, _, none⟩) NB317_306.out _).trans (hHeld.2))))⟩ (fun hHeld => ?_)
    clear hK K
    refine done_ (by kernel_rfl) ?_
    try go_wp2
    refine bodyPost_ret (results_cc rfl _ _ gb305 gb306 26 26 #[.int .i64 t311, .slice Ao16 t312.length co16] #[.int .i64 t321, .slice Ao23 t322.length co23] (0, 0) (0, 0) _ _ rfl (qF NB305_306 (qF NB305_306 (qP (qP BK305)))).out Tryz.underlying26 rfl (by kernel_rfl) rfl (qP (qP (qF NB306_305 (qF NB306_305 BK306)))).out Tryz.underlying26 rfl (by kernel_rfl)) rfl ?_
    exact ⟨_, _, eR_, by (with_reducible repeat (first | apply Kd.R_alloc | apply Kd.R_drewN | apply Kd.R_drew)); exact Kd.R_mono (Kd.R_far (p := ⟨gb306, 1, none⟩) (Kd.R_far (p := ⟨gb306, 0, none⟩) (Kd.R_far (p := ⟨gb305, 1, none⟩) (Kd.R_far (p := ⟨gb305, 0, none⟩) (Kd.R_types (Kd.R_types HO314.out BK305.out (by decide)) BK306.out (by decide)) (fun _ hk => hk.1.2) (.int .i64 t311)) (fun _ hk => hk.1.2) (.slice Ao16 t312.length co16)) (fun _ hk => hk.2) (.int .i64 t321)) (fun _ hk => hk.2) (.slice Ao23 t322.length co23)) (fun _ hk => hk.1.1.2), by (with_reducible repeat (first | apply Kd.R_alloc | apply Kd.R_drewN | apply Kd.R_drew)); exact Kd.R_mono (Kd.R_far (p := ⟨gb306, 1, none⟩) (Kd.R_far (p := ⟨gb306, 0, none⟩) (Kd.R_far (p := ⟨gb305, 1, none⟩) (Kd.R_far (p := ⟨gb305, 0, none⟩) (Kd.R_types (Kd.R_types HO324.out BK305.out (by decide)) BK306.out (by decide)) (fun _ hk => hk.1.2) (.int .i64 t311)) (fun _ hk => hk.1.2) (.slice Ao16 t312.length co16)) (fun _ hk => hk.2) (.int .i64 t321)) (fun _ hk => hk.2) (.slice Ao23 t322.length co23)) (fun _ hk => hk.1.1.2), hC69_⟩
  · replace c5 := Bool.eq_false_iff.mpr c5
    subst c5
    replace H := ifF H
    replace H := aB H
    obtain ⟨⟨t325, t326, t329, t330⟩, A25, H⟩ := H
    dsimp only at H
    simp only [Option.some.injEq, Prod.mk.injEq] at H
    obtain ⟨rfl, rfl, rfl, rfl⟩ := H
    go_enter Tryz.func12, Tryz.ntmps12
    try go_wp2_with (first | ((with_reducible refine gate_dst (N := 2) rfl ?_); refine box_event ?hg (N := 2) ?hd (cs := #[.int .i64 0, .slice none 0 0]) (t := 26) ?hr ?_; (case hd => rfl); (case hg => rfl); (case hr => first | (go_simp; done) | (go_simp; rfl)); intro gb305 hg w26 hbox hb; have BK305 := Aside0.mk (hbox); have GW305 := kG HB hg; have GE305 := kG HB hg; replace HB := kH HB hb; clear hb hbox hg) | ((with_reducible refine gate_dst (N := 3) rfl ?_); refine box_event ?hg (N := 3) ?hd (cs := #[.int .i64 0, .slice none 0 0]) (t := 26) ?hr ?_; (case hd => rfl); (case hg => rfl); (case hr => first | (go_simp; done) | (go_simp; rfl)); intro gb306 hg w27 hbox hb; have BK306 := Aside0.mk (hbox); have GW306 := kG HB hg; have GE306 := kG HB hg; replace HB := kH HB hb; have NB305_306 := kN BK305 hg; have NB306_305 := kM BK305 hg; replace BK305 := kB BK305 hb; clear hb hbox hg) | ((with_reducible refine gate_callee (f := 26) rfl ?_); refine goesL_ (some 7) rfl rfl Tryz.func26 (by kernel_rfl) rfl #[.slice A0 l0.length c0] rfl gL_ ?_; (with_reducible refine (spec_l1New.calls k _ _ l0 t307 t308 t309 w _ ?side1 ?side2 ?side3 A2.out).mono ?_); (case side1 => exact hB_); (case side2 => exact HR0.out); (case side3 => exact HC0.out); rintro e w28 ⟨g310, rfl, hi, hb, hb2⟩; refine ⟨_, rfl, ?_⟩; replace HB := Aside0.mk (hb); have HI310 := Aside0.mk (hi); have NB310_305 := Aside0.mk (IsS69.ne_blk hi (blk_below (g := gb305) (o := .cells #[.int .i64 0, .slice none 0 0] 26 (0, 0)) (bW BK305) hb2) (by decide)); have NB305_310 := Aside0.mk (Ne.symm (IsS69.ne_blk hi (blk_below (g := gb305) (o := .cells #[.int .i64 0, .slice none 0 0] 26 (0, 0)) (bW BK305) hb2) (by decide))); replace BK305 := Aside0.mk (blk_below (g := gb305) (o := .cells #[.int .i64 0, .slice none 0 0] 26 (0, 0)) (bW BK305) hb2); have NB310_306 := Aside0.mk (IsS69.ne_blk hi (blk_below (g := gb306) (o := .cells #[.int .i64 0, .slice none 0 0] 26 (0, 0)) (bW BK306) hb2) (by decide)); have NB306_310 := Aside0.mk (Ne.symm (IsS69.ne_blk hi (blk_below (g := gb306) (o := .cells #[.int .i64 0, .slice none 0 0] 26 (0, 0)) (bW BK306) hb2) (by decide))); replace BK306 := Aside0.mk (blk_below (g := gb306) (o := .cells #[.int .i64 0, .slice none 0 0] 26 (0, 0)) (bW BK306) hb2); clear hb hb2 hi) | ((with_reducible refine gate_callee (f := 25) rfl ?_); refine goesL_ (some 9) rfl rfl Tryz.func25 (by kernel_rfl) rfl #[.pointer (some ⟨g310, 0, none⟩)] rfl gL_ ?_; (with_reducible refine (spec_l3Bent.calls k g310 t307 t308 t309 t311 t312 t315 t316 w _ ?side1 ?side2 A3.out).mono ?_); (case side1 => exact hI69_HI310); (case side2 => exact hC69_); rintro e w29 ⟨v313, rfl, ho0, hi, hb, hk⟩; refine ⟨_, rfl, ?_⟩; replace BK305 := kK hk BK305 NB305_310; replace BK306 := kK hk BK306 NB306_310; have HO314 := Aside0.mk (Kd.R_lower ho0 (below_size hC69_)); replace HB := Aside0.mk (hb); replace HI310 := Aside0.mk (hi); clear hb hk hi ho0) | ((with_reducible refine gate_dst (N := 5) rfl ?_); refine box_event ?hg (N := 5) ?hd (cs := #[.int .i64 0, .slice none 0 0]) (t := 26) ?hr ?_; (case hd => rfl); (case hg => rfl); (case hr => first | (go_simp; done) | (go_simp; rfl)); intro gb317 hg w30 hbox hb; replace HO314 := kR HO314 hb; have BK317 := Aside0.mk (hbox); have GW317 := Aside0.mk ((by rw [hg]; exact (below_size hC69_) : w.heap.size ≤ gb317)); have GE317 := Aside0.mk ((by rw [hg]; exact (below_size hC69_) : w.heap.size ≤ gb317)); replace HB := Aside0.mk (below_step hC69_ hb); have NB305_317 := kN BK305 hg; have NB317_305 := kM BK305 hg; replace BK305 := kB BK305 hb; have NB306_317 := kN BK306 hg; have NB317_306 := kM BK306 hg; replace BK306 := kB BK306 hb; have NB310_317 := Aside0.mk ((by rw [hg]; exact Nat.ne_of_lt (IsS69.lt (show IsS69 w _ g310 t307 t315 t316 from hI69_HI310)) : g310 ≠ gb317)); have NB317_310 := Aside0.mk ((by rw [hg]; exact Nat.ne_of_gt (IsS69.lt (show IsS69 w _ g310 t307 t315 t316 from hI69_HI310)) : gb317 ≠ g310)); replace HI310 := Aside0.mk (IsS69.below hI69_HI310 hb); clear hb hbox hg; have hnb31 := NB317_305.out; have hnc31 := NB305_317.out; have hnb32 := NB317_306.out; have hnc32 := NB306_317.out; have hnb33 := NB317_310.out; have hnc33 := NB310_317.out; have hcz34_0 : w30.cell? ⟨gb317, 0, none⟩ = some (.int .i64 0) := (blk_cell BK317.out 0).trans rfl; have hcz34_1 : w30.cell? ⟨gb317, 1, none⟩ = some (.slice none 0 0) := (blk_cell BK317.out 1).trans rfl; have hfz34_0 := blk_frozen BK317.out 0; have hfz34_1 := blk_frozen BK317.out 1; obtain ⟨Ao35, co35, eo35⟩ := Kd.R_slice HO314.out; subst eo35) | ((with_reducible refine gate_callee (f := 32) rfl ?_); refine goesL_ (some 11) rfl rfl Tryz.func32 (by kernel_rfl) rfl #[.pointer (some ⟨g310, 0, none⟩), .int .i64 2] rfl gL_ ?_; (with_reducible refine (spec_l1Once.calls g310 t307 t315 t316 2 false t319 t320 w _ ?side1 ?side2 A4.out).mono ?_); (case side1 => exact hI69_HI310); (case side2 => exact hC69_); rintro e w36 ⟨rfl, hi, hb, hk⟩; refine ⟨_, rfl, ?_⟩; replace BK305 := Aside0.mk (KeepBut.blk hk (g' := gb305) (o := .cells #[.int .i64 0, .slice none 0 0] 26 (0, 0)) (qF NB305_317 (qF NB305_317 BK305)).out NB305_310.out (by simp)); replace BK306 := Aside0.mk (KeepBut.blk hk (g' := gb306) (o := .cells #[.int .i64 0, .slice none 0 0] 26 (0, 0)) (qF NB306_317 (qF NB306_317 BK306)).out NB306_310.out (by simp)); replace HO314 := Aside0.mk (Kd.R_mono (Kd.R_keep (IsS69.apart (show IsS69 w _ g310 t307 t315 t316 from hI69_HI310) (rW (kT HO314 BK317).out) (by decide)) hk (fun _ h => h.2)) (fun _ h => h.1)); replace BK317 := Aside0.mk (KeepBut.blk hk (g' := gb317) (o := .cells #[.int .i64 t311, .slice Ao35 t312.length co35] 26 (0, 0)) (qP (qP BK317)).out NB317_310.out (by simp)); replace HB := Aside0.mk (hb); replace HI310 := Aside0.mk (hi); clear hb hk hi))
    replace HO314 := Aside0.mk (Kd.R_drew HO314.out)
    replace BK305 := Aside0.mk (blk_drew BK305.out)
    replace BK306 := Aside0.mk (blk_drew BK306.out)
    replace BK317 := Aside0.mk (blk_drew BK317.out)
    replace HI310 := Aside0.mk (IsS69.drew HI310.out)
    replace HB := Aside0.mk (below_drew1 HB.out)
    refine start_ (n := 5) (S := fun w' => w'.cell? ⟨gb317, 0, none⟩ = some (.int .i64 t311) ∧ w'.cell? ⟨gb317, 1, none⟩ = some (.slice Ao35 t312.length co35)) (ds := []) #[false, false, false, false, false] (by kernel_rfl) rfl rfl ⟨(blk_cell BK317.out 0).trans rfl, (blk_cell BK317.out 1).trans rfl⟩ (fun hHeld => ?_)
    generalize w36.drew = w37 at HO314 BK305 BK306 BK317 HI310 HB hHeld ⊢
    refine pure_ (i := 1) (N := some 16) (v := ?_) (a' := ?_) #[false, true, false, false, false] rfl rfl (by kernel_rfl) (fun _ _ _ h => h) (Or.inl ⟨by rfl, ?_⟩) ?_ ?_
    rotate_left
    · intro w'
      go_simp
      with_reducible rfl
    rotate_left
    · simp only [Act.put, List.setIfInBounds_toArray, List.set_cons_zero, List.set_cons_succ, i64_w, i32_w]
      rfl
    refine take_ (i := 0) (N := some 15) (v := ?_) (a' := ?_) #[true, true, false, false, false] rfl rfl (by kernel_rfl) (fun _ _ _ h => h) (Or.inl ⟨by rfl, ?_⟩) hHeld ?_ ?_
    rotate_left
    · rintro w' ⟨s0, s1⟩
      go_simp
      with_reducible rfl
    rotate_left
    · simp only [Act.put, List.setIfInBounds_toArray, List.set_cons_zero, List.set_cons_succ, i64_w, i32_w]
      rfl
    refine one_ (i := 2) (N := some 17) #[true, true, true, false, false] rfl rfl (by kernel_rfl) (by decide) (fun K hK => ?_)
    refine goes_ Tryz.func25 (by kernel_rfl) rfl #[.pointer (some ⟨g310, 0, none⟩)] (by rfl) rfl rfl gL_ ?_
    with_reducible refine (spec_l3Bent.calls k g310 t307 t319 t320 t325 t326 t329 t330 w _ ?side1 ?side2 A25.out).mono ?_
    (case side1 => exact hI69_HI310)
    (case side2 => exact hC69_)
    rintro e w38 ⟨v327, rfl, ho0, hi, hb, hk⟩
    refine ⟨_, rfl, ?_⟩
    replace BK305 := kK hk BK305 NB305_310
    replace BK306 := kK hk BK306 NB306_310
    replace BK317 := kK hk BK317 NB317_310
    have HO328 := Aside0.mk (Kd.R_lower (Kd.R_new' ho0 (Kd.R_lt (rW HO314.out))) (below_size hC69_))
    replace HO314 := Aside0.mk (Kd.R_mono (Kd.R_told (Kd.R_oldK (IsS69.apart (show IsS69 w _ g310 t307 t319 t320 from hI69_HI310) (rW HO314.out) (by decide)) hk) (Kd.R_base ho0)) (fun _ h_ => h_.1))
    replace HB := Aside0.mk (hb)
    replace HI310 := Aside0.mk (hi)
    (try clear hb)
    (try clear hb2)
    (try clear hk)
    (try clear hi)
    (try clear ho0)
    obtain ⟨Ao42, co42, eo42⟩ := Kd.R_slice HO328.out
    (first | subst eo42 | (injection eo42 with f1_ f2_ f3_; have f4_ := f1_.symm; have f5_ := f3_.symm; clear f1_ f2_ f3_; subst f4_; subst f5_))
    refine hK.out _ _ ⟨(blk_cell BK317.out 0).trans rfl, (blk_cell BK317.out 1).trans rfl⟩ (fun hHeld => ?_)
    clear hK K
    refine norm_ (a' := ?_) ?_ ?_
    rotate_left
    · show Act.put _ (some 17) _ = _
      simp only [Act.put, List.setIfInBounds_toArray, List.set_cons_zero, List.set_cons_succ, i64_w, i32_w]
      rfl
    refine one_ (i := 3) (N := none) #[true, true, true, true, false] rfl rfl (by kernel_rfl) (by decide) (fun K hK => ?_)
    have hs39 : w38.cell? ⟨gb305, 0, none⟩ = some (.int .i64 0) := (blk_cell BK305.out 0).trans rfl
    have hfs39 := blk_frozen BK305.out 0
    have hns39_1 := NB306_305.out
    have hns39_2 := NB317_305.out
    have hms39_1 := NB305_306.out
    have hms39_2 := NB305_317.out
    have hs40 : w38.cell? ⟨gb305, 1, none⟩ = some (.slice none 0 0) := (blk_cell BK305.out 1).trans rfl
    have hfs40 := blk_frozen BK305.out 1
    have hns40_1 := NB306_305.out
    have hns40_2 := NB317_305.out
    have hms40_1 := NB305_306.out
    have hms40_2 := NB305_317.out
    refine skip_ (w1 := ?_) (by rfl) rfl ?_ ?_
    rotate_left
    · go_simp
      rfl
    refine hK.out _ _ ⟨((cell_far (p := ⟨gb305, _, none⟩) NB317_305.out _).trans (((cell_far (p := ⟨gb305, _, none⟩) NB317_305.out _).trans (hHeld.1)))), ((cell_far (p := ⟨gb305, _, none⟩) NB317_305.out _).trans (((cell_far (p := ⟨gb305, _, none⟩) NB317_305.out _).trans (hHeld.2))))⟩ (fun hHeld => ?_)
    clear hK K
    refine one_ (i := 4) (N := none) #[true, true, true, true, true] rfl rfl (by kernel_rfl) (by decide) (fun K hK => ?_)
    have hs41 : w38.cell? ⟨gb306, 0, none⟩ = some (.int .i64 0) := (blk_cell BK306.out 0).trans rfl
    have hfs41 := blk_frozen BK306.out 0
    have hns41_0 := NB305_306.out
    have hns41_2 := NB317_306.out
    have hms41_0 := NB306_305.out
    have hms41_2 := NB306_317.out
    have hs43 : w38.cell? ⟨gb306, 1, none⟩ = some (.slice none 0 0) := (blk_cell BK306.out 1).trans rfl
    have hfs43 := blk_frozen BK306.out 1
    have hns43_0 := NB305_306.out
    have hns43_2 := NB317_306.out
    have hms43_0 := NB306_305.out
    have hms43_2 := NB306_317.out
    refine skip_ (w1 := ?_) (by rfl) rfl ?_ ?_
    rotate_left
    · go_simp
      rfl
    refine hK.out _ _ ⟨((cell_far (p := ⟨gb306, _, none⟩) NB317_306.out _).trans (((cell_far (p := ⟨gb306, _, none⟩) NB317_306.out _).trans (hHeld.1)))), ((cell_far (p := ⟨gb306, _, none⟩) NB317_306.out _).trans (((cell_far (p := ⟨gb306, _, none⟩) NB317_306.out _).trans (hHeld.2))))⟩ (fun hHeld => ?_)
    clear hK K
    refine done_ (by kernel_rfl) ?_
    try go_wp2
    refine bodyPost_ret (results_cc rfl _ _ gb305 gb306 26 26 #[.int .i64 t311, .slice Ao35 t312.length co35] #[.int .i64 t325, .slice Ao42 t326.length co42] (0, 0) (0, 0) _ _ rfl (qF NB305_306 (qF NB305_306 (qP (qP BK305)))).out Tryz.underlying26 rfl (by kernel_rfl) rfl (qP (qP (qF NB306_305 (qF NB306_305 BK306)))).out Tryz.underlying26 rfl (by kernel_rfl)) rfl ?_
    exact ⟨_, _, eR_, by (with_reducible repeat (first | apply Kd.R_alloc | apply Kd.R_drewN | apply Kd.R_drew)); exact Kd.R_mono (Kd.R_far (p := ⟨gb306, 1, none⟩) (Kd.R_far (p := ⟨gb306, 0, none⟩) (Kd.R_far (p := ⟨gb305, 1, none⟩) (Kd.R_far (p := ⟨gb305, 0, none⟩) (Kd.R_types (Kd.R_types HO314.out BK305.out (by decide)) BK306.out (by decide)) (fun _ hk => hk.1.2) (.int .i64 t311)) (fun _ hk => hk.1.2) (.slice Ao35 t312.length co35)) (fun _ hk => hk.2) (.int .i64 t325)) (fun _ hk => hk.2) (.slice Ao42 t326.length co42)) (fun _ hk => hk.1.1.2), by (with_reducible repeat (first | apply Kd.R_alloc | apply Kd.R_drewN | apply Kd.R_drew)); exact Kd.R_mono (Kd.R_far (p := ⟨gb306, 1, none⟩) (Kd.R_far (p := ⟨gb306, 0, none⟩) (Kd.R_far (p := ⟨gb305, 1, none⟩) (Kd.R_far (p := ⟨gb305, 0, none⟩) (Kd.R_types (Kd.R_types HO328.out BK305.out (by decide)) BK306.out (by decide)) (fun _ hk => hk.1.2) (.int .i64 t311)) (fun _ hk => hk.1.2) (.slice Ao35 t312.length co35)) (fun _ hk => hk.2) (.int .i64 t325)) (fun _ hk => hk.2) (.slice Ao42 t326.length co42)) (fun _ hk => hk.1.1.2), hC69_⟩

/-! ### spec_FormatInt: function 53 -/
def spec_FormatInt.l0 : Nat → Int → Bool → ByteArray → Option (ByteArray)
  | 0, _, _, _ => none
  | k + 1, x0, x3, x4 => if x0 = 0 then (if x3 = true then (if 1 + x4.size ≤ 9223372036854775807 then (some ((⟨#[45]⟩ : ByteArray) ++ x4)) else (none)) else (some x4)) else (if (Int.tmod x0 10) < 0 then ((some (([(wrap64 (48 + (wrap64 (-(Int.tmod x0 10))))) % 256] : List Int) : List Int)).bind fun y331 => (if (strOfNums y331).size + x4.size ≤ 9223372036854775807 then (spec_FormatInt.l0 k (wrap64 (Int.tdiv x0 10)) x3 ((strOfNums y331) ++ x4)) else (none))) else ((some (([(wrap64 (48 + (Int.tmod x0 10))) % 256] : List Int) : List Int)).bind fun y334 => (if (strOfNums y334).size + x4.size ≤ 9223372036854775807 then (spec_FormatInt.l0 k (wrap64 (Int.tdiv x0 10)) x3 ((strOfNums y334) ++ x4)) else (none))))
def spec_FormatInt.f (k : Nat) (a0 : Int) : Option (ByteArray) := if a0 = 0 then (some (⟨#[48]⟩ : ByteArray)) else (spec_FormatInt.l0 k a0 (decide (a0 < 0)) (⟨#[]⟩ : ByteArray))
theorem spec_FormatInt.mono_l : ∀ k, (∀ y0 y1 y2, LeO (spec_FormatInt.l0 k y0 y1 y2) (spec_FormatInt.l0 (k + 1) y0 y1 y2))
  | 0 => fun _ _ _ r h => by simp [spec_FormatInt.l0] at h
  | k + 1 => by
    have ih0 := spec_FormatInt.mono_l k
    · intro y0 y1 y2
      unfold spec_FormatInt.l0
      repeat' first
      | (with_reducible exact ih0 _ _ _)
      | (with_reducible exact LeO.refl _)
      | (with_reducible exact LeO.none _)
      | (with_reducible refine LeO.ite ?_ ?_)
      | (with_reducible refine LeO.bind ?_ (fun _ => ?_))
      | exact ih0 _ _ _
      | exact LeO.none _
      | refine LeO.ite ?_ ?_
      | refine LeO.bind ?_ (fun _ => ?_)
theorem spec_FormatInt.mono : ∀ a0 k, LeO (spec_FormatInt.f k a0) (spec_FormatInt.f (k + 1) a0) := by
  intro a0 k
  have ih0 := spec_FormatInt.mono_l k
  unfold spec_FormatInt.f
  repeat' first
      | (with_reducible exact ih0 _ _ _)
      | (with_reducible exact LeO.refl _)
      | (with_reducible exact LeO.none _)
      | (with_reducible refine LeO.ite ?_ ?_)
      | (with_reducible refine LeO.bind ?_ (fun _ => ?_))
      | exact ih0 _ _ _
      | exact LeO.none _
      | refine LeO.ite ?_ ?_
      | refine LeO.bind ?_ (fun _ => ?_)
set_option maxHeartbeats 8000000 in
set_option maxRecDepth 100000 in
theorem spec_FormatInt.calls (k : Nat) (a0 : Int) (r : ByteArray) (w : World) (h : spec_FormatInt.f k a0 = some r) :
    Calls Tryz.prog 53 #[.int .i64 a0] w fun e w' => e = .returned (.string r) ∧ Below w.heap.size w w' := by
  have HB := Aside0.mk (Below.refl w.heap.size w)
  have H : (if a0 = 0 then (some (⟨#[48]⟩ : ByteArray)) else (spec_FormatInt.l0 k a0 (decide (a0 < 0)) (⟨#[]⟩ : ByteArray))) = some r := h
  clear h
  by_cases c2 : a0 = 0
  · rw [if_pos c2] at H
    have c2b0 : (a0 == 0) = true := beq_iff_eq.mpr c2
    have c2b1 : (a0 != 0) = false := bne_eq_false_iff_eq.mpr c2
    clear c2
    obtain rfl := Option.some.inj H
    go_enter Tryz.func53, Tryz.ntmps53
    go_wp2
    go_ret
    exact ⟨eR_, hB_⟩
  · rw [if_neg c2] at H
    have c2b0 : (a0 == 0) = false := beq_eq_false_iff_ne.mpr c2
    have c2b1 : (a0 != 0) = true := bne_iff_ne.mpr c2
    have H' := Aside0.mk H
    clear H
    go_enter Tryz.func53, Tryz.ntmps53
    go_wp2
    go_loopg [0, 4] k (fun kq v0 v4 w' => ∃ (x0_1 : Int) (x4_1 : ByteArray), v0 = .int .i64 x0_1 ∧ v4 = .string x4_1 ∧ Aside0 (spec_FormatInt.l0 kq x0_1 (decide (a0 < 0)) x4_1 = some r) ∧ Aside0 (kq ≤ k) ∧ Aside0 (Below w.heap.size w w'))
    case atStart => exact ⟨(a0), ((⟨#[]⟩ : ByteArray)), (by first | rfl | (simp; done) | (simp [*]; done)), (by first | rfl | (simp; done) | (simp [*]; done)), H', ⟨Nat.le_refl _⟩, ⟨hB_⟩⟩
    case round =>
      clear H'
      try clear c2
      try clear c2b0
      try clear c2b1
      try clear p2
      obtain ⟨x0_1, x4_1, rfl, rfl, HA, HK1, HB⟩ := hrel
      cases gk with
      | zero => exact absurd HA.out (by simp [spec_FormatInt.l0])
      | succ k1 =>
        have H := HA.out
        clear HA
        simp only [spec_FormatInt.l0] at H
        by_cases c3 : x0_1 = 0
        · rw [if_pos c3] at H
          have c3b0 : (x0_1 == 0) = true := beq_iff_eq.mpr c3
          have c3b1 : (x0_1 != 0) = false := bne_eq_false_iff_eq.mpr c3
          clear c3
          by_cases c4 : (decide (a0 < 0)) = true
          · rw [if_pos c4] at H
            have c4b0 : (decide (a0 < 0)) = true := c4
            have c4b6 : (a0 < 0) = True := eq_true (of_decide_eq_true c4)
            clear c4
            by_cases c5 : 1 + x4_1.size ≤ 9223372036854775807
            · rw [if_pos c5] at H
              have c5b0 := eq_true c5
              have c5b1 : decide (1 + x4_1.size ≤ 9223372036854775807) = true := decide_eq_true c5
              try have c5b2 : (9223372036854775807 < 1 + x4_1.size) = False := eq_false (Nat.not_lt.2 c5)
              obtain rfl := Option.some.inj H
              go_wp2
              all_goals (try (exfalso; have q_ := of_eq_true c4b6; omega))
              go_ret
              exact ⟨eR_, hB_⟩
            · rw [if_neg c5] at H
              exact absurd H (by simp)
          · rw [if_neg c4] at H
            have c4b0 : (decide (a0 < 0)) = false := by simpa using c4
            have c4b6 : (a0 < 0) = False := eq_false (of_decide_eq_false c4b0)
            clear c4
            obtain rfl := Option.some.inj H
            go_wp2
            all_goals (try (exfalso; have q_ := of_eq_false c4b6; omega))
            go_ret
            exact ⟨eR_, hB_⟩
        · rw [if_neg c3] at H
          have c3b0 : (x0_1 == 0) = false := beq_eq_false_iff_ne.mpr c3
          have c3b1 : (x0_1 != 0) = true := bne_iff_ne.mpr c3
          by_cases c6 : (Int.tmod x0_1 10) < 0
          · rw [if_pos c6] at H
            have c6b0 : decide ((Int.tmod x0_1 10) < 0) = true := decide_eq_true c6
            clear c6
            obtain ⟨y331, hy331⟩ : ∃ y_ : List Int, y_ = (([(wrap64 (48 + (wrap64 (-(Int.tmod x0_1 10))))) % 256] : List Int)) := ⟨_, rfl⟩
            replace H : (if (strOfNums y331).size + x4_1.size ≤ 9223372036854775807 then (spec_FormatInt.l0 k1 (wrap64 (Int.tdiv x0_1 10)) (decide (a0 < 0)) ((strOfNums y331) ++ x4_1)) else (none)) = some r := by first | (rw [hy331]; with_reducible exact H) | (have H2_ := (Option.bind_some _ _).symm.trans H; rw [hy331]; with_reducible exact H2_) | (have H2_ := (Option.bind_some _ _).symm.trans H; with_reducible exact H2_) | with_reducible exact H | (rw [hy331]; exact H) | exact H
            have Ny331 := Aside0.mk hy331
            clear hy331
            by_cases c7 : (strOfNums y331).size + x4_1.size ≤ 9223372036854775807
            · rw [if_pos c7] at H
              have c7b0 := eq_true c7
              have c7b1 : decide ((strOfNums y331).size + x4_1.size ≤ 9223372036854775807) = true := decide_eq_true c7
              try have c7b2 : (9223372036854775807 < (strOfNums y331).size + x4_1.size) = False := eq_false (Nat.not_lt.2 c7)
              have H' := Aside0.mk H
              clear H
              go_wp2_with (first | ((with_reducible refine gate_dst (N := 21) rfl ?_); refine Kd.R_lit (Kd.int .u8) _ 5 ?hg (N := 21) ?hd (xs := ([(wrap64 (48 + (wrap64 (-(Int.tmod x0_1 10))))) % 256] : List Int)) (inner := [.int .u8 ((wrap64 (48 + (wrap64 (-(Int.tmod x0_1 10))))) % 256)]) (ok := fun _ => True) (okp := fun _ => True) ?hr ?hp (fun _ hk => hk) trivial (Below.refl _ _) (Nat.le_refl _) (by simp) ?_; (case hd => rfl); (case hg => rfl); (case hr => first | (go_simp; done) | (go_simp; rfl)); (case hp => exact (Reps.one (show Kd.M (Kd.int .u8) _ _ _ ((wrap64 (48 + (wrap64 (-(Int.tmod x0_1 10))))) % 256) [.int .u8 ((wrap64 (48 + (wrap64 (-(Int.tmod x0_1 10))))) % 256)] from rfl) (Reps.none _ _))); intro v332 w8 ho9 hb hg_ hnew_; clear hg_ hnew_; (first | rw [← Ny331.out] at ho9 | (simp only [Int.reduceToNat] at ho9; rw [← Ny331.out] at ho9)); have HO333 := Aside0.mk (Kd.R_lower ho9 (below_size hB_)); replace HB := kH HB hb; clear hb ho9; have hcv10 := own_string (P := Tryz.prog) Tryz.underlying22 Tryz.underlying5 Tryz.underlying9 (Kd.own_of_R HO333.out)))
              go_roundg k1
              case measure => have := HK1.out; omega
              case rel => exact ⟨(wrap64 (Int.tdiv x0_1 10)), ((strOfNums y331) ++ x4_1), (by first | rfl | (simp; done) | (simp [*]; done)), (by first | rfl | (simp; done) | (simp [*]; done)), H', ⟨by have := HK1.out; omega⟩, ⟨hB_⟩⟩
            · rw [if_neg c7] at H
              exact absurd H (by simp)
          · rw [if_neg c6] at H
            have c6b0 : decide ((Int.tmod x0_1 10) < 0) = false := decide_eq_false c6
            clear c6
            obtain ⟨y334, hy334⟩ : ∃ y_ : List Int, y_ = (([(wrap64 (48 + (Int.tmod x0_1 10))) % 256] : List Int)) := ⟨_, rfl⟩
            replace H : (if (strOfNums y334).size + x4_1.size ≤ 9223372036854775807 then (spec_FormatInt.l0 k1 (wrap64 (Int.tdiv x0_1 10)) (decide (a0 < 0)) ((strOfNums y334) ++ x4_1)) else (none)) = some r := by first | (rw [hy334]; with_reducible exact H) | (have H2_ := (Option.bind_some _ _).symm.trans H; rw [hy334]; with_reducible exact H2_) | (have H2_ := (Option.bind_some _ _).symm.trans H; with_reducible exact H2_) | with_reducible exact H | (rw [hy334]; exact H) | exact H
            have Ny334 := Aside0.mk hy334
            clear hy334
            by_cases c11 : (strOfNums y334).size + x4_1.size ≤ 9223372036854775807
            · rw [if_pos c11] at H
              have c11b0 := eq_true c11
              have c11b1 : decide ((strOfNums y334).size + x4_1.size ≤ 9223372036854775807) = true := decide_eq_true c11
              try have c11b2 : (9223372036854775807 < (strOfNums y334).size + x4_1.size) = False := eq_false (Nat.not_lt.2 c11)
              have H' := Aside0.mk H
              clear H
              go_wp2_with (first | ((with_reducible refine gate_dst (N := 21) rfl ?_); refine Kd.R_lit (Kd.int .u8) _ 5 ?hg (N := 21) ?hd (xs := ([(wrap64 (48 + (Int.tmod x0_1 10))) % 256] : List Int)) (inner := [.int .u8 ((wrap64 (48 + (Int.tmod x0_1 10))) % 256)]) (ok := fun _ => True) (okp := fun _ => True) ?hr ?hp (fun _ hk => hk) trivial (Below.refl _ _) (Nat.le_refl _) (by simp) ?_; (case hd => rfl); (case hg => rfl); (case hr => first | (go_simp; done) | (go_simp; rfl)); (case hp => exact (Reps.one (show Kd.M (Kd.int .u8) _ _ _ ((wrap64 (48 + (Int.tmod x0_1 10))) % 256) [.int .u8 ((wrap64 (48 + (Int.tmod x0_1 10))) % 256)] from rfl) (Reps.none _ _))); intro v335 w12 ho13 hb hg_ hnew_; clear hg_ hnew_; (first | rw [← Ny334.out] at ho13 | (simp only [Int.reduceToNat] at ho13; rw [← Ny334.out] at ho13)); have HO336 := Aside0.mk (Kd.R_lower ho13 (below_size hB_)); replace HB := kH HB hb; clear hb ho13; have hcv14 := own_string (P := Tryz.prog) Tryz.underlying22 Tryz.underlying5 Tryz.underlying9 (Kd.own_of_R HO336.out)))
              go_roundg k1
              case measure => have := HK1.out; omega
              case rel => exact ⟨(wrap64 (Int.tdiv x0_1 10)), ((strOfNums y334) ++ x4_1), (by first | rfl | (simp; done) | (simp [*]; done)), (by first | rfl | (simp; done) | (simp [*]; done)), H', ⟨by have := HK1.out; omega⟩, ⟨hB_⟩⟩
            · rw [if_neg c11] at H
              exact absurd H (by simp)

/-! ### spec_HasElement: function 90 -/
def spec_HasElement.f (a0 : Int) (a1 : Int) : Option (Bool) := (spec_IsSet.f 8 a0).bind fun t337 => (if t337 = true then ((spec_l1In.f a1 0 7).bind fun t338 => (if t338 = true then ((spec_l2Has.f a0 a1).bind fun t339 => (some t339)) else (some false))) else (some false))
set_option maxHeartbeats 8000000 in
set_option maxRecDepth 100000 in
theorem spec_HasElement.calls (a0 : Int) (a1 : Int) (r : Bool) (w : World) (h : spec_HasElement.f a0 a1 = some r) :
    Calls Tryz.prog 90 #[.int .i64 a0, .int .i64 a1] w fun e w' => e = .returned (.bool r) ∧ Drawn0 w w' := by
  have H : ((spec_IsSet.f 8 a0).bind fun t337 => (if t337 = true then ((spec_l1In.f a1 0 7).bind fun t338 => (if t338 = true then ((spec_l2Has.f a0 a1).bind fun t339 => (some t339)) else (some false))) else (some false))) = some r := h
  clear h
  replace H := aB H
  obtain ⟨t337, A3, H⟩ := H
  by_cases c4 : t337 = true
  · subst c4
    replace H := ifT H
    replace H := aB H
    obtain ⟨t338, A5, H⟩ := H
    by_cases c6 : t338 = true
    · subst c6
      replace H := ifT H
      replace H := aB H
      obtain ⟨t339, A7, H⟩ := H
      obtain rfl := Option.some.inj H
      go_enter Tryz.func90, Tryz.ntmps90
      go_wp2_with (first | ((with_reducible refine gate_callee (f := 50) rfl ?_); refine goesL_ (some 6) rfl rfl Tryz.func50 (by kernel_rfl) rfl #[.int .i64 8, .int .i64 a0] rfl gL_ ?_; (with_reducible refine (spec_IsSet.calls 8 a0 true _ A3.out).mono ?_); rintro e w' ⟨rfl, ⟨nd, rfl⟩⟩; refine ⟨_, rfl, ?_⟩) | (go_at_call 44; (with_reducible refine (spec_l1In.calls a1 0 7 true _ A5.out).mono ?_); rintro e w' ⟨rfl, ⟨nd, rfl⟩⟩) | (go_at_call 57; (with_reducible refine (spec_l2Has.calls a0 a1 t339 _ A7.out).mono ?_); rintro e w' ⟨rfl, ⟨nd, rfl⟩⟩))
      go_ret
      exact ⟨by first | rfl | (simp; done) | (simp [*]; done), by repeat (first | exact Drawn0.refl _ | apply Drawn0.step)⟩
    · replace c6 := Bool.eq_false_iff.mpr c6
      subst c6
      replace H := ifF H
      obtain rfl := Option.some.inj H
      go_enter Tryz.func90, Tryz.ntmps90
      go_wp2_with (first | ((with_reducible refine gate_callee (f := 50) rfl ?_); refine goesL_ (some 6) rfl rfl Tryz.func50 (by kernel_rfl) rfl #[.int .i64 8, .int .i64 a0] rfl gL_ ?_; (with_reducible refine (spec_IsSet.calls 8 a0 true _ A3.out).mono ?_); rintro e w' ⟨rfl, ⟨nd, rfl⟩⟩; refine ⟨_, rfl, ?_⟩) | (go_at_call 44; (with_reducible refine (spec_l1In.calls a1 0 7 false _ A5.out).mono ?_); rintro e w' ⟨rfl, ⟨nd, rfl⟩⟩))
      go_ret
      exact ⟨by first | rfl | (simp; done) | (simp [*]; done), by repeat (first | exact Drawn0.refl _ | apply Drawn0.step)⟩
  · replace c4 := Bool.eq_false_iff.mpr c4
    subst c4
    replace H := ifF H
    obtain rfl := Option.some.inj H
    go_enter Tryz.func90, Tryz.ntmps90
    go_wp2_with (first | ((with_reducible refine gate_callee (f := 50) rfl ?_); refine goesL_ (some 6) rfl rfl Tryz.func50 (by kernel_rfl) rfl #[.int .i64 8, .int .i64 a0] rfl gL_ ?_; (with_reducible refine (spec_IsSet.calls 8 a0 false _ A3.out).mono ?_); rintro e w' ⟨rfl, ⟨nd, rfl⟩⟩; refine ⟨_, rfl, ?_⟩))
    go_ret
    exact ⟨by first | rfl | (simp; done) | (simp [*]; done), by repeat (first | exact Drawn0.refl _ | apply Drawn0.step)⟩

/-! ### spec_ElementsOf: function 77 -/
def spec_ElementsOf.l0 : Nat → Int → List Int → Int → Option (List Int)
  | 0, _, _, _ => none
  | k + 1, x0, x3, x4 => if x4 < 8 then ((spec_HasElement.f x0 x4).bind fun t343 => (if t343 = true then (if x3.length < 17592186044416 then (spec_ElementsOf.l0 k x0 (x3 ++ [x4]) (wrap64 (x4 + 1))) else (none)) else (spec_ElementsOf.l0 k x0 x3 (wrap64 (x4 + 1))))) else (some x3)
def spec_ElementsOf.f (k : Nat) (a0 : Int) : Option (List Int) := spec_ElementsOf.l0 k a0 (([] : List Int)) 0
theorem spec_ElementsOf.mono_l : ∀ k, (∀ y0 y1 y2, LeO (spec_ElementsOf.l0 k y0 y1 y2) (spec_ElementsOf.l0 (k + 1) y0 y1 y2))
  | 0 => fun _ _ _ r h => by simp [spec_ElementsOf.l0] at h
  | k + 1 => by
    have ih0 := spec_ElementsOf.mono_l k
    · intro y0 y1 y2
      unfold spec_ElementsOf.l0
      repeat' first
      | (with_reducible exact ih0 _ _ _)
      | (with_reducible exact LeO.refl _)
      | (with_reducible exact LeO.none _)
      | (with_reducible refine LeO.ite ?_ ?_)
      | (with_reducible refine LeO.bind ?_ (fun _ => ?_))
      | exact ih0 _ _ _
      | exact LeO.none _
      | refine LeO.ite ?_ ?_
      | refine LeO.bind ?_ (fun _ => ?_)
theorem spec_ElementsOf.mono : ∀ a0 k, LeO (spec_ElementsOf.f k a0) (spec_ElementsOf.f (k + 1) a0) := by
  intro a0 k
  have ih0 := spec_ElementsOf.mono_l k
  unfold spec_ElementsOf.f
  repeat' first
      | (with_reducible exact ih0 _ _ _)
      | (with_reducible exact LeO.refl _)
      | (with_reducible exact LeO.none _)
      | (with_reducible refine LeO.ite ?_ ?_)
      | (with_reducible refine LeO.bind ?_ (fun _ => ?_))
      | exact ih0 _ _ _
      | exact LeO.none _
      | refine LeO.ite ?_ ?_
      | refine LeO.bind ?_ (fun _ => ?_)
set_option maxHeartbeats 8000000 in
set_option maxRecDepth 100000 in
theorem spec_ElementsOf.calls (k : Nat) (a0 : Int) (r : List Int) (w : World) (h : spec_ElementsOf.f k a0 = some r) :
    Calls Tryz.prog 77 #[.int .i64 a0] w fun e w' => ∃ v0_ : Value, e = .returned (v0_) ∧ Kd.R (Kd.int .i64) 3 w' w.heap.size (fun _ => True) v0_ r ∧ Below w.heap.size w w' := by
  have HB := Aside0.mk (Below.refl w.heap.size w)
  have H : (spec_ElementsOf.l0 k a0 (([] : List Int)) 0) = some r := h
  clear h
  obtain ⟨y340, hy340⟩ : ∃ y_ : List Int, y_ = (([] : List Int)) := ⟨_, rfl⟩
  replace H : (spec_ElementsOf.l0 k a0 y340 0) = some r := by first | (rw [hy340]; with_reducible exact H) | (have H2_ := (Option.bind_some _ _).symm.trans H; rw [hy340]; with_reducible exact H2_) | (have H2_ := (Option.bind_some _ _).symm.trans H; with_reducible exact H2_) | with_reducible exact H | (rw [hy340]; exact H) | exact H
  have Ny340 := Aside0.mk hy340
  clear hy340
  have H' := Aside0.mk H
  clear H
  go_enter Tryz.func77, Tryz.ntmps77
  go_wp2_with (first | ((with_reducible refine gate_dst (N := 5) rfl ?_); refine Kd.R_lit (Kd.int .i64) _ 3 ?hg (N := 5) ?hd (xs := ([] : List Int)) (inner := []) (ok := fun _ => True) (okp := fun _ => True) ?hr ?hp (fun _ hk => hk) trivial (Below.refl _ _) (Nat.le_refl _) (by simp) ?_; (case hd => rfl); (case hg => rfl); (case hr => first | (go_simp; done) | (go_simp; rfl)); (case hp => exact (Reps.none _ _)); intro v341 w2 ho3 hb hg_ hnew_; clear hg_ hnew_; (first | rw [← Ny340.out] at ho3 | (simp only [Int.reduceToNat] at ho3; rw [← Ny340.out] at ho3)); have HO342 := Aside0.mk (Kd.R_lower ho3 (below_size hB_)); replace HB := kH HB hb; clear hb ho3))
  go_loopg [3, 4] k (fun kq v3 v4 w' => ∃ (x3_1 : List Int) (x4_1 : Int), v4 = .int .i64 x4_1 ∧ Aside0 (spec_ElementsOf.l0 kq a0 x3_1 x4_1 = some r) ∧ Aside0 (kq ≤ k) ∧ Aside0 (Kd.R (Kd.int .i64) 3 w' w.heap.size (fun _ => True) v3 x3_1) ∧ Aside0 (Below w.heap.size w w'))
  case atStart => exact ⟨(y340), (0), (by first | rfl | (simp; done) | (simp [*]; done)), H', ⟨Nat.le_refl _⟩, ⟨by (with_reducible repeat (first | apply Kd.R_alloc | apply Kd.R_drewN | apply Kd.R_drew)); exact HO342.out⟩, ⟨hB_⟩⟩
  case round =>
    clear H'
    try clear p2
    obtain ⟨x3_1, x4_1, rfl, HA, HK1, HO_3, HB⟩ := hrel
    cases gk with
    | zero => exact absurd HA.out (by simp [spec_ElementsOf.l0])
    | succ k1 =>
      have H := HA.out
      clear HA
      simp only [spec_ElementsOf.l0] at H
      by_cases c4 : x4_1 < 8
      · rw [if_pos c4] at H
        have c4b0 : decide (x4_1 < 8) = true := decide_eq_true c4
        clear c4
        replace H := aB H
        obtain ⟨t343, A5, H⟩ := H
        by_cases c6 : t343 = true
        · subst c6
          replace H := ifT H
          by_cases c7 : x3_1.length < 17592186044416
          · rw [if_pos c7] at H
            have LMc7 := Aside0.mk c7
            clear c7
            obtain ⟨y344, hy344⟩ : ∃ y_ : List Int, y_ = (x3_1 ++ [x4_1]) := ⟨_, rfl⟩
            replace H : (spec_ElementsOf.l0 k1 a0 y344 (wrap64 (x4_1 + 1))) = some r := by first | (rw [hy344]; with_reducible exact H) | (have H2_ := (Option.bind_some _ _).symm.trans H; rw [hy344]; with_reducible exact H2_) | (have H2_ := (Option.bind_some _ _).symm.trans H; with_reducible exact H2_) | with_reducible exact H | (rw [hy344]; exact H) | exact H
            have Ny344 := Aside0.mk hy344
            clear hy344
            have H' := Aside0.mk H
            clear H
            go_wp2_with (first | ((with_reducible refine gate_callee (f := 90) rfl ?_); refine goesL_ (some 12) rfl rfl Tryz.func90 (by kernel_rfl) rfl #[.int .i64 a0, .int .i64 x4_1] rfl gL_ ?_; (with_reducible refine (spec_HasElement.calls a0 x4_1 true _ A5.out).mono ?_); rintro e w' ⟨rfl, ⟨nd, rfl⟩⟩; refine ⟨_, rfl, ?_⟩) | ((with_reducible refine gate_builtin (b := .append) (xs := #[.tmp 13, .tmp 15]) rfl ?_); at_builtin; refine Kd.R_append (Kd.int .i64) (w0 := w) w.heap.size rfl (.tmp 13) (.tmp 15) 24 3 (.int .i64 0) 8 rfl Tryz.underlying24 info3 rfl (by decide) (by omega) u3 x3_1 x4_1 [.int .i64 x4_1] (fun _ => True) (fun _ => False) rfl rfl ?aP (fun _ hk => hk.elim) ?aF ?aO ?aB ?aS ?aL ?_; (case aP => exact rfl); (case aB => exact hB_); (case aF => exact (fun _ _ => trivial)); (case aO => exact (rW HO_3.out)); (case aS => exact (below_size hB_)); (case aL => have := LMc7.out; omega); intro v345 w8 ho hb hg hat; rw [← Ny344.out] at ho; replace HB := Aside0.mk (hb); have HO346 := Aside0.mk (ho); clear HO_3; clear ho hb hg hat))
            go_roundg k1
            case measure => have := HK1.out; omega
            case rel => exact ⟨(y344), (wrap64 (x4_1 + 1)), (by first | rfl | (simp; done) | (simp [*]; done)), H', ⟨by have := HK1.out; omega⟩, ⟨by (with_reducible repeat (first | apply Kd.R_alloc | apply Kd.R_drewN | apply Kd.R_drew)); exact HO346.out⟩, ⟨hB_⟩⟩
          · rw [if_neg c7] at H
            exact absurd H (by simp)
        · replace c6 := Bool.eq_false_iff.mpr c6
          subst c6
          replace H := ifF H
          have H' := Aside0.mk H
          clear H
          go_wp2_with (first | ((with_reducible refine gate_callee (f := 90) rfl ?_); refine goesL_ (some 12) rfl rfl Tryz.func90 (by kernel_rfl) rfl #[.int .i64 a0, .int .i64 x4_1] rfl gL_ ?_; (with_reducible refine (spec_HasElement.calls a0 x4_1 false _ A5.out).mono ?_); rintro e w' ⟨rfl, ⟨nd, rfl⟩⟩; refine ⟨_, rfl, ?_⟩))
          go_roundg k1
          case measure => have := HK1.out; omega
          case rel => exact ⟨(x3_1), (wrap64 (x4_1 + 1)), (by first | rfl | (simp; done) | (simp [*]; done)), H', ⟨by have := HK1.out; omega⟩, ⟨by (with_reducible repeat (first | apply Kd.R_alloc | apply Kd.R_drewN | apply Kd.R_drew)); exact HO_3.out⟩, ⟨hB_⟩⟩
      · rw [if_neg c4] at H
        have c4b0 : decide (x4_1 < 8) = false := decide_eq_false c4
        clear c4
        obtain rfl := Option.some.inj H
        go_wp2
        go_ret
        exact ⟨_, eR_, by (with_reducible repeat (first | apply Kd.R_alloc | apply Kd.R_drewN | apply Kd.R_drew)); exact HO_3.out, hB_⟩

end Go.Proofs.YtgmnmimaeklfeaaGreatDoor.PFnContexts
