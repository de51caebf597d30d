-- Written by a program of this session (wip/myprint.py), which runs the kit's print with contracts proved by hand; not the kit's own print. Lean checks it.
import Derived.Test.YtodmfdkmmpefpaaGreatDoorPFnConceptsx0
import Derived.Test.YtodmfdkmmpefpaaGreatDoorPFnConceptsx2
import Derived.Test.YtodmfdkmmpefpaaGreatDoorPFnConceptsx3
import Derived.Test.YtodmfdkmmpefpaaGreatDoorPFnConceptsx4
import Derived.Test.YtodmfdkmmpefpaaGreatDoorPFnConceptsx9
namespace Go.Proofs.YtodmfdkmmpefpaaGreatDoor.PFnConcepts
open Go.RowKit Go.Proofs.YtodmfdkmmpefpaaGreatDoorW.PrintWords Go.Proofs.YtodmfdkmmpefpaaGreatDoorW.PrintLast Go.Proofs.YtodmfdkmmpefpaaGreatDoorW.PrintMore
attribute [local go_sem] max2_int min2_int max_two min_two max_three min_three max_four min_four   -- for this text's walks alone
set_option linter.unusedVariables false
set_option linter.unusedSimpArgs false

/-! ### spec_DrawIsConcept: function 7 -/
def spec_DrawIsConcept.j0 : Nat → List (S31) → Bool → List Int → Int → Int → Int → List Int → Option (Int × List Int × Int × Int)
  | 0, _, _, _, _, _, _, _ => none
  | k + 1, x6, x19, x330000, x330001, x330002, x337000, x337001 => if x19 = true then ((spec_l2Bent.f x330000 x330001 x330002).bind fun bt343 => ((spec_l2Bent.f x330000 bt343.2.1 bt343.2.2).bind fun bt346 => (some (x337000, x337001, bt343.1, bt346.1)))) else ((spec_l1Below.f x330000 x330001 x330002 (x6.length : Int)).bind fun bt349 => (if 0 ≤ bt349.1 then (if bt349.1 < (x6.length : Int) then (some (x337000, x337001, (rd_T31 x6 bt349.1).f0, (rd_T31 x6 bt349.1).f1)) else (none)) else (none)))
def spec_DrawIsConcept.f (k : Nat) (l0 : List Int) : Option (Int × List Int × Int × Int) := (spec_l1New.f k l0).bind fun bt326 => ((spec_l3Bent.f k bt326.1 bt326.2.1 bt326.2.2).bind fun bt330 => ((spec_Concepts.f k bt330.1 bt330.2.1).bind fun t337 => (if (t337.length : Int) = 0 then (spec_DrawIsConcept.j0 k t337 true bt326.1 bt330.2.2.1 bt330.2.2.2 bt330.1 bt330.2.1) else ((spec_l1Once.f bt326.1 bt330.2.2.1 bt330.2.2.2 4).bind fun bt340 => (spec_DrawIsConcept.j0 k t337 bt340.1 bt326.1 bt340.2.1 bt340.2.2 bt330.1 bt330.2.1)))))
theorem spec_DrawIsConcept.mono_l : ∀ k, (∀ y0 y1 y2 y3 y4 y5 y6, LeO (spec_DrawIsConcept.j0 k y0 y1 y2 y3 y4 y5 y6) (spec_DrawIsConcept.j0 (k + 1) y0 y1 y2 y3 y4 y5 y6))
  | 0 => fun _ _ _ _ _ _ _ r h => by simp [spec_DrawIsConcept.j0] at h
  | k + 1 => by
    have ih0 := spec_DrawIsConcept.mono_l k
    · intro y0 y1 y2 y3 y4 y5 y6
      unfold spec_DrawIsConcept.j0
      repeat' first
      | (with_reducible exact ih0 _ _ _ _ _ _ _)
      | (with_reducible exact spec_Concepts.mono _ _ _)
      | (with_reducible exact spec_l1New.mono _ _)
      | (with_reducible exact spec_l3Bent.mono _ _ _ _)
      | (with_reducible exact LeO.refl _)
      | (with_reducible exact LeO.none _)
      | (with_reducible refine LeO.ite ?_ ?_)
      | (with_reducible refine LeO.bind ?_ (fun _ => ?_))
      | exact ih0 _ _ _ _ _ _ _
      | exact spec_Concepts.mono _ _ _
      | exact spec_l1New.mono _ _
      | exact spec_l3Bent.mono _ _ _ _
      | exact LeO.none _
      | refine LeO.ite ?_ ?_
      | refine LeO.bind ?_ (fun _ => ?_)
theorem spec_DrawIsConcept.mono : ∀ a0 k, LeO (spec_DrawIsConcept.f k a0) (spec_DrawIsConcept.f (k + 1) a0) := by
  intro a0 k
  have ih0 := spec_DrawIsConcept.mono_l k
  unfold spec_DrawIsConcept.f
  repeat' first
      | (with_reducible exact ih0 _ _ _ _ _ _ _)
      | (with_reducible exact spec_Concepts.mono _ _ _)
      | (with_reducible exact spec_l1New.mono _ _)
      | (with_reducible exact spec_l3Bent.mono _ _ _ _)
      | (with_reducible exact LeO.refl _)
      | (with_reducible exact LeO.none _)
      | (with_reducible refine LeO.ite ?_ ?_)
      | (with_reducible refine LeO.bind ?_ (fun _ => ?_))
      | exact ih0 _ _ _ _ _ _ _
      | exact spec_Concepts.mono _ _ _
      | exact spec_l1New.mono _ _
      | exact spec_l3Bent.mono _ _ _ _
      | exact LeO.none _
      | refine LeO.ite ?_ ?_
      | refine LeO.bind ?_ (fun _ => ?_)
def spec_DrawIsConcept.T5 : Bool × List (List Nat × List Nat) := (true, [([], []), ([], []), ([1], [1]), ([], []), ([3, 2], [3]), ([2, 4], [2, 4]), ([0, 4, 0], [0]), ([5, 6, 0, 1, 2, 3, 4, 5, 6], [5])])
def spec_DrawIsConcept.B5 : List Nat := [0, 0, 2, 0, 14, 30, 31, 127]
theorem spec_DrawIsConcept.tab5 : rtab .any (opsOf Tryz.f7 5) = spec_DrawIsConcept.T5 := by kernel_rfl
theorem spec_DrawIsConcept.bits5 : waitsOk spec_DrawIsConcept.T5.2 spec_DrawIsConcept.B5 = true := by kernel_rfl
def spec_DrawIsConcept.T6 : Bool × List (List Nat × List Nat) := (true, [([], []), ([], []), ([], []), ([], []), ([3], [3]), ([2, 4], [2, 4]), ([1, 5], [1, 5]), ([6], [6]), ([0, 5, 0], [0]), ([7, 8, 0, 1, 2, 3, 4, 5, 6, 7, 8], [7])])
def spec_DrawIsConcept.B6 : List Nat := [0, 0, 0, 0, 8, 28, 62, 126, 61, 511]
theorem spec_DrawIsConcept.tab6 : rtab .any (opsOf Tryz.f7 6) = spec_DrawIsConcept.T6 := by kernel_rfl
theorem spec_DrawIsConcept.bits6 : waitsOk spec_DrawIsConcept.T6.2 spec_DrawIsConcept.B6 = true := by kernel_rfl
set_option maxHeartbeats 8000000 in
set_option maxRecDepth 100000 in
theorem spec_DrawIsConcept.calls (k : Nat) (A0 : Option Addr) (c0 : Nat) (l0 : List Int) (r1 : Int) (r2 : List Int) (r3 : Int) (r4 : Int) (w : World) (hr0 : Kd.C (Kd.int .u8) w A0 l0.length l0) (hc0 : l0.length ≤ c0) (h : spec_DrawIsConcept.f k l0 = some (r1, r2, r3, r4)) :
    Calls Tryz.prog 7 #[.slice A0 l0.length c0] w fun e w' => ∃ v1_ : Value, e = .returned (.tuple #[.agg #[.int .i64 r1, v1_], .agg #[.int .i64 r3, .int .i64 r4]]) ∧ Kd.R (Kd.int .i64) 3 w' w.heap.size (fun _ => True) v1_ r2 ∧ Below w.heap.size w w' := by
  have hu26 := Tryz.underlying26
  have hu31 := Tryz.underlying31
  have HR0 := Aside0.mk hr0
  have HC0 := Aside0.mk hc0
  clear hr0 hc0
  have HB := Aside0.mk (Below.refl w.heap.size w)
  have H : ((spec_l1New.f k l0).bind fun bt326 => ((spec_l3Bent.f k bt326.1 bt326.2.1 bt326.2.2).bind fun bt330 => ((spec_Concepts.f k bt330.1 bt330.2.1).bind fun t337 => (if (t337.length : Int) = 0 then (spec_DrawIsConcept.j0 k t337 true bt326.1 bt330.2.2.1 bt330.2.2.2 bt330.1 bt330.2.1) else ((spec_l1Once.f bt326.1 bt330.2.2.1 bt330.2.2.2 4).bind fun bt340 => (spec_DrawIsConcept.j0 k t337 bt340.1 bt326.1 bt340.2.1 bt340.2.2 bt330.1 bt330.2.1)))))) = some (r1, r2, r3, r4) := h
  clear h
  replace H := aB H
  obtain ⟨⟨t326, t327, t328⟩, A2, H⟩ := H
  dsimp only at H
  replace H := aB H
  obtain ⟨⟨t330, t331, t334, t335⟩, A3, H⟩ := H
  dsimp only at H
  replace H := aB H
  obtain ⟨t337, A4, H⟩ := H
  have HC5 := Aside0.mk H
  clear H
  go_enter Tryz.func7, Tryz.ntmps7
  go_upto_region 4 with (first | ((with_reducible refine gate_dst (N := 2) rfl ?_); refine box_event ?hg (N := 2) ?hd (cs := #[.int .i64 0, .slice none 0 0]) (t := 26) ?hr ?_; (case hd => rfl); (case hg => rfl); (case hr => first | (go_simp; done) | (go_simp; rfl)); intro gb324 hg w6 hbox hb; have BK324 := Aside0.mk (hbox); have GW324 := kG HB hg; have GE324 := kG HB hg; replace HB := kH HB hb; clear hb hbox hg) | ((with_reducible refine gate_dst (N := 3) rfl ?_); refine box_event ?hg (N := 3) ?hd (cs := #[.int .i64 0, .int .i64 0]) (t := 31) ?hr ?_; (case hd => rfl); (case hg => rfl); (case hr => first | (go_simp; done) | (go_simp; rfl)); intro gb325 hg w7 hbox hb; have BK325 := Aside0.mk (hbox); have GW325 := kG HB hg; have GE325 := kG HB hg; replace HB := kH HB hb; have NB324_325 := kN BK324 hg; have NB325_324 := kM BK324 hg; replace BK324 := kB BK324 hb; clear hb hbox hg) | ((with_reducible refine gate_callee (f := 31) rfl ?_); refine goesL_ (some 8) rfl rfl Tryz.func31 (by kernel_rfl) rfl #[.slice A0 l0.length c0] rfl gL_ ?_; (with_reducible refine (spec_l1New.calls k _ _ l0 t326 t327 t328 w _ ?side1 ?side2 ?side3 A2.out).mono ?_); (case side1 => exact hB_); (case side2 => exact HR0.out); (case side3 => exact HC0.out); rintro e w8 ⟨g329, rfl, hi, hb, hb2⟩; refine ⟨_, rfl, ?_⟩; replace HB := Aside0.mk (hb); have HI329 := Aside0.mk (hi); have NB329_324 := Aside0.mk (IsS63.ne_blk hi (blk_below (g := gb324) (o := .cells #[.int .i64 0, .slice none 0 0] 26 (0, 0)) (bW BK324) hb2) (by decide)); have NB324_329 := Aside0.mk (Ne.symm (IsS63.ne_blk hi (blk_below (g := gb324) (o := .cells #[.int .i64 0, .slice none 0 0] 26 (0, 0)) (bW BK324) hb2) (by decide))); replace BK324 := Aside0.mk (blk_below (g := gb324) (o := .cells #[.int .i64 0, .slice none 0 0] 26 (0, 0)) (bW BK324) hb2); have NB329_325 := Aside0.mk (IsS63.ne_blk hi (blk_below (g := gb325) (o := .cells #[.int .i64 0, .int .i64 0] 31 (0, 0)) (bW BK325) hb2) (by decide)); have NB325_329 := Aside0.mk (Ne.symm (IsS63.ne_blk hi (blk_below (g := gb325) (o := .cells #[.int .i64 0, .int .i64 0] 31 (0, 0)) (bW BK325) hb2) (by decide))); replace BK325 := Aside0.mk (blk_below (g := gb325) (o := .cells #[.int .i64 0, .int .i64 0] 31 (0, 0)) (bW BK325) hb2); clear hb hb2 hi) | ((with_reducible refine gate_callee (f := 30) rfl ?_); refine goesL_ (some 10) rfl rfl Tryz.func30 (by kernel_rfl) rfl #[.pointer (some ⟨g329, 0, none⟩)] rfl gL_ ?_; (with_reducible refine (spec_l3Bent.calls k g329 t326 t327 t328 t330 t331 t334 t335 w _ ?side1 ?side2 A3.out).mono ?_); (case side1 => exact hI63_HI329); (case side2 => exact hC63_); rintro e w9 ⟨v332, rfl, ho0, hi, hb, hk⟩; refine ⟨_, rfl, ?_⟩; replace BK324 := kK hk BK324 NB324_329; replace BK325 := kK hk BK325 NB325_329; have HO333 := Aside0.mk (Kd.R_lower ho0 (below_size hC63_)); replace HB := Aside0.mk (hb); replace HI329 := Aside0.mk (hi); clear hb hk hi ho0) | ((with_reducible refine gate_dst (N := 5) rfl ?_); refine box_event ?hg (N := 5) ?hd (cs := #[.int .i64 0, .slice none 0 0]) (t := 26) ?hr ?_; (case hd => rfl); (case hg => rfl); (case hr => first | (go_simp; done) | (go_simp; rfl)); intro gb336 hg w10 hbox hb; replace HO333 := kR HO333 hb; have BK336 := Aside0.mk (hbox); have GW336 := Aside0.mk ((by rw [hg]; exact (below_size hC63_) : w.heap.size ≤ gb336)); have GE336 := Aside0.mk ((by rw [hg]; exact (below_size hC63_) : w.heap.size ≤ gb336)); replace HB := Aside0.mk (below_step hC63_ hb); have NB324_336 := kN BK324 hg; have NB336_324 := kM BK324 hg; replace BK324 := kB BK324 hb; have NB325_336 := kN BK325 hg; have NB336_325 := kM BK325 hg; replace BK325 := kB BK325 hb; have NB329_336 := Aside0.mk ((by rw [hg]; exact Nat.ne_of_lt (IsS63.lt (show IsS63 w _ g329 t326 t334 t335 from hI63_HI329)) : g329 ≠ gb336)); have NB336_329 := Aside0.mk ((by rw [hg]; exact Nat.ne_of_gt (IsS63.lt (show IsS63 w _ g329 t326 t334 t335 from hI63_HI329)) : gb336 ≠ g329)); replace HI329 := Aside0.mk (IsS63.below hI63_HI329 hb); clear hb hbox hg; have hnb11 := NB336_324.out; have hnc11 := NB324_336.out; have hnb12 := NB336_325.out; have hnc12 := NB325_336.out; have hnb13 := NB336_329.out; have hnc13 := NB329_336.out; have hcz14_0 : w10.cell? ⟨gb336, 0, none⟩ = some (.int .i64 0) := (blk_cell BK336.out 0).trans rfl; have hcz14_1 : w10.cell? ⟨gb336, 1, none⟩ = some (.slice none 0 0) := (blk_cell BK336.out 1).trans rfl; have hfz14_0 := blk_frozen BK336.out 0; have hfz14_1 := blk_frozen BK336.out 1; obtain ⟨Ao15, co15, eo15⟩ := Kd.R_slice HO333.out; subst eo15) | ((with_reducible refine gate_callee (f := 21) rfl ?_); refine goesL_ (some 12) rfl rfl Tryz.func21 (by kernel_rfl) rfl #[.agg #[.int .i64 t330, .slice Ao15 t331.length co15]] rfl gL_ ?_; (with_reducible refine (spec_Concepts.calls k t330 _ _ t331 t337 _ ?side1 ?side2 A4.out).mono ?_); (case side1 => exact rC (kT HO333 BK336)); (case side2 => exact (Kd.R_reads' HO333.out).2.1); rintro e w16 ⟨v338, rfl, ho0, hb⟩; refine ⟨_, rfl, ?_⟩; replace HO333 := kR (kT HO333 BK336) hb; have HO339 := Aside0.mk (Kd.R_lower (Kd.R_newB ho0 (g := gb325) (o := .cells #[.int .i64 0, .int .i64 0] 31 (0, 0)) (qF NB325_336 (qF NB325_336 BK325)).out) (below_size hC63_)); replace BK324 := kB (kF NB324_336 BK324) hb; replace BK325 := kB (kF NB325_336 BK325) hb; replace BK336 := kB (kP BK336) hb; replace HB := Aside0.mk (below_step hC63_ hb); replace HI329 := Aside0.mk (IsS63.below (show IsS63 w ((w10.setCell ⟨gb336, 0, none⟩ (.int .i64 t330)).setCell ⟨gb336, 1, none⟩ (.slice Ao15 t331.length co15)) g329 t326 t334 t335 from hI63_HI329) hb); clear hb ho0))
  (try simp only [Act.put, List.setIfInBounds_toArray, List.set_cons_zero, List.set_cons_succ])
  go_cut [19] (fun v19 wc => ∃ (kq : Nat) (x19_4 : Bool) (x330001_4 : Int) (x330002_4 : Int), v19 = .bool x19_4 ∧ Aside0 (spec_DrawIsConcept.j0 kq t337 x19_4 t326 x330001_4 x330002_4 t330 t331 = some (r1, r2, r3, r4)) ∧ Aside0 (kq ≤ k) ∧ Aside0 (Kd.R k31 31 wc w.heap.size (fun k_ => k_ ≠ gb325) v338 t337) ∧ Aside0 (Kd.R (Kd.int .i64) 3 wc w.heap.size (fun _ => True) (.slice Ao15 t331.length co15) t331) ∧ Aside0 (wc.heap[gb324]? = some (.cells #[.int .i64 0, (.slice none 0 0)] 26 (0, 0))) ∧ Aside0 (wc.heap[gb325]? = some (.cells #[.int .i64 0, .int .i64 0] 31 (0, 0))) ∧ Aside0 (wc.heap[gb336]? = some (.cells #[.int .i64 t330, (.slice Ao15 t331.length co15)] 26 (0, 0))) ∧ Aside0 (IsS63 w wc g329 t326 x330001_4 x330002_4) ∧ Aside0 (Below w.heap.size w wc))
  case first =>
    have H := HC5.out
    clear HC5
    by_cases c17 : (t337.length : Int) = 0
    · rw [if_pos c17] at H
      have c17b0 : ((t337.length : Int) == 0) = true := beq_iff_eq.mpr c17
      have c17b1 : ((t337.length : Int) != 0) = false := bne_eq_false_iff_eq.mpr c17
      clear c17
      (first | rw [c17b0] | (simp only [i64_w, i32_w]; rw [c17b0]) | skip)
      have H' := Aside0.mk H
      clear H
      obtain ⟨Ao18, co18, eo18⟩ := Kd.R_slice HO339.out
      subst eo18
      go_wp2
      go_meet
      case rel => exact ⟨_, (true), (t334), (t335), (by first | rfl | (simp; done) | (simp [*]; done)), H', ⟨by first | omega | exact Nat.le_refl _⟩, ⟨by (with_reducible repeat (first | apply Kd.R_alloc | apply Kd.R_drewN | apply Kd.R_drew)); exact Kd.R_mono HO339.out (fun _ hk => hk.2)⟩, ⟨by (with_reducible repeat (first | apply Kd.R_alloc | apply Kd.R_drewN | apply Kd.R_drew)); exact HO333.out⟩, ⟨bW BK324⟩, ⟨bW BK325⟩, ⟨bW BK336⟩, ⟨hI63_HI329⟩, ⟨hC63_⟩⟩
    · rw [if_neg c17] at H
      have c17b0 : ((t337.length : Int) == 0) = false := beq_eq_false_iff_ne.mpr c17
      have c17b1 : ((t337.length : Int) != 0) = true := bne_iff_ne.mpr c17
      have c17b2 : ¬ (t337 = []) := fun h_ => c17 (by rw [h_]; rfl)
      (first | rw [c17b0] | (simp only [i64_w, i32_w]; rw [c17b0]) | skip)
      replace H := aB H
      obtain ⟨⟨t340, t341, t342⟩, A19, H⟩ := H
      dsimp only at H
      have H' := Aside0.mk H
      clear H
      obtain ⟨Ao20, co20, eo20⟩ := Kd.R_slice HO339.out
      subst eo20
      go_wp2_with (first | (go_at_call 36; (with_reducible refine (spec_l1Once.calls g329 t326 t334 t335 4 t340 t341 t342 w _ ?side1 ?side2 A19.out).mono ?_); (case side1 => exact hI63_HI329); (case side2 => exact hC63_); rintro e w21 ⟨rfl, hi, hb, hk⟩; replace BK324 := kK hk BK324 NB324_329; replace BK325 := kK hk BK325 NB325_329; replace HO333 := Aside0.mk (Kd.R_mono (Kd.R_keep (IsS63.apart (show IsS63 w _ g329 t326 t334 t335 from hI63_HI329) (rW HO333.out) (by decide)) hk (fun _ h => h.2)) (fun _ h => h.1)); replace BK336 := kK hk BK336 NB336_329; replace HO339 := Aside0.mk (Kd.R_mono (Kd.R_keep (IsS63.apart (show IsS63 w _ g329 t326 t334 t335 from hI63_HI329) (rW HO339.out) (by decide)) hk (fun _ h => h.2)) (fun _ h => h.1)); replace HB := Aside0.mk (hb); replace HI329 := Aside0.mk (hi); clear hb hk hi))
      go_meet
      case rel => exact ⟨_, (t340), (t341), (t342), (by first | rfl | (simp; done) | (simp [*]; done)), H', ⟨by first | omega | exact Nat.le_refl _⟩, ⟨by (with_reducible repeat (first | apply Kd.R_alloc | apply Kd.R_drewN | apply Kd.R_drew)); exact Kd.R_mono HO339.out (fun _ hk => hk.2)⟩, ⟨by (with_reducible repeat (first | apply Kd.R_alloc | apply Kd.R_drewN | apply Kd.R_drew)); exact HO333.out⟩, ⟨bW BK324⟩, ⟨bW BK325⟩, ⟨bW BK336⟩, ⟨hI63_HI329⟩, ⟨hC63_⟩⟩
  case rest =>
    clear HC5
    try clear c1
    try clear c2
    try clear p2
    try clear c3
    try clear c7
    try clear c11
    try clear c12
    try clear c13
    try clear c17
    try clear c17b0
    try clear c17b1
    try clear c17b2
    try clear c21
    try clear hcz14_0
    try clear hcz14_1
    try clear hfz14_0
    try clear hfz14_1
    obtain ⟨kq, x19_4, x330001_4, x330002_4, rfl, HA, HJ4, HO_6, HO_337001, BK324, BK325, BK336, HI329, HB⟩ := hcut
    cases kq with
    | zero => exact absurd HA.out (by simp [spec_DrawIsConcept.j0])
    | succ kj4 =>
      have H := HA.out
      clear HA
      simp only [spec_DrawIsConcept.j0] at H
      by_cases c22 : x19_4 = true
      · subst c22
        replace H := ifT H
        replace H := aB H
        obtain ⟨⟨t343, t344, t345⟩, A23, H⟩ := H
        dsimp only at H
        replace H := aB H
        obtain ⟨⟨t346, t347, t348⟩, A24, H⟩ := H
        dsimp only at H
        simp only [Option.some.injEq, Prod.mk.injEq] at H
        obtain ⟨rfl, rfl, rfl, rfl⟩ := H
        try go_wp2
        replace HO_6 := Aside0.mk (Kd.R_drew HO_6.out)
        replace HO_337001 := Aside0.mk (Kd.R_drew HO_337001.out)
        replace BK324 := Aside0.mk (blk_drew BK324.out)
        replace BK325 := Aside0.mk (blk_drew BK325.out)
        replace BK336 := Aside0.mk (blk_drew BK336.out)
        replace HI329 := Aside0.mk (IsS63.drew HI329.out)
        replace HB := Aside0.mk (below_drew1 HB.out)
        refine start_ (n := 8) (S := fun w' => w'.cell? ⟨gb336, 0, none⟩ = some (.int .i64 t330) ∧ w'.cell? ⟨gb336, 1, none⟩ = some (.slice Ao15 t331.length co15)) (ds := []) #[false, false, false, false, false, false, false, false] (by kernel_rfl) rfl rfl ⟨(blk_cell BK336.out 0).trans rfl, (blk_cell BK336.out 1).trans rfl⟩ (fun hHeld => ?_); refine with_tabW spec_DrawIsConcept.tab5 spec_DrawIsConcept.bits5 (fun HT_ HW_ => ?_)
        generalize wc.drew = w25 at HO_6 HO_337001 BK324 BK325 BK336 HI329 HB hHeld ⊢
        refine pure_ (i := 1) (N := some 21) (v := ?_) (a' := ?_) #[false, true, false, false, false, false, false, false] rfl rfl (any_of HT_.out (by kernel_rfl)) (fun _ _ _ h => h) (Or.inl ⟨by rfl, ?_⟩) ?_ ?_
        rotate_left
        · intro w'
          go_simp
          with_reducible rfl
        rotate_left
        · simp only [Act.put, List.setIfInBounds_toArray, List.set_cons_zero, List.set_cons_succ, i64_w, i32_w]
          rfl
        refine pure_ (i := 3) (N := some 23) (v := ?_) (a' := ?_) #[false, true, false, true, false, false, false, false] rfl rfl (any_of HT_.out (by kernel_rfl)) (fun _ _ _ h => h) (Or.inl ⟨by rfl, ?_⟩) ?_ ?_
        rotate_left
        · intro w'
          go_simp
          with_reducible rfl
        rotate_left
        · simp only [Act.put, List.setIfInBounds_toArray, List.set_cons_zero, List.set_cons_succ, i64_w, i32_w]
          rfl
        refine take_ (i := 0) (N := some 20) (v := ?_) (a' := ?_) #[true, true, false, true, false, false, false, false] rfl rfl (take_ofW HT_.out HW_.out (by kernel_rfl)) (fun _ _ _ h => h) (Or.inl ⟨by rfl, ?_⟩) hHeld ?_ ?_
        rotate_left
        · rintro w' ⟨s0, s1⟩
          go_simp
          with_reducible rfl
        rotate_left
        · simp only [Act.put, List.setIfInBounds_toArray, List.set_cons_zero, List.set_cons_succ, i64_w, i32_w]
          rfl
        refine one_ (i := 2) (N := some 22) #[true, true, true, true, false, false, false, false] rfl rfl (one_of HT_.out (by kernel_rfl)) (by decide) (fun K hK => ?_)
        refine goes_ Tryz.func37 (by kernel_rfl) rfl #[.pointer (some ⟨g329, 0, none⟩)] (by rfl) rfl rfl gL_ ?_
        with_reducible refine (spec_l2Bent.calls g329 t326 x330001_4 x330002_4 t343 t344 t345 w _ ?side1 ?side2 A23.out).mono ?_
        (case side1 => exact hI63_HI329)
        (case side2 => exact hC63_)
        rintro e w26 ⟨rfl, hi, hb, hk⟩
        refine ⟨_, rfl, ?_⟩
        replace HO_6 := Aside0.mk (Kd.R_mono (Kd.R_keep (IsS63.apart (show IsS63 w _ g329 t326 x330001_4 x330002_4 from hI63_HI329) (rW HO_6.out) (by decide)) hk (fun _ h => h.2)) (fun _ h => h.1))
        replace HO_337001 := Aside0.mk (Kd.R_mono (Kd.R_keep (IsS63.apart (show IsS63 w _ g329 t326 x330001_4 x330002_4 from hI63_HI329) (rW HO_337001.out) (by decide)) hk (fun _ h => h.2)) (fun _ h => h.1))
        replace BK324 := kK hk BK324 NB324_329
        replace BK325 := kK hk BK325 NB325_329
        replace BK336 := kK hk BK336 NB336_329
        replace HB := Aside0.mk (hb)
        replace HI329 := Aside0.mk (hi)
        (try clear hb)
        (try clear hb2)
        (try clear hk)
        (try clear hi)
        refine hK.out _ _ ⟨(blk_cell BK336.out 0).trans rfl, (blk_cell BK336.out 1).trans rfl⟩ (fun hHeld => ?_)
        clear hK K
        refine norm_ (a' := ?_) ?_ ?_
        rotate_left
        · show Act.put _ (some 22) _ = _
          simp only [Act.put, List.setIfInBounds_toArray, List.set_cons_zero, List.set_cons_succ, i64_w, i32_w]
          rfl
        refine one_ (i := 4) (N := some 24) #[true, true, true, true, true, false, false, false] rfl rfl (one_of HT_.out (by kernel_rfl)) (by decide) (fun K hK => ?_)
        refine goes_ Tryz.func37 (by kernel_rfl) rfl #[.pointer (some ⟨g329, 0, none⟩)] (by rfl) rfl rfl gL_ ?_
        with_reducible refine (spec_l2Bent.calls g329 t326 t344 t345 t346 t347 t348 w _ ?side1 ?side2 A24.out).mono ?_
        (case side1 => exact hI63_HI329)
        (case side2 => exact hC63_)
        rintro e w27 ⟨rfl, hi, hb, hk⟩
        refine ⟨_, rfl, ?_⟩
        replace HO_6 := Aside0.mk (Kd.R_mono (Kd.R_keep (IsS63.apart (show IsS63 w _ g329 t326 t344 t345 from hI63_HI329) (rW HO_6.out) (by decide)) hk (fun _ h => h.2)) (fun _ h => h.1))
        replace HO_337001 := Aside0.mk (Kd.R_mono (Kd.R_keep (IsS63.apart (show IsS63 w _ g329 t326 t344 t345 from hI63_HI329) (rW HO_337001.out) (by decide)) hk (fun _ h => h.2)) (fun _ h => h.1))
        replace BK324 := kK hk BK324 NB324_329
        replace BK325 := kK hk BK325 NB325_329
        replace BK336 := kK hk BK336 NB336_329
        replace HB := Aside0.mk (hb)
        replace HI329 := Aside0.mk (hi)
        (try clear hb)
        (try clear hb2)
        (try clear hk)
        (try clear hi)
        refine hK.out _ _ ⟨(blk_cell BK336.out 0).trans rfl, (blk_cell BK336.out 1).trans rfl⟩ (fun hHeld => ?_)
        clear hK K
        refine norm_ (a' := ?_) ?_ ?_
        rotate_left
        · show Act.put _ (some 24) _ = _
          simp only [Act.put, List.setIfInBounds_toArray, List.set_cons_zero, List.set_cons_succ, i64_w, i32_w]
          rfl
        refine pure_ (i := 5) (N := some 25) (v := ?_) (a' := ?_) #[true, true, true, true, true, true, false, false] rfl rfl (any_of HT_.out (by kernel_rfl)) (fun _ _ _ h => h) (Or.inl ⟨by rfl, ?_⟩) ?_ ?_
        rotate_left
        · intro w'
          go_simp
          with_reducible rfl
        rotate_left
        · simp only [Act.put, List.setIfInBounds_toArray, List.set_cons_zero, List.set_cons_succ, i64_w, i32_w]
          rfl
        refine one_ (i := 6) (N := none) #[true, true, true, true, true, true, true, false] rfl rfl (one_of HT_.out (by kernel_rfl)) (by decide) (fun K hK => ?_)
        have hs28 : w27.cell? ⟨gb324, 0, none⟩ = some (.int .i64 0) := (blk_cell BK324.out 0).trans rfl
        have hfs28 := blk_frozen BK324.out 0
        have hns28_1 := NB325_324.out
        have hns28_2 := NB336_324.out
        have hms28_1 := NB324_325.out
        have hms28_2 := NB324_336.out
        have hs29 : w27.cell? ⟨gb324, 1, none⟩ = some (.slice none 0 0) := (blk_cell BK324.out 1).trans rfl
        have hfs29 := blk_frozen BK324.out 1
        have hns29_1 := NB325_324.out
        have hns29_2 := NB336_324.out
        have hms29_1 := NB324_325.out
        have hms29_2 := NB324_336.out
        refine skip_ (w1 := ?_) (by rfl) rfl ?_ ?_
        rotate_left
        · go_simp
          rfl
        refine hK.out _ _ ⟨((cell_far (p := ⟨gb324, _, none⟩) NB336_324.out _).trans (((cell_far (p := ⟨gb324, _, none⟩) NB336_324.out _).trans (hHeld.1)))), ((cell_far (p := ⟨gb324, _, none⟩) NB336_324.out _).trans (((cell_far (p := ⟨gb324, _, none⟩) NB336_324.out _).trans (hHeld.2))))⟩ (fun hHeld => ?_)
        clear hK K
        refine one_ (i := 7) (N := none) #[true, true, true, true, true, true, true, true] rfl rfl (one_of HT_.out (by kernel_rfl)) (by decide) (fun K hK => ?_)
        have hs30 : w27.cell? ⟨gb325, 0, none⟩ = some (.int .i64 0) := (blk_cell BK325.out 0).trans rfl
        have hfs30 := blk_frozen BK325.out 0
        have hns30_0 := NB324_325.out
        have hns30_2 := NB336_325.out
        have hms30_0 := NB325_324.out
        have hms30_2 := NB325_336.out
        have hs31 : w27.cell? ⟨gb325, 1, none⟩ = some (.int .i64 0) := (blk_cell BK325.out 1).trans rfl
        have hfs31 := blk_frozen BK325.out 1
        have hns31_0 := NB324_325.out
        have hns31_2 := NB336_325.out
        have hms31_0 := NB325_324.out
        have hms31_2 := NB325_336.out
        refine skip_ (w1 := ?_) (by rfl) rfl ?_ ?_
        rotate_left
        · go_simp
          rfl
        refine hK.out _ _ ⟨((cell_far (p := ⟨gb325, _, none⟩) NB336_325.out _).trans (((cell_far (p := ⟨gb325, _, none⟩) NB336_325.out _).trans (hHeld.1)))), ((cell_far (p := ⟨gb325, _, none⟩) NB336_325.out _).trans (((cell_far (p := ⟨gb325, _, none⟩) NB336_325.out _).trans (hHeld.2))))⟩ (fun hHeld => ?_)
        clear hK K
        refine done_ (done_of HT_.out (by kernel_rfl)) ?_
        try go_wp2
        refine bodyPost_ret (results_cc rfl _ _ gb324 gb325 26 31 #[.int .i64 t330, .slice Ao15 t331.length co15] #[.int .i64 t343, .int .i64 t346] (0, 0) (0, 0) _ _ rfl (qF NB324_325 (qF NB324_325 (qP (qP BK324)))).out Tryz.underlying26 rfl (by kernel_rfl) rfl (qP (qP (qF NB325_324 (qF NB325_324 BK325)))).out Tryz.underlying31 rfl (by kernel_rfl)) rfl ?_
        exact ⟨_, eR_, by (with_reducible repeat (first | apply Kd.R_alloc | apply Kd.R_drewN | apply Kd.R_drew)); exact Kd.R_mono (Kd.R_far (p := ⟨gb325, 1, none⟩) (Kd.R_far (p := ⟨gb325, 0, none⟩) (Kd.R_far (p := ⟨gb324, 1, none⟩) (Kd.R_far (p := ⟨gb324, 0, none⟩) (Kd.R_types (Kd.R_types HO_337001.out BK324.out (by decide)) BK325.out (by decide)) (fun _ hk => hk.1.2) (.int .i64 t330)) (fun _ hk => hk.1.2) (.slice Ao15 t331.length co15)) (fun _ hk => hk.2) (.int .i64 t343)) (fun _ hk => hk.2) (.int .i64 t346)) (fun _ hk => trivial), hC63_⟩
      · replace c22 := Bool.eq_false_iff.mpr c22
        subst c22
        replace H := ifF H
        replace H := aB H
        obtain ⟨⟨t349, t350, t351⟩, A32, H⟩ := H
        dsimp only at H
        by_cases c33 : 0 ≤ t349
        · rw [if_pos c33] at H
          have c33b0 : decide (0 ≤ t349) = true := decide_eq_true c33
          clear c33
          by_cases c34 : t349 < (t337.length : Int)
          · rw [if_pos c34] at H
            have c34b0 : decide (t349 < (t337.length : Int)) = true := decide_eq_true c34
            clear c34
            simp only [Option.some.injEq, Prod.mk.injEq] at H
            obtain ⟨rfl, rfl, rfl, rfl⟩ := H
            try go_wp2
            replace HO_6 := Aside0.mk (Kd.R_drew HO_6.out)
            replace HO_337001 := Aside0.mk (Kd.R_drew HO_337001.out)
            replace BK324 := Aside0.mk (blk_drew BK324.out)
            replace BK325 := Aside0.mk (blk_drew BK325.out)
            replace BK336 := Aside0.mk (blk_drew BK336.out)
            replace HI329 := Aside0.mk (IsS63.drew HI329.out)
            replace HB := Aside0.mk (below_drew1 HB.out)
            obtain ⟨Ao36, co36, eo36⟩ := Kd.R_slice HO_6.out
            (first | subst eo36 | (injection eo36 with f1_ f2_ f3_; have f4_ := f1_.symm; have f5_ := f3_.symm; clear f1_ f2_ f3_; subst f4_; subst f5_))
            have p352 : 0 ≤ (t349 : Int) := of_decide_eq_true (by first | (with_reducible assumption) | assumption)
            have q352 : t349 < (t337.length : Int) := of_decide_eq_true (by first | (with_reducible assumption) | assumption)
            obtain ⟨ad352, e352, hx352_0, hx352_1⟩ := at_T31 (Kd.R_reads' HO_6.out).2.2 t349 p352 q352
            cases e352
            replace p352 := eq_true p352
            replace q352 := eq_true q352
            refine start_ (n := 10) (S := fun w' => w'.cell? ⟨gb336, 0, none⟩ = some (.int .i64 t330) ∧ w'.cell? ⟨gb336, 1, none⟩ = some (.slice Ao15 t331.length co15) ∧ w'.cell? (ad352.add ((t349).toNat * 2)) = some (.int .i64 ((rd_T31 t337 t349).f0)) ∧ w'.cell? ⟨(ad352.add ((t349).toNat * 2)).block, (ad352.add ((t349).toNat * 2)).off + 1, none⟩ = some (.int .i64 ((rd_T31 t337 t349).f1))) (ds := []) #[false, false, false, false, false, false, false, false, false, false] (by kernel_rfl) rfl rfl ⟨(blk_cell BK336.out 0).trans rfl, (blk_cell BK336.out 1).trans rfl, hx352_0, hx352_1⟩ (fun hHeld => ?_); refine with_tabW spec_DrawIsConcept.tab6 spec_DrawIsConcept.bits6 (fun HT_ HW_ => ?_)
            generalize wc.drew = w35 at HO_6 HO_337001 BK324 BK325 BK336 HI329 HB hx352_0 hx352_1 hHeld ⊢
            refine pure_ (i := 1) (N := some 27) (v := ?_) (a' := ?_) (nb 10 2) rfl rfl (any_of HT_.out (by kernel_rfl)) (fun _ _ _ h => h) (Or.inl ⟨by rfl, ?_⟩) ?_ ?_
            rotate_left
            · intro w'
              go_simp
              with_reducible rfl
            rotate_left
            · simp only [Act.put, List.setIfInBounds_toArray, List.set_cons_zero, List.set_cons_succ, i64_w, i32_w]
              rfl
            refine pure_ (i := 2) (N := some 28) (v := ?_) (a' := ?_) (nb 10 6) rfl rfl (any_of HT_.out (by kernel_rfl)) (fun _ _ _ h => h) (Or.inl ⟨by rfl, ?_⟩) ?_ ?_
            rotate_left
            · intro w'
              go_simp
              with_reducible rfl
            rotate_left
            · simp only [Act.put, List.setIfInBounds_toArray, List.set_cons_zero, List.set_cons_succ, i64_w, i32_w]
              rfl
            refine pure_ (i := 3) (N := some 29) (v := ?_) (a' := ?_) (nb 10 14) rfl rfl (any_of HT_.out (by kernel_rfl)) (fun _ _ _ h => h) (Or.inl ⟨by rfl, ?_⟩) ?_ ?_
            rotate_left
            · intro w'
              go_simp
              with_reducible rfl
            rotate_left
            · simp only [Act.put, List.setIfInBounds_toArray, List.set_cons_zero, List.set_cons_succ, i64_w, i32_w]
              rfl
            refine pure_ (i := 4) (N := some 30) (v := ?_) (a' := ?_) (nb 10 30) rfl rfl (any_of HT_.out (by kernel_rfl)) (fun _ _ _ h => h) (Or.inl ⟨by rfl, ?_⟩) ?_ ?_
            rotate_left
            · intro w'
              go_simp
              with_reducible rfl
            rotate_left
            · simp only [Act.put, List.setIfInBounds_toArray, List.set_cons_zero, List.set_cons_succ, i64_w, i32_w]
              rfl
            refine take_ (i := 0) (N := some 26) (v := ?_) (a' := ?_) (nb 10 31) rfl rfl (take_ofW HT_.out HW_.out (by kernel_rfl)) (fun _ _ _ h => h) (Or.inl ⟨by rfl, ?_⟩) hHeld ?_ ?_
            rotate_left
            · rintro w' ⟨s0, s1, s2, s3⟩
              go_simp
              with_reducible rfl
            rotate_left
            · simp only [Act.put, List.setIfInBounds_toArray, List.set_cons_zero, List.set_cons_succ, i64_w, i32_w]
              rfl
            refine one_ (i := 5) (N := some 31) (nb 10 63) rfl rfl (one_of HT_.out (by kernel_rfl)) (by decide) (fun K hK => ?_)
            refine goes_ Tryz.func38 (by kernel_rfl) rfl #[.pointer (some ⟨g329, 0, none⟩), .int .i64 (t337.length : Int)] (by rfl) rfl rfl gL_ ?_
            with_reducible refine (spec_l1Below.calls g329 t326 x330001_4 x330002_4 (t337.length : Int) t349 t350 t351 w _ ?side1 ?side2 A32.out).mono ?_
            (case side1 => exact hI63_HI329)
            (case side2 => exact hC63_)
            rintro e w37 ⟨rfl, hi, hb, hk⟩
            have HS2_ := keep_cell hk (hHeld.2.2.1) (by first | (rw [add_block]; exact Kd.own_blk (IsS63.own_ne HI329.out HO_6.out (by decide))) | (show (Addr.add _ _).block ≠ _; rw [add_block]; exact Kd.own_blk (IsS63.own_ne HI329.out HO_6.out (by decide))) | exact Kd.own_blk (IsS63.own_ne HI329.out HO_6.out (by decide)))
            have HS3_ := keep_cell hk (hHeld.2.2.2) (by first | (rw [add_block]; exact Kd.own_blk (IsS63.own_ne HI329.out HO_6.out (by decide))) | (show (Addr.add _ _).block ≠ _; rw [add_block]; exact Kd.own_blk (IsS63.own_ne HI329.out HO_6.out (by decide))) | exact Kd.own_blk (IsS63.own_ne HI329.out HO_6.out (by decide)))
            refine ⟨_, rfl, ?_⟩
            replace HO_6 := Aside0.mk (Kd.R_mono (Kd.R_keep (IsS63.apart (show IsS63 w _ g329 t326 x330001_4 x330002_4 from hI63_HI329) (rW HO_6.out) (by decide)) hk (fun _ h => h.2)) (fun _ h => h.1))
            replace HO_337001 := Aside0.mk (Kd.R_mono (Kd.R_keep (IsS63.apart (show IsS63 w _ g329 t326 x330001_4 x330002_4 from hI63_HI329) (rW HO_337001.out) (by decide)) hk (fun _ h => h.2)) (fun _ h => h.1))
            replace BK324 := kK hk BK324 NB324_329
            replace BK325 := kK hk BK325 NB325_329
            replace BK336 := kK hk BK336 NB336_329
            replace HB := Aside0.mk (hb)
            replace HI329 := Aside0.mk (hi)
            (try clear hb)
            (try clear hb2)
            (try clear hk)
            (try clear hi)
            refine hK.out _ _ ⟨(blk_cell BK336.out 0).trans rfl, (blk_cell BK336.out 1).trans rfl, HS2_, HS3_⟩ (fun hHeld => ?_)
            clear hK K
            refine norm_ (a' := ?_) ?_ ?_
            rotate_left
            · show Act.put _ (some 31) _ = _
              simp only [Act.put, List.setIfInBounds_toArray, List.set_cons_zero, List.set_cons_succ, i64_w, i32_w]
              rfl
            refine pure_ (i := 6) (N := some 32) (v := ?_) (a' := ?_) (nb 10 127) rfl rfl (any_of HT_.out (by kernel_rfl)) (fun _ _ _ h => h) (Or.inl ⟨by rfl, ?_⟩) ?_ ?_
            rotate_left
            · intro w'
              go_simp
              with_reducible rfl
            rotate_left
            · simp only [Act.put, List.setIfInBounds_toArray, List.set_cons_zero, List.set_cons_succ, i64_w, i32_w]
              rfl
            refine take_ (i := 7) (N := some 33) (v := ?_) (a' := ?_) (nb 10 255) rfl rfl (take_ofW HT_.out HW_.out (by kernel_rfl)) (fun _ _ _ h => h) (Or.inl ⟨by rfl, ?_⟩) hHeld ?_ ?_
            rotate_left
            · rintro w' ⟨s0, s1, s2, s3⟩
              go_simp
              with_reducible rfl
            rotate_left
            · simp only [Act.put, List.setIfInBounds_toArray, List.set_cons_zero, List.set_cons_succ, i64_w, i32_w]
              rfl
            refine one_ (i := 8) (N := none) (nb 10 511) rfl rfl (one_of HT_.out (by kernel_rfl)) (by decide) (fun K hK => ?_)
            have hs38 : w37.cell? ⟨gb324, 0, none⟩ = some (.int .i64 0) := (blk_cell BK324.out 0).trans rfl
            have hfs38 := blk_frozen BK324.out 0
            have hns38_1 := NB325_324.out
            have hns38_2 := NB336_324.out
            have hms38_1 := NB324_325.out
            have hms38_2 := NB324_336.out
            have hs39 : w37.cell? ⟨gb324, 1, none⟩ = some (.slice none 0 0) := (blk_cell BK324.out 1).trans rfl
            have hfs39 := blk_frozen BK324.out 1
            have hns39_1 := NB325_324.out
            have hns39_2 := NB336_324.out
            have hms39_1 := NB324_325.out
            have hms39_2 := NB324_336.out
            refine skip_ (w1 := ?_) (by rfl) rfl ?_ ?_
            rotate_left
            · go_simp
              rfl
            refine hK.out _ _ ⟨((cell_far (p := ⟨gb324, _, none⟩) NB336_324.out _).trans (((cell_far (p := ⟨gb324, _, none⟩) NB336_324.out _).trans (hHeld.1)))), ((cell_far (p := ⟨gb324, _, none⟩) NB336_324.out _).trans (((cell_far (p := ⟨gb324, _, none⟩) NB336_324.out _).trans (hHeld.2.1)))), ((cell_far (p := ⟨gb324, _, none⟩) (by first | exact Kd.own_blk (Kd.R_ne HO_6.out BK324.out (by decide)) | (rw [add_block]; exact Kd.own_blk (Kd.R_ne HO_6.out BK324.out (by decide))) | (show (Addr.add _ _).block ≠ _; rw [add_block]; exact Kd.own_blk (Kd.R_ne HO_6.out BK324.out (by decide))) | (dsimp only; exact Kd.own_blk (Kd.R_ne HO_6.out BK324.out (by decide)))) _).trans (((cell_far (p := ⟨gb324, _, none⟩) (by first | exact Kd.own_blk (Kd.R_ne HO_6.out BK324.out (by decide)) | (rw [add_block]; exact Kd.own_blk (Kd.R_ne HO_6.out BK324.out (by decide))) | (show (Addr.add _ _).block ≠ _; rw [add_block]; exact Kd.own_blk (Kd.R_ne HO_6.out BK324.out (by decide))) | (dsimp only; exact Kd.own_blk (Kd.R_ne HO_6.out BK324.out (by decide)))) _).trans (hHeld.2.2.1)))), ((cell_far (p := ⟨gb324, _, none⟩) (by first | exact Kd.own_blk (Kd.R_ne HO_6.out BK324.out (by decide)) | (rw [add_block]; exact Kd.own_blk (Kd.R_ne HO_6.out BK324.out (by decide))) | (show (Addr.add _ _).block ≠ _; rw [add_block]; exact Kd.own_blk (Kd.R_ne HO_6.out BK324.out (by decide))) | (dsimp only; exact Kd.own_blk (Kd.R_ne HO_6.out BK324.out (by decide)))) _).trans (((cell_far (p := ⟨gb324, _, none⟩) (by first | exact Kd.own_blk (Kd.R_ne HO_6.out BK324.out (by decide)) | (rw [add_block]; exact Kd.own_blk (Kd.R_ne HO_6.out BK324.out (by decide))) | (show (Addr.add _ _).block ≠ _; rw [add_block]; exact Kd.own_blk (Kd.R_ne HO_6.out BK324.out (by decide))) | (dsimp only; exact Kd.own_blk (Kd.R_ne HO_6.out BK324.out (by decide)))) _).trans (hHeld.2.2.2))))⟩ (fun hHeld => ?_)
            clear hK K
            refine one_ (i := 9) (N := none) (nb 10 1023) rfl rfl (one_of HT_.out (by kernel_rfl)) (by decide) (fun K hK => ?_)
            have hs40 : w37.cell? ⟨gb325, 0, none⟩ = some (.int .i64 0) := (blk_cell BK325.out 0).trans rfl
            have hfs40 := blk_frozen BK325.out 0
            have hns40_0 := NB324_325.out
            have hns40_2 := NB336_325.out
            have hms40_0 := NB325_324.out
            have hms40_2 := NB325_336.out
            have hs41 : w37.cell? ⟨gb325, 1, none⟩ = some (.int .i64 0) := (blk_cell BK325.out 1).trans rfl
            have hfs41 := blk_frozen BK325.out 1
            have hns41_0 := NB324_325.out
            have hns41_2 := NB336_325.out
            have hms41_0 := NB325_324.out
            have hms41_2 := NB325_336.out
            refine skip_ (w1 := ?_) (by rfl) rfl ?_ ?_
            rotate_left
            · go_simp
              rfl
            refine hK.out _ _ ⟨((cell_far (p := ⟨gb325, _, none⟩) NB336_325.out _).trans (((cell_far (p := ⟨gb325, _, none⟩) NB336_325.out _).trans (hHeld.1)))), ((cell_far (p := ⟨gb325, _, none⟩) NB336_325.out _).trans (((cell_far (p := ⟨gb325, _, none⟩) NB336_325.out _).trans (hHeld.2.1)))), ((cell_far (p := ⟨gb325, _, none⟩) (by first | exact Kd.own_blk (Kd.R_away HO_6.out (fun _ hk => hk)) | (rw [add_block]; exact Kd.own_blk (Kd.R_away HO_6.out (fun _ hk => hk))) | (show (Addr.add _ _).block ≠ _; rw [add_block]; exact Kd.own_blk (Kd.R_away HO_6.out (fun _ hk => hk))) | (dsimp only; exact Kd.own_blk (Kd.R_away HO_6.out (fun _ hk => hk)))) _).trans (((cell_far (p := ⟨gb325, _, none⟩) (by first | exact Kd.own_blk (Kd.R_away HO_6.out (fun _ hk => hk)) | (rw [add_block]; exact Kd.own_blk (Kd.R_away HO_6.out (fun _ hk => hk))) | (show (Addr.add _ _).block ≠ _; rw [add_block]; exact Kd.own_blk (Kd.R_away HO_6.out (fun _ hk => hk))) | (dsimp only; exact Kd.own_blk (Kd.R_away HO_6.out (fun _ hk => hk)))) _).trans (hHeld.2.2.1)))), ((cell_far (p := ⟨gb325, _, none⟩) (by first | exact Kd.own_blk (Kd.R_away HO_6.out (fun _ hk => hk)) | (rw [add_block]; exact Kd.own_blk (Kd.R_away HO_6.out (fun _ hk => hk))) | (show (Addr.add _ _).block ≠ _; rw [add_block]; exact Kd.own_blk (Kd.R_away HO_6.out (fun _ hk => hk))) | (dsimp only; exact Kd.own_blk (Kd.R_away HO_6.out (fun _ hk => hk)))) _).trans (((cell_far (p := ⟨gb325, _, none⟩) (by first | exact Kd.own_blk (Kd.R_away HO_6.out (fun _ hk => hk)) | (rw [add_block]; exact Kd.own_blk (Kd.R_away HO_6.out (fun _ hk => hk))) | (show (Addr.add _ _).block ≠ _; rw [add_block]; exact Kd.own_blk (Kd.R_away HO_6.out (fun _ hk => hk))) | (dsimp only; exact Kd.own_blk (Kd.R_away HO_6.out (fun _ hk => hk)))) _).trans (hHeld.2.2.2))))⟩ (fun hHeld => ?_)
            clear hK K
            refine done_ (done_of HT_.out (by kernel_rfl)) ?_
            try go_wp2
            refine bodyPost_ret (results_cc rfl _ _ gb324 gb325 26 31 #[.int .i64 t330, .slice Ao15 t331.length co15] #[.int .i64 ((rd_T31 t337 t349).f0), .int .i64 ((rd_T31 t337 t349).f1)] (0, 0) (0, 0) _ _ rfl (qF NB324_325 (qF NB324_325 (qP (qP BK324)))).out Tryz.underlying26 rfl (by kernel_rfl) rfl (qP (qP (qF NB325_324 (qF NB325_324 BK325)))).out Tryz.underlying31 rfl (by kernel_rfl)) rfl ?_
            exact ⟨_, eR_, by (with_reducible repeat (first | apply Kd.R_alloc | apply Kd.R_drewN | apply Kd.R_drew)); exact Kd.R_mono (Kd.R_far (p := ⟨gb325, 1, none⟩) (Kd.R_far (p := ⟨gb325, 0, none⟩) (Kd.R_far (p := ⟨gb324, 1, none⟩) (Kd.R_far (p := ⟨gb324, 0, none⟩) (Kd.R_types (Kd.R_types HO_337001.out BK324.out (by decide)) BK325.out (by decide)) (fun _ hk => hk.1.2) (.int .i64 t330)) (fun _ hk => hk.1.2) (.slice Ao15 t331.length co15)) (fun _ hk => hk.2) (.int .i64 ((rd_T31 t337 t349).f0))) (fun _ hk => hk.2) (.int .i64 ((rd_T31 t337 t349).f1))) (fun _ hk => trivial), hC63_⟩
          · rw [if_neg c34] at H
            exact absurd H (by simp)
        · rw [if_neg c33] at H
          exact absurd H (by simp)

/-! ### spec_l4Attributes: function 39 -/
def spec_l4Attributes.f (k : Nat) (l0 : List Int) : Option (Int × List Int × Int) := (spec_l1New.f k l0).bind fun bt354 => ((spec_l3Draw.f k bt354.1 bt354.2.1 bt354.2.2).bind fun bt358 => (if 0 ≤ (IntKind.u64.wrap (bt358.1)) then ((spec_l1Below.f bt354.1 bt358.2.2.1 bt358.2.2.2 (shl .i64 1 (IntKind.u64.wrap (bt358.1)))).bind fun bt365 => ((spec_l1Below.f bt354.1 bt365.2.1 bt365.2.2 16).bind fun bt368 => (if bt368.1 = 0 then ((spec_l3Bent.f k bt354.1 bt368.2.1 bt368.2.2).bind fun bt371 => (some (bt371.1, bt371.2.1, bt365.1))) else (if bt368.1 = 1 then ((spec_l2Bent.f bt354.1 bt368.2.1 bt368.2.2).bind fun bt377 => (some (bt358.1, bt358.2.1, bt377.1))) else (some (bt358.1, bt358.2.1, bt365.1)))))) else (none)))
theorem spec_l4Attributes.mono : ∀ a0 k, LeO (spec_l4Attributes.f k a0) (spec_l4Attributes.f (k + 1) a0) := by
  intro a0 k
  unfold spec_l4Attributes.f
  repeat' first
      | (with_reducible exact spec_l1New.mono _ _)
      | (with_reducible exact spec_l3Bent.mono _ _ _ _)
      | (with_reducible exact spec_l3Draw.mono _ _ _ _)
      | (with_reducible exact LeO.refl _)
      | (with_reducible exact LeO.none _)
      | (with_reducible refine LeO.ite ?_ ?_)
      | (with_reducible refine LeO.bind ?_ (fun _ => ?_))
      | exact spec_l1New.mono _ _
      | exact spec_l3Bent.mono _ _ _ _
      | exact spec_l3Draw.mono _ _ _ _
      | exact LeO.none _
      | refine LeO.ite ?_ ?_
      | refine LeO.bind ?_ (fun _ => ?_)
set_option maxHeartbeats 8000000 in
set_option maxRecDepth 100000 in
theorem spec_l4Attributes.calls (k : Nat) (A0 : Option Addr) (c0 : Nat) (l0 : List Int) (r1 : Int) (r2 : List Int) (r3 : Int) (w : World) (hr0 : Kd.C (Kd.int .u8) w A0 l0.length l0) (hc0 : l0.length ≤ c0) (h : spec_l4Attributes.f k l0 = some (r1, r2, r3)) :
    Calls Tryz.prog 39 #[.slice A0 l0.length c0] w fun e w' => ∃ v1_ : Value, e = .returned (.tuple #[.agg #[.int .i64 r1, v1_], .int .i64 r3]) ∧ Kd.R (Kd.int .i64) 3 w' w.heap.size (fun _ => True) v1_ r2 ∧ Below w.heap.size w w' := by
  have hu26 := Tryz.underlying26
  have HR0 := Aside0.mk hr0
  have HC0 := Aside0.mk hc0
  clear hr0 hc0
  have HB := Aside0.mk (Below.refl w.heap.size w)
  have H : ((spec_l1New.f k l0).bind fun bt354 => ((spec_l3Draw.f k bt354.1 bt354.2.1 bt354.2.2).bind fun bt358 => (if 0 ≤ (IntKind.u64.wrap (bt358.1)) then ((spec_l1Below.f bt354.1 bt358.2.2.1 bt358.2.2.2 (shl .i64 1 (IntKind.u64.wrap (bt358.1)))).bind fun bt365 => ((spec_l1Below.f bt354.1 bt365.2.1 bt365.2.2 16).bind fun bt368 => (if bt368.1 = 0 then ((spec_l3Bent.f k bt354.1 bt368.2.1 bt368.2.2).bind fun bt371 => (some (bt371.1, bt371.2.1, bt365.1))) else (if bt368.1 = 1 then ((spec_l2Bent.f bt354.1 bt368.2.1 bt368.2.2).bind fun bt377 => (some (bt358.1, bt358.2.1, bt377.1))) else (some (bt358.1, bt358.2.1, bt365.1)))))) else (none)))) = some (r1, r2, r3) := h
  clear h
  replace H := aB H
  obtain ⟨⟨t354, t355, t356⟩, A2, H⟩ := H
  dsimp only at H
  replace H := aB H
  obtain ⟨⟨t358, t359, t362, t363⟩, A3, H⟩ := H
  dsimp only at H
  obtain ⟨ji4, hji4⟩ : ∃ j_ : Int, (IntKind.u64.wrap (t358)) = j_ := ⟨_, rfl⟩
  replace H : (if 0 ≤ (ji4) then ((spec_l1Below.f t354 t362 t363 (shl .i64 1 (ji4))).bind fun bt365 => ((spec_l1Below.f t354 bt365.2.1 bt365.2.2 16).bind fun bt368 => (if bt368.1 = 0 then ((spec_l3Bent.f k t354 bt368.2.1 bt368.2.2).bind fun bt371 => (some (bt371.1, bt371.2.1, bt365.1))) else (if bt368.1 = 1 then ((spec_l2Bent.f t354 bt368.2.1 bt368.2.2).bind fun bt377 => (some (t358, t359, bt377.1))) else (some (t358, t359, bt365.1)))))) else (none)) = some (r1, r2, r3) := by first | (rw [hji4] at H; exact H) | (simp only [hji4] at H ⊢; exact H)
  (try rw [hji4] at A2)
  (try rw [hji4] at A3)
  by_cases c5 : 0 ≤ (ji4)
  · rw [if_pos c5] at H
    have c5b0 := eq_true c5
    have c5b1 : decide (0 ≤ (ji4)) = true := decide_eq_true c5
    clear c5
    obtain ⟨ji6, hji6⟩ : ∃ j_ : Int, (shl .i64 1 (ji4)) = j_ := ⟨_, rfl⟩
    replace H : ((spec_l1Below.f t354 t362 t363 (ji6)).bind fun bt365 => ((spec_l1Below.f t354 bt365.2.1 bt365.2.2 16).bind fun bt368 => (if bt368.1 = 0 then ((spec_l3Bent.f k t354 bt368.2.1 bt368.2.2).bind fun bt371 => (some (bt371.1, bt371.2.1, bt365.1))) else (if bt368.1 = 1 then ((spec_l2Bent.f t354 bt368.2.1 bt368.2.2).bind fun bt377 => (some (t358, t359, bt377.1))) else (some (t358, t359, bt365.1)))))) = some (r1, r2, r3) := by first | (rw [hji6] at H; exact H) | (simp only [hji6] at H ⊢; exact H)
    (try rw [hji6] at A2)
    (try rw [hji6] at A3)
    have hji6_ : (IntKind.i64.wrap (1 * 2 ^ min (ji4).toNat 64)) = ji6 := hji6
    have hji6z : (ji4) ≤ 64 → (IntKind.i64.wrap (1 * 2 ^ (ji4).toNat)) = ji6 := shl_small hji6
    have hji6u : (IntKind.i64.wrap (2 ^ min (ji4).toNat 64)) = ji6 := by have h_ := hji6_; rw [Int.one_mul] at h_; exact h_
    have hji6v : (ji4) ≤ 64 → (IntKind.i64.wrap (2 ^ (ji4).toNat)) = ji6 := fun hle_ => by have h_ := hji6z hle_; rw [Int.one_mul] at h_; exact h_
    have hji6y : (wrap64 (1 * 2 ^ min (ji4).toNat 64)) = ji6 := (i64_w _).symm.trans hji6_
    have hji6x : (ji4) ≤ 64 → (wrap64 (1 * 2 ^ (ji4).toNat)) = ji6 := fun h_ => (i64_w _).symm.trans (hji6z h_)
    replace H := aB H
    obtain ⟨⟨t365, t366, t367⟩, A7, H⟩ := H
    dsimp only at H
    replace H := aB H
    obtain ⟨⟨t368, t369, t370⟩, A8, H⟩ := H
    dsimp only at H
    by_cases c9 : t368 = 0
    · rw [if_pos c9] at H
      have c9b0 : (t368 == 0) = true := beq_iff_eq.mpr c9
      have c9b1 : (t368 != 0) = false := bne_eq_false_iff_eq.mpr c9
      clear c9
      replace H := aB H
      obtain ⟨⟨t371, t372, t375, t376⟩, A10, H⟩ := H
      dsimp only at H
      simp only [Option.some.injEq, Prod.mk.injEq] at H
      obtain ⟨rfl, rfl, rfl⟩ := H
      go_enter Tryz.func39, Tryz.ntmps39
      go_wp2_with (first | ((with_reducible refine gate_dst (N := 2) rfl ?_); refine box_event ?hg (N := 2) ?hd (cs := #[.int .i64 0, .slice none 0 0]) (t := 26) ?hr ?_; (case hd => rfl); (case hg => rfl); (case hr => first | (go_simp; done) | (go_simp; rfl)); intro gb353 hg w11 hbox hb; have BK353 := Aside0.mk (hbox); have GW353 := kG HB hg; have GE353 := kG HB hg; replace HB := kH HB hb; clear hb hbox hg) | ((with_reducible refine gate_callee (f := 31) rfl ?_); refine goesL_ (some 8) rfl rfl Tryz.func31 (by kernel_rfl) rfl #[.slice A0 l0.length c0] rfl gL_ ?_; (with_reducible refine (spec_l1New.calls k _ _ l0 t354 t355 t356 w _ ?side1 ?side2 ?side3 A2.out).mono ?_); (case side1 => exact hB_); (case side2 => exact HR0.out); (case side3 => exact HC0.out); rintro e w12 ⟨g357, rfl, hi, hb, hb2⟩; refine ⟨_, rfl, ?_⟩; replace HB := Aside0.mk (hb); have HI357 := Aside0.mk (hi); have NB357_353 := Aside0.mk (IsS63.ne_blk hi (blk_below (g := gb353) (o := .cells #[.int .i64 0, .slice none 0 0] 26 (0, 0)) (bW BK353) hb2) (by decide)); have NB353_357 := Aside0.mk (Ne.symm (IsS63.ne_blk hi (blk_below (g := gb353) (o := .cells #[.int .i64 0, .slice none 0 0] 26 (0, 0)) (bW BK353) hb2) (by decide))); replace BK353 := Aside0.mk (blk_below (g := gb353) (o := .cells #[.int .i64 0, .slice none 0 0] 26 (0, 0)) (bW BK353) hb2); clear hb hb2 hi) | ((with_reducible refine gate_callee (f := 59) rfl ?_); refine goesL_ (some 10) rfl rfl Tryz.func59 (by kernel_rfl) rfl #[.pointer (some ⟨g357, 0, none⟩)] rfl gL_ ?_; (with_reducible refine (spec_l3Draw.calls k g357 t354 t355 t356 t358 t359 t362 t363 w _ ?side1 ?side2 A3.out).mono ?_); (case side1 => exact hI63_HI357); (case side2 => exact hC63_); rintro e w13 ⟨v360, rfl, ho0, hi, hb, hk⟩; refine ⟨_, rfl, ?_⟩; replace BK353 := kK hk BK353 NB353_357; have HO361 := Aside0.mk (Kd.R_lower ho0 (below_size hC63_)); replace HB := Aside0.mk (hb); replace HI357 := Aside0.mk (hi); clear hb hk hi ho0) | ((with_reducible refine gate_dst (N := 5) rfl ?_); refine box_event ?hg (N := 5) ?hd (cs := #[.int .i64 0, .slice none 0 0]) (t := 26) ?hr ?_; (case hd => rfl); (case hg => rfl); (case hr => first | (go_simp; done) | (go_simp; rfl)); intro gb364 hg w14 hbox hb; replace HO361 := kR HO361 hb; have BK364 := Aside0.mk (hbox); have GW364 := Aside0.mk ((by rw [hg]; exact (below_size hC63_) : w.heap.size ≤ gb364)); have GE364 := Aside0.mk ((by rw [hg]; exact (below_size hC63_) : w.heap.size ≤ gb364)); replace HB := Aside0.mk (below_step hC63_ hb); have NB353_364 := kN BK353 hg; have NB364_353 := kM BK353 hg; replace BK353 := kB BK353 hb; have NB357_364 := Aside0.mk ((by rw [hg]; exact Nat.ne_of_lt (IsS63.lt (show IsS63 w _ g357 t354 t362 t363 from hI63_HI357)) : g357 ≠ gb364)); have NB364_357 := Aside0.mk ((by rw [hg]; exact Nat.ne_of_gt (IsS63.lt (show IsS63 w _ g357 t354 t362 t363 from hI63_HI357)) : gb364 ≠ g357)); replace HI357 := Aside0.mk (IsS63.below hI63_HI357 hb); clear hb hbox hg; have hnb15 := NB364_353.out; have hnc15 := NB353_364.out; have hnb16 := NB364_357.out; have hnc16 := NB357_364.out; have hcz17_0 : w14.cell? ⟨gb364, 0, none⟩ = some (.int .i64 0) := (blk_cell BK364.out 0).trans rfl; have hcz17_1 : w14.cell? ⟨gb364, 1, none⟩ = some (.slice none 0 0) := (blk_cell BK364.out 1).trans rfl; have hfz17_0 := blk_frozen BK364.out 0; have hfz17_1 := blk_frozen BK364.out 1; obtain ⟨Ao18, co18, eo18⟩ := Kd.R_slice HO361.out; subst eo18) | ((with_reducible refine gate_callee (f := 38) rfl ?_); refine goesL_ (some 16) rfl rfl Tryz.func38 (by kernel_rfl) rfl #[.pointer (some ⟨g357, 0, none⟩), .int .i64 ji6] rfl (by (try simp only [List.map_toArray, List.map_cons, List.map_nil]); first | done | (simp only [hji6]; rfl) | rfl | (simp only [List.length_drop, List.length_take]; rfl)) ?_; (with_reducible refine (spec_l1Below.calls g357 t354 t362 t363 ji6 t365 t366 t367 w _ ?side1 ?side2 A7.out).mono ?_); (case side1 => exact hI63_HI357); (case side2 => exact hC63_); rintro e w19 ⟨rfl, hi, hb, hk⟩; refine ⟨_, rfl, ?_⟩; replace BK353 := Aside0.mk (KeepBut.blk hk (g' := gb353) (o := .cells #[.int .i64 0, .slice none 0 0] 26 (0, 0)) (qF NB353_364 (qF NB353_364 BK353)).out NB353_357.out (by simp)); replace HO361 := Aside0.mk (Kd.R_mono (Kd.R_keep (IsS63.apart (show IsS63 w _ g357 t354 t362 t363 from hI63_HI357) (rW (kT HO361 BK364).out) (by decide)) hk (fun _ h => h.2)) (fun _ h => h.1)); replace BK364 := Aside0.mk (KeepBut.blk hk (g' := gb364) (o := .cells #[.int .i64 t358, .slice Ao18 t359.length co18] 26 (0, 0)) (qP (qP BK364)).out NB364_357.out (by simp)); replace HB := Aside0.mk (hb); replace HI357 := Aside0.mk (hi); clear hb hk hi) | ((with_reducible refine gate_callee (f := 38) rfl ?_); refine goesL_ (some 18) rfl rfl Tryz.func38 (by kernel_rfl) rfl #[.pointer (some ⟨g357, 0, none⟩), .int .i64 16] rfl gL_ ?_; (with_reducible refine (spec_l1Below.calls g357 t354 t366 t367 16 t368 t369 t370 w _ ?side1 ?side2 A8.out).mono ?_); (case side1 => exact hI63_HI357); (case side2 => exact hC63_); rintro e w20 ⟨rfl, hi, hb, hk⟩; refine ⟨_, rfl, ?_⟩; replace BK353 := kK hk BK353 NB353_357; replace HO361 := Aside0.mk (Kd.R_mono (Kd.R_keep (IsS63.apart (show IsS63 w _ g357 t354 t366 t367 from hI63_HI357) (rW HO361.out) (by decide)) hk (fun _ h => h.2)) (fun _ h => h.1)); replace BK364 := kK hk BK364 NB364_357; replace HB := Aside0.mk (hb); replace HI357 := Aside0.mk (hi); clear hb hk hi) | ((with_reducible refine gate_callee (f := 30) rfl ?_); refine goesL_ (some 22) rfl rfl Tryz.func30 (by kernel_rfl) rfl #[.pointer (some ⟨g357, 0, none⟩)] rfl gL_ ?_; (with_reducible refine (spec_l3Bent.calls k g357 t354 t369 t370 t371 t372 t375 t376 w _ ?side1 ?side2 A10.out).mono ?_); (case side1 => exact hI63_HI357); (case side2 => exact hC63_); rintro e w21 ⟨v373, rfl, ho0, hi, hb, hk⟩; refine ⟨_, rfl, ?_⟩; replace BK353 := kK hk BK353 NB353_357; replace BK364 := kK hk BK364 NB364_357; have HO374 := Aside0.mk (Kd.R_lower (Kd.R_new' ho0 (Kd.R_lt (rW HO361.out))) (below_size hC63_)); replace HO361 := Aside0.mk (Kd.R_mono (Kd.R_told (Kd.R_oldK (IsS63.apart (show IsS63 w _ g357 t354 t369 t370 from hI63_HI357) (rW HO361.out) (by decide)) hk) (Kd.R_base ho0)) (fun _ h_ => h_.1)); replace HB := Aside0.mk (hb); replace HI357 := Aside0.mk (hi); clear hb hk hi ho0; have hcz22_0 : w21.cell? ⟨gb364, 0, none⟩ = some (.int .i64 t358) := (blk_cell BK364.out 0).trans rfl; have hcz22_1 : w21.cell? ⟨gb364, 1, none⟩ = some (.slice Ao18 t359.length co18) := (blk_cell BK364.out 1).trans rfl; have hfz22_0 := blk_frozen BK364.out 0; have hfz22_1 := blk_frozen BK364.out 1; obtain ⟨Ao23, co23, eo23⟩ := Kd.R_slice HO374.out; subst eo23; have hnb24 := NB353_357.out; have hnc24 := NB357_353.out; have hcz25_0 : w21.cell? ⟨gb353, 0, none⟩ = some (.int .i64 0) := (blk_cell BK353.out 0).trans rfl; have hcz25_1 : w21.cell? ⟨gb353, 1, none⟩ = some (.slice none 0 0) := (blk_cell BK353.out 1).trans rfl; have hfz25_0 := blk_frozen BK353.out 0; have hfz25_1 := blk_frozen BK353.out 1))
      refine bodyPost_ret (results_ct rfl _ _ gb353 26 #[.int .i64 t371, .slice Ao23 t372.length co23] (0, 0) _ rfl (qP (qP (qF NB353_364 (qF NB353_364 BK353)))).out Tryz.underlying26 rfl (by kernel_rfl)) rfl ?_
      exact ⟨_, by first | rfl | (simp [errW_none, errW_some] <;> rfl) | (simp only [← hji4, ← hji6]; first | rfl | (simp [errW_none, errW_some] <;> rfl)) | (simp [*, errW_none, errW_some] <;> rfl), by (with_reducible repeat (first | apply Kd.R_alloc | apply Kd.R_drewN | apply Kd.R_drew)); exact Kd.R_mono (Kd.R_far (p := ⟨gb353, 1, none⟩) (Kd.R_far (p := ⟨gb353, 0, none⟩) (Kd.R_far (p := ⟨gb364, 1, none⟩) (Kd.R_far (p := ⟨gb364, 0, none⟩) (Kd.R_types (Kd.R_types HO374.out BK364.out (by decide)) BK353.out (by decide)) (fun _ hk => hk.1.2) (.int .i64 t371)) (fun _ hk => hk.1.2) (.slice Ao23 t372.length co23)) (fun _ hk => hk.2) (.int .i64 t371)) (fun _ hk => hk.2) (.slice Ao23 t372.length co23)) (fun _ hk => trivial), hC63_⟩
    · rw [if_neg c9] at H
      have c9b0 : (t368 == 0) = false := beq_eq_false_iff_ne.mpr c9
      have c9b1 : (t368 != 0) = true := bne_iff_ne.mpr c9
      by_cases c26 : t368 = 1
      · rw [if_pos c26] at H
        have c26b0 : (t368 == 1) = true := beq_iff_eq.mpr c26
        have c26b1 : (t368 != 1) = false := bne_eq_false_iff_eq.mpr c26
        clear c26
        replace H := aB H
        obtain ⟨⟨t377, t378, t379⟩, A27, H⟩ := H
        dsimp only at H
        simp only [Option.some.injEq, Prod.mk.injEq] at H
        obtain ⟨rfl, rfl, rfl⟩ := H
        go_enter Tryz.func39, Tryz.ntmps39
        go_wp2_with (first | ((with_reducible refine gate_dst (N := 2) rfl ?_); refine box_event ?hg (N := 2) ?hd (cs := #[.int .i64 0, .slice none 0 0]) (t := 26) ?hr ?_; (case hd => rfl); (case hg => rfl); (case hr => first | (go_simp; done) | (go_simp; rfl)); intro gb353 hg w28 hbox hb; have BK353 := Aside0.mk (hbox); have GW353 := kG HB hg; have GE353 := kG HB hg; replace HB := kH HB hb; clear hb hbox hg) | ((with_reducible refine gate_callee (f := 31) rfl ?_); refine goesL_ (some 8) rfl rfl Tryz.func31 (by kernel_rfl) rfl #[.slice A0 l0.length c0] rfl gL_ ?_; (with_reducible refine (spec_l1New.calls k _ _ l0 t354 t355 t356 w _ ?side1 ?side2 ?side3 A2.out).mono ?_); (case side1 => exact hB_); (case side2 => exact HR0.out); (case side3 => exact HC0.out); rintro e w29 ⟨g357, rfl, hi, hb, hb2⟩; refine ⟨_, rfl, ?_⟩; replace HB := Aside0.mk (hb); have HI357 := Aside0.mk (hi); have NB357_353 := Aside0.mk (IsS63.ne_blk hi (blk_below (g := gb353) (o := .cells #[.int .i64 0, .slice none 0 0] 26 (0, 0)) (bW BK353) hb2) (by decide)); have NB353_357 := Aside0.mk (Ne.symm (IsS63.ne_blk hi (blk_below (g := gb353) (o := .cells #[.int .i64 0, .slice none 0 0] 26 (0, 0)) (bW BK353) hb2) (by decide))); replace BK353 := Aside0.mk (blk_below (g := gb353) (o := .cells #[.int .i64 0, .slice none 0 0] 26 (0, 0)) (bW BK353) hb2); clear hb hb2 hi) | ((with_reducible refine gate_callee (f := 59) rfl ?_); refine goesL_ (some 10) rfl rfl Tryz.func59 (by kernel_rfl) rfl #[.pointer (some ⟨g357, 0, none⟩)] rfl gL_ ?_; (with_reducible refine (spec_l3Draw.calls k g357 t354 t355 t356 t358 t359 t362 t363 w _ ?side1 ?side2 A3.out).mono ?_); (case side1 => exact hI63_HI357); (case side2 => exact hC63_); rintro e w30 ⟨v360, rfl, ho0, hi, hb, hk⟩; refine ⟨_, rfl, ?_⟩; replace BK353 := kK hk BK353 NB353_357; have HO361 := Aside0.mk (Kd.R_lower ho0 (below_size hC63_)); replace HB := Aside0.mk (hb); replace HI357 := Aside0.mk (hi); clear hb hk hi ho0) | ((with_reducible refine gate_dst (N := 5) rfl ?_); refine box_event ?hg (N := 5) ?hd (cs := #[.int .i64 0, .slice none 0 0]) (t := 26) ?hr ?_; (case hd => rfl); (case hg => rfl); (case hr => first | (go_simp; done) | (go_simp; rfl)); intro gb364 hg w31 hbox hb; replace HO361 := kR HO361 hb; have BK364 := Aside0.mk (hbox); have GW364 := Aside0.mk ((by rw [hg]; exact (below_size hC63_) : w.heap.size ≤ gb364)); have GE364 := Aside0.mk ((by rw [hg]; exact (below_size hC63_) : w.heap.size ≤ gb364)); replace HB := Aside0.mk (below_step hC63_ hb); have NB353_364 := kN BK353 hg; have NB364_353 := kM BK353 hg; replace BK353 := kB BK353 hb; have NB357_364 := Aside0.mk ((by rw [hg]; exact Nat.ne_of_lt (IsS63.lt (show IsS63 w _ g357 t354 t362 t363 from hI63_HI357)) : g357 ≠ gb364)); have NB364_357 := Aside0.mk ((by rw [hg]; exact Nat.ne_of_gt (IsS63.lt (show IsS63 w _ g357 t354 t362 t363 from hI63_HI357)) : gb364 ≠ g357)); replace HI357 := Aside0.mk (IsS63.below hI63_HI357 hb); clear hb hbox hg; have hnb32 := NB364_353.out; have hnc32 := NB353_364.out; have hnb33 := NB364_357.out; have hnc33 := NB357_364.out; have hcz34_0 : w31.cell? ⟨gb364, 0, none⟩ = some (.int .i64 0) := (blk_cell BK364.out 0).trans rfl; have hcz34_1 : w31.cell? ⟨gb364, 1, none⟩ = some (.slice none 0 0) := (blk_cell BK364.out 1).trans rfl; have hfz34_0 := blk_frozen BK364.out 0; have hfz34_1 := blk_frozen BK364.out 1; obtain ⟨Ao35, co35, eo35⟩ := Kd.R_slice HO361.out; subst eo35) | ((with_reducible refine gate_callee (f := 38) rfl ?_); refine goesL_ (some 16) rfl rfl Tryz.func38 (by kernel_rfl) rfl #[.pointer (some ⟨g357, 0, none⟩), .int .i64 ji6] rfl (by (try simp only [List.map_toArray, List.map_cons, List.map_nil]); first | done | (simp only [hji6]; rfl) | rfl | (simp only [List.length_drop, List.length_take]; rfl)) ?_; (with_reducible refine (spec_l1Below.calls g357 t354 t362 t363 ji6 t365 t366 t367 w _ ?side1 ?side2 A7.out).mono ?_); (case side1 => exact hI63_HI357); (case side2 => exact hC63_); rintro e w36 ⟨rfl, hi, hb, hk⟩; refine ⟨_, rfl, ?_⟩; replace BK353 := Aside0.mk (KeepBut.blk hk (g' := gb353) (o := .cells #[.int .i64 0, .slice none 0 0] 26 (0, 0)) (qF NB353_364 (qF NB353_364 BK353)).out NB353_357.out (by simp)); replace HO361 := Aside0.mk (Kd.R_mono (Kd.R_keep (IsS63.apart (show IsS63 w _ g357 t354 t362 t363 from hI63_HI357) (rW (kT HO361 BK364).out) (by decide)) hk (fun _ h => h.2)) (fun _ h => h.1)); replace BK364 := Aside0.mk (KeepBut.blk hk (g' := gb364) (o := .cells #[.int .i64 t358, .slice Ao35 t359.length co35] 26 (0, 0)) (qP (qP BK364)).out NB364_357.out (by simp)); replace HB := Aside0.mk (hb); replace HI357 := Aside0.mk (hi); clear hb hk hi) | ((with_reducible refine gate_callee (f := 38) rfl ?_); refine goesL_ (some 18) rfl rfl Tryz.func38 (by kernel_rfl) rfl #[.pointer (some ⟨g357, 0, none⟩), .int .i64 16] rfl gL_ ?_; (with_reducible refine (spec_l1Below.calls g357 t354 t366 t367 16 t368 t369 t370 w _ ?side1 ?side2 A8.out).mono ?_); (case side1 => exact hI63_HI357); (case side2 => exact hC63_); rintro e w37 ⟨rfl, hi, hb, hk⟩; refine ⟨_, rfl, ?_⟩; replace BK353 := kK hk BK353 NB353_357; replace HO361 := Aside0.mk (Kd.R_mono (Kd.R_keep (IsS63.apart (show IsS63 w _ g357 t354 t366 t367 from hI63_HI357) (rW HO361.out) (by decide)) hk (fun _ h => h.2)) (fun _ h => h.1)); replace BK364 := kK hk BK364 NB364_357; replace HB := Aside0.mk (hb); replace HI357 := Aside0.mk (hi); clear hb hk hi) | ((with_reducible refine gate_callee (f := 37) rfl ?_); refine goesL_ (some 26) rfl rfl Tryz.func37 (by kernel_rfl) rfl #[.pointer (some ⟨g357, 0, none⟩)] rfl gL_ ?_; (with_reducible refine (spec_l2Bent.calls g357 t354 t369 t370 t377 t378 t379 w _ ?side1 ?side2 A27.out).mono ?_); (case side1 => exact hI63_HI357); (case side2 => exact hC63_); rintro e w38 ⟨rfl, hi, hb, hk⟩; refine ⟨_, rfl, ?_⟩; replace BK353 := kK hk BK353 NB353_357; replace HO361 := Aside0.mk (Kd.R_mono (Kd.R_keep (IsS63.apart (show IsS63 w _ g357 t354 t369 t370 from hI63_HI357) (rW HO361.out) (by decide)) hk (fun _ h => h.2)) (fun _ h => h.1)); replace BK364 := kK hk BK364 NB364_357; replace HB := Aside0.mk (hb); replace HI357 := Aside0.mk (hi); clear hb hk hi; have hcz39_0 : w38.cell? ⟨gb364, 0, none⟩ = some (.int .i64 t358) := (blk_cell BK364.out 0).trans rfl; have hcz39_1 : w38.cell? ⟨gb364, 1, none⟩ = some (.slice Ao35 t359.length co35) := (blk_cell BK364.out 1).trans rfl; have hfz39_0 := blk_frozen BK364.out 0; have hfz39_1 := blk_frozen BK364.out 1; have hnb40 := NB353_357.out; have hnc40 := NB357_353.out; have hcz41_0 : w38.cell? ⟨gb353, 0, none⟩ = some (.int .i64 0) := (blk_cell BK353.out 0).trans rfl; have hcz41_1 : w38.cell? ⟨gb353, 1, none⟩ = some (.slice none 0 0) := (blk_cell BK353.out 1).trans rfl; have hfz41_0 := blk_frozen BK353.out 0; have hfz41_1 := blk_frozen BK353.out 1))
        refine bodyPost_ret (results_ct rfl _ _ gb353 26 #[.int .i64 t358, .slice Ao35 t359.length co35] (0, 0) _ rfl (qP (qP BK353)).out Tryz.underlying26 rfl (by kernel_rfl)) rfl ?_
        exact ⟨_, by first | rfl | (simp [errW_none, errW_some] <;> rfl) | (simp only [← hji4, ← hji6]; first | rfl | (simp [errW_none, errW_some] <;> rfl)) | (simp [*, errW_none, errW_some] <;> rfl), by (with_reducible repeat (first | apply Kd.R_alloc | apply Kd.R_drewN | apply Kd.R_drew)); exact Kd.R_mono (Kd.R_far (p := ⟨gb353, 1, none⟩) (Kd.R_far (p := ⟨gb353, 0, none⟩) (Kd.R_types HO361.out BK353.out (by decide)) (fun _ hk => hk.2) (.int .i64 t358)) (fun _ hk => hk.2) (.slice Ao35 t359.length co35)) (fun _ hk => trivial), hC63_⟩
      · rw [if_neg c26] at H
        have c26b0 : (t368 == 1) = false := beq_eq_false_iff_ne.mpr c26
        have c26b1 : (t368 != 1) = true := bne_iff_ne.mpr c26
        simp only [Option.some.injEq, Prod.mk.injEq] at H
        obtain ⟨rfl, rfl, rfl⟩ := H
        go_enter Tryz.func39, Tryz.ntmps39
        go_wp2_with (first | ((with_reducible refine gate_dst (N := 2) rfl ?_); refine box_event ?hg (N := 2) ?hd (cs := #[.int .i64 0, .slice none 0 0]) (t := 26) ?hr ?_; (case hd => rfl); (case hg => rfl); (case hr => first | (go_simp; done) | (go_simp; rfl)); intro gb353 hg w42 hbox hb; have BK353 := Aside0.mk (hbox); have GW353 := kG HB hg; have GE353 := kG HB hg; replace HB := kH HB hb; clear hb hbox hg) | ((with_reducible refine gate_callee (f := 31) rfl ?_); refine goesL_ (some 8) rfl rfl Tryz.func31 (by kernel_rfl) rfl #[.slice A0 l0.length c0] rfl gL_ ?_; (with_reducible refine (spec_l1New.calls k _ _ l0 t354 t355 t356 w _ ?side1 ?side2 ?side3 A2.out).mono ?_); (case side1 => exact hB_); (case side2 => exact HR0.out); (case side3 => exact HC0.out); rintro e w43 ⟨g357, rfl, hi, hb, hb2⟩; refine ⟨_, rfl, ?_⟩; replace HB := Aside0.mk (hb); have HI357 := Aside0.mk (hi); have NB357_353 := Aside0.mk (IsS63.ne_blk hi (blk_below (g := gb353) (o := .cells #[.int .i64 0, .slice none 0 0] 26 (0, 0)) (bW BK353) hb2) (by decide)); have NB353_357 := Aside0.mk (Ne.symm (IsS63.ne_blk hi (blk_below (g := gb353) (o := .cells #[.int .i64 0, .slice none 0 0] 26 (0, 0)) (bW BK353) hb2) (by decide))); replace BK353 := Aside0.mk (blk_below (g := gb353) (o := .cells #[.int .i64 0, .slice none 0 0] 26 (0, 0)) (bW BK353) hb2); clear hb hb2 hi) | ((with_reducible refine gate_callee (f := 59) rfl ?_); refine goesL_ (some 10) rfl rfl Tryz.func59 (by kernel_rfl) rfl #[.pointer (some ⟨g357, 0, none⟩)] rfl gL_ ?_; (with_reducible refine (spec_l3Draw.calls k g357 t354 t355 t356 t358 t359 t362 t363 w _ ?side1 ?side2 A3.out).mono ?_); (case side1 => exact hI63_HI357); (case side2 => exact hC63_); rintro e w44 ⟨v360, rfl, ho0, hi, hb, hk⟩; refine ⟨_, rfl, ?_⟩; replace BK353 := kK hk BK353 NB353_357; have HO361 := Aside0.mk (Kd.R_lower ho0 (below_size hC63_)); replace HB := Aside0.mk (hb); replace HI357 := Aside0.mk (hi); clear hb hk hi ho0) | ((with_reducible refine gate_dst (N := 5) rfl ?_); refine box_event ?hg (N := 5) ?hd (cs := #[.int .i64 0, .slice none 0 0]) (t := 26) ?hr ?_; (case hd => rfl); (case hg => rfl); (case hr => first | (go_simp; done) | (go_simp; rfl)); intro gb364 hg w45 hbox hb; replace HO361 := kR HO361 hb; have BK364 := Aside0.mk (hbox); have GW364 := Aside0.mk ((by rw [hg]; exact (below_size hC63_) : w.heap.size ≤ gb364)); have GE364 := Aside0.mk ((by rw [hg]; exact (below_size hC63_) : w.heap.size ≤ gb364)); replace HB := Aside0.mk (below_step hC63_ hb); have NB353_364 := kN BK353 hg; have NB364_353 := kM BK353 hg; replace BK353 := kB BK353 hb; have NB357_364 := Aside0.mk ((by rw [hg]; exact Nat.ne_of_lt (IsS63.lt (show IsS63 w _ g357 t354 t362 t363 from hI63_HI357)) : g357 ≠ gb364)); have NB364_357 := Aside0.mk ((by rw [hg]; exact Nat.ne_of_gt (IsS63.lt (show IsS63 w _ g357 t354 t362 t363 from hI63_HI357)) : gb364 ≠ g357)); replace HI357 := Aside0.mk (IsS63.below hI63_HI357 hb); clear hb hbox hg; have hnb46 := NB364_353.out; have hnc46 := NB353_364.out; have hnb47 := NB364_357.out; have hnc47 := NB357_364.out; have hcz48_0 : w45.cell? ⟨gb364, 0, none⟩ = some (.int .i64 0) := (blk_cell BK364.out 0).trans rfl; have hcz48_1 : w45.cell? ⟨gb364, 1, none⟩ = some (.slice none 0 0) := (blk_cell BK364.out 1).trans rfl; have hfz48_0 := blk_frozen BK364.out 0; have hfz48_1 := blk_frozen BK364.out 1; obtain ⟨Ao49, co49, eo49⟩ := Kd.R_slice HO361.out; subst eo49) | ((with_reducible refine gate_callee (f := 38) rfl ?_); refine goesL_ (some 16) rfl rfl Tryz.func38 (by kernel_rfl) rfl #[.pointer (some ⟨g357, 0, none⟩), .int .i64 ji6] rfl (by (try simp only [List.map_toArray, List.map_cons, List.map_nil]); first | done | (simp only [hji6]; rfl) | rfl | (simp only [List.length_drop, List.length_take]; rfl)) ?_; (with_reducible refine (spec_l1Below.calls g357 t354 t362 t363 ji6 t365 t366 t367 w _ ?side1 ?side2 A7.out).mono ?_); (case side1 => exact hI63_HI357); (case side2 => exact hC63_); rintro e w50 ⟨rfl, hi, hb, hk⟩; refine ⟨_, rfl, ?_⟩; replace BK353 := Aside0.mk (KeepBut.blk hk (g' := gb353) (o := .cells #[.int .i64 0, .slice none 0 0] 26 (0, 0)) (qF NB353_364 (qF NB353_364 BK353)).out NB353_357.out (by simp)); replace HO361 := Aside0.mk (Kd.R_mono (Kd.R_keep (IsS63.apart (show IsS63 w _ g357 t354 t362 t363 from hI63_HI357) (rW (kT HO361 BK364).out) (by decide)) hk (fun _ h => h.2)) (fun _ h => h.1)); replace BK364 := Aside0.mk (KeepBut.blk hk (g' := gb364) (o := .cells #[.int .i64 t358, .slice Ao49 t359.length co49] 26 (0, 0)) (qP (qP BK364)).out NB364_357.out (by simp)); replace HB := Aside0.mk (hb); replace HI357 := Aside0.mk (hi); clear hb hk hi) | ((with_reducible refine gate_callee (f := 38) rfl ?_); refine goesL_ (some 18) rfl rfl Tryz.func38 (by kernel_rfl) rfl #[.pointer (some ⟨g357, 0, none⟩), .int .i64 16] rfl gL_ ?_; (with_reducible refine (spec_l1Below.calls g357 t354 t366 t367 16 t368 t369 t370 w _ ?side1 ?side2 A8.out).mono ?_); (case side1 => exact hI63_HI357); (case side2 => exact hC63_); rintro e w51 ⟨rfl, hi, hb, hk⟩; refine ⟨_, rfl, ?_⟩; replace BK353 := kK hk BK353 NB353_357; replace HO361 := Aside0.mk (Kd.R_mono (Kd.R_keep (IsS63.apart (show IsS63 w _ g357 t354 t366 t367 from hI63_HI357) (rW HO361.out) (by decide)) hk (fun _ h => h.2)) (fun _ h => h.1)); replace BK364 := kK hk BK364 NB364_357; replace HB := Aside0.mk (hb); replace HI357 := Aside0.mk (hi); clear hb hk hi; have hcz52_0 : w51.cell? ⟨gb364, 0, none⟩ = some (.int .i64 t358) := (blk_cell BK364.out 0).trans rfl; have hcz52_1 : w51.cell? ⟨gb364, 1, none⟩ = some (.slice Ao49 t359.length co49) := (blk_cell BK364.out 1).trans rfl; have hfz52_0 := blk_frozen BK364.out 0; have hfz52_1 := blk_frozen BK364.out 1; have hnb53 := NB353_357.out; have hnc53 := NB357_353.out; have hcz54_0 : w51.cell? ⟨gb353, 0, none⟩ = some (.int .i64 0) := (blk_cell BK353.out 0).trans rfl; have hcz54_1 : w51.cell? ⟨gb353, 1, none⟩ = some (.slice none 0 0) := (blk_cell BK353.out 1).trans rfl; have hfz54_0 := blk_frozen BK353.out 0; have hfz54_1 := blk_frozen BK353.out 1))
        refine bodyPost_ret (results_ct rfl _ _ gb353 26 #[.int .i64 t358, .slice Ao49 t359.length co49] (0, 0) _ rfl (qP (qP BK353)).out Tryz.underlying26 rfl (by kernel_rfl)) rfl ?_
        exact ⟨_, by first | rfl | (simp [errW_none, errW_some] <;> rfl) | (simp only [← hji4, ← hji6]; first | rfl | (simp [errW_none, errW_some] <;> rfl)) | (simp [*, errW_none, errW_some] <;> rfl), by (with_reducible repeat (first | apply Kd.R_alloc | apply Kd.R_drewN | apply Kd.R_drew)); exact Kd.R_mono (Kd.R_far (p := ⟨gb353, 1, none⟩) (Kd.R_far (p := ⟨gb353, 0, none⟩) (Kd.R_types HO361.out BK353.out (by decide)) (fun _ hk => hk.2) (.int .i64 t358)) (fun _ hk => hk.2) (.slice Ao49 t359.length co49)) (fun _ hk => trivial), hC63_⟩
  · rw [if_neg c5] at H
    exact absurd H (by simp)

/-! ### spec_DrawNextClosed: function 8 -/
def spec_DrawNextClosed.f (k : Nat) (l0 : List Int) : Option (Int × List Int × Int) := (spec_l4Attributes.f k l0).bind fun bt381 => (some (bt381.1, bt381.2.1, bt381.2.2))
theorem spec_DrawNextClosed.mono : ∀ a0 k, LeO (spec_DrawNextClosed.f k a0) (spec_DrawNextClosed.f (k + 1) a0) := by
  intro a0 k
  unfold spec_DrawNextClosed.f
  repeat' first
      | (with_reducible exact spec_l4Attributes.mono _ _)
      | (with_reducible exact LeO.refl _)
      | (with_reducible exact LeO.none _)
      | (with_reducible refine LeO.ite ?_ ?_)
      | (with_reducible refine LeO.bind ?_ (fun _ => ?_))
      | exact spec_l4Attributes.mono _ _
      | exact LeO.none _
      | refine LeO.ite ?_ ?_
      | refine LeO.bind ?_ (fun _ => ?_)
set_option maxHeartbeats 8000000 in
set_option maxRecDepth 100000 in
theorem spec_DrawNextClosed.calls (k : Nat) (A0 : Option Addr) (c0 : Nat) (l0 : List Int) (r1 : Int) (r2 : List Int) (r3 : Int) (w : World) (hr0 : Kd.C (Kd.int .u8) w A0 l0.length l0) (hc0 : l0.length ≤ c0) (h : spec_DrawNextClosed.f k l0 = some (r1, r2, r3)) :
    Calls Tryz.prog 8 #[.slice A0 l0.length c0] w fun e w' => ∃ v1_ : Value, e = .returned (.tuple #[.agg #[.int .i64 r1, v1_], .int .i64 r3]) ∧ Kd.R (Kd.int .i64) 3 w' w.heap.size (fun _ => True) v1_ r2 ∧ Below w.heap.size w w' := by
  have hu26 := Tryz.underlying26
  have HR0 := Aside0.mk hr0
  have HC0 := Aside0.mk hc0
  clear hr0 hc0
  have HB := Aside0.mk (Below.refl w.heap.size w)
  have H : ((spec_l4Attributes.f k l0).bind fun bt381 => (some (bt381.1, bt381.2.1, bt381.2.2))) = some (r1, r2, r3) := h
  clear h
  replace H := aB H
  obtain ⟨⟨t381, t382, t385⟩, A2, H⟩ := H
  dsimp only at H
  simp only [Option.some.injEq, Prod.mk.injEq] at H
  obtain ⟨rfl, rfl, rfl⟩ := H
  go_enter Tryz.func8, Tryz.ntmps8
  go_wp2_with (first | ((with_reducible refine gate_dst (N := 2) rfl ?_); refine box_event ?hg (N := 2) ?hd (cs := #[.int .i64 0, .slice none 0 0]) (t := 26) ?hr ?_; (case hd => rfl); (case hg => rfl); (case hr => first | (go_simp; done) | (go_simp; rfl)); intro gb380 hg w3 hbox hb; have BK380 := Aside0.mk (hbox); have GW380 := kG HB hg; have GE380 := kG HB hg; replace HB := kH HB hb; clear hb hbox hg) | ((with_reducible refine gate_callee (f := 39) rfl ?_); refine goesL_ (some 8) rfl rfl Tryz.func39 (by kernel_rfl) rfl #[.slice A0 l0.length c0] rfl gL_ ?_; (with_reducible refine (spec_l4Attributes.calls k _ _ l0 t381 t382 t385 _ ?side1 ?side2 A2.out).mono ?_); (case side1 => exact cW (Kd.C_below HR0.out HB.out)); (case side2 => exact HC0.out); rintro e w4 ⟨v383, rfl, ho0, hb⟩; refine ⟨_, rfl, ?_⟩; have HO384 := Aside0.mk (Kd.R_lower ho0 (below_size hB_)); replace BK380 := kB BK380 hb; replace HB := kH HB hb; clear hb ho0) | ((with_reducible refine gate_dst (N := 4) rfl ?_); refine box_event ?hg (N := 4) ?hd (cs := #[.int .i64 0, .slice none 0 0]) (t := 26) ?hr ?_; (case hd => rfl); (case hg => rfl); (case hr => first | (go_simp; done) | (go_simp; rfl)); intro gb386 hg w5 hbox hb; replace HO384 := kR HO384 hb; have BK386 := Aside0.mk (hbox); have GW386 := kG HB hg; have GE386 := kG HB hg; replace HB := kH HB hb; have NB380_386 := kN BK380 hg; have NB386_380 := kM BK380 hg; replace BK380 := kB BK380 hb; clear hb hbox hg; have hnb6 := NB386_380.out; have hnc6 := NB380_386.out; have hcz7_0 : w5.cell? ⟨gb386, 0, none⟩ = some (.int .i64 0) := (blk_cell BK386.out 0).trans rfl; have hcz7_1 : w5.cell? ⟨gb386, 1, none⟩ = some (.slice none 0 0) := (blk_cell BK386.out 1).trans rfl; have hfz7_0 := blk_frozen BK386.out 0; have hfz7_1 := blk_frozen BK386.out 1; obtain ⟨Ao8, co8, eo8⟩ := Kd.R_slice HO384.out; subst eo8; have hcz9_0 : w5.cell? ⟨gb380, 0, none⟩ = some (.int .i64 0) := (blk_cell BK380.out 0).trans rfl; have hcz9_1 : w5.cell? ⟨gb380, 1, none⟩ = some (.slice none 0 0) := (blk_cell BK380.out 1).trans rfl; have hfz9_0 := blk_frozen BK380.out 0; have hfz9_1 := blk_frozen BK380.out 1))
  refine bodyPost_ret (results_ct rfl _ _ gb380 26 #[.int .i64 t381, .slice Ao8 t382.length co8] (0, 0) _ rfl (qP (qP (qF NB380_386 (qF NB380_386 BK380)))).out Tryz.underlying26 rfl (by kernel_rfl)) rfl ?_
  exact ⟨_, eR_, by (with_reducible repeat (first | apply Kd.R_alloc | apply Kd.R_drewN | apply Kd.R_drew)); exact Kd.R_mono (Kd.R_far (p := ⟨gb380, 1, none⟩) (Kd.R_far (p := ⟨gb380, 0, none⟩) (Kd.R_far (p := ⟨gb386, 1, none⟩) (Kd.R_far (p := ⟨gb386, 0, none⟩) (Kd.R_types (Kd.R_types HO384.out BK386.out (by decide)) BK380.out (by decide)) (fun _ hk => hk.1.2) (.int .i64 t381)) (fun _ hk => hk.1.2) (.slice Ao8 t382.length co8)) (fun _ hk => hk.2) (.int .i64 t381)) (fun _ hk => hk.2) (.slice Ao8 t382.length co8)) (fun _ hk => trivial), hB_⟩

end Go.Proofs.YtodmfdkmmpefpaaGreatDoor.PFnConcepts
