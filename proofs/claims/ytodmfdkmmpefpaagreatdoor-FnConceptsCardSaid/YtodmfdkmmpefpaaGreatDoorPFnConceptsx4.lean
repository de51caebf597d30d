-- Written by a program of this session (wip/myprint.py), which runs the kit's print with contracts proved by hand; not the kit's own print. Lean checks it.
import Derived.Test.YtodmfdkmmpefpaaGreatDoorPFnConceptsx0
import Derived.Test.YtodmfdkmmpefpaaGreatDoorPFnConceptsx2
import Derived.Test.YtodmfdkmmpefpaaGreatDoorPFnConceptsx3
namespace Go.Proofs.YtodmfdkmmpefpaaGreatDoor.PFnConcepts
open Go.RowKit Go.Proofs.YtodmfdkmmpefpaaGreatDoorW.PrintWords Go.Proofs.YtodmfdkmmpefpaaGreatDoorW.PrintLast Go.Proofs.YtodmfdkmmpefpaaGreatDoorW.PrintMore
attribute [local go_sem] max2_int min2_int max_two min_two max_three min_three max_four min_four   -- for this text's walks alone
set_option linter.unusedVariables false
set_option linter.unusedSimpArgs false

/-! ### spec_l3Bent: function 30 -/
def spec_l3Bent.l0 : Nat → List Int → Int → Int → Int → List Int → Option (Int × List Int × Int × Int)
  | 0, _, _, _, _, _ => none
  | k + 1, x1000, x1001, x1002, x180000, x180001 => if (x180001.length : Int) < 9 then (if x180001.length < 17592186044416 then (spec_l3Bent.l0 k x1000 x1001 x1002 x180000 (x180001 ++ [0])) else (none)) else (some (x180000, x180001, x1001, x1002))
def spec_l3Bent.f (k : Nat) (s0_0 : List Int) (s0_1 : Int) (s0_2 : Int) : Option (Int × List Int × Int × Int) := (spec_l3Draw.f k s0_0 s0_1 s0_2).bind fun bt173 => ((spec_l1Below.f s0_0 bt173.2.2.1 bt173.2.2.2 14).bind fun bt180 => (if bt180.1 = 0 then ((spec_l1PickInt.f s0_0 bt180.2.1 bt180.2.2 (([(-1), 0, 2, 7] : List Int))).bind fun bt186 => (some (bt186.1, bt173.2.1, bt186.2.1, bt186.2.2))) else (if bt180.1 = 1 then ((spec_l2Bent.f s0_0 bt180.2.1 bt180.2.2).bind fun bt189 => (if bt173.2.1.length < 17592186044416 then (some (bt173.1, (bt173.2.1 ++ [bt189.1]), bt189.2.1, bt189.2.2)) else (none))) else (if bt180.1 = 2 then (spec_l3Bent.l0 k s0_0 bt180.2.1 bt180.2.2 bt173.1 bt173.2.1) else (some (bt173.1, bt173.2.1, bt180.2.1, bt180.2.2))))))
theorem spec_l3Bent.mono_l : ∀ k, (∀ y0 y1 y2 y3 y4, LeO (spec_l3Bent.l0 k y0 y1 y2 y3 y4) (spec_l3Bent.l0 (k + 1) y0 y1 y2 y3 y4))
  | 0 => fun _ _ _ _ _ r h => by simp [spec_l3Bent.l0] at h
  | k + 1 => by
    have ih0 := spec_l3Bent.mono_l k
    · intro y0 y1 y2 y3 y4
      unfold spec_l3Bent.l0
      repeat' first
      | (with_reducible exact ih0 _ _ _ _ _)
      | (with_reducible exact spec_l3Draw.mono _ _ _ _)
      | (with_reducible exact LeO.refl _)
      | (with_reducible exact LeO.none _)
      | (with_reducible refine LeO.ite ?_ ?_)
      | (with_reducible refine LeO.bind ?_ (fun _ => ?_))
      | exact ih0 _ _ _ _ _
      | exact spec_l3Draw.mono _ _ _ _
      | exact LeO.none _
      | refine LeO.ite ?_ ?_
      | refine LeO.bind ?_ (fun _ => ?_)
theorem spec_l3Bent.mono : ∀ a0 a1 a2 k, LeO (spec_l3Bent.f k a0 a1 a2) (spec_l3Bent.f (k + 1) a0 a1 a2) := by
  intro a0 a1 a2 k
  have ih0 := spec_l3Bent.mono_l k
  unfold spec_l3Bent.f
  repeat' first
      | (with_reducible exact ih0 _ _ _ _ _)
      | (with_reducible exact spec_l3Draw.mono _ _ _ _)
      | (with_reducible exact LeO.refl _)
      | (with_reducible exact LeO.none _)
      | (with_reducible refine LeO.ite ?_ ?_)
      | (with_reducible refine LeO.bind ?_ (fun _ => ?_))
      | exact ih0 _ _ _ _ _
      | exact spec_l3Draw.mono _ _ _ _
      | exact LeO.none _
      | refine LeO.ite ?_ ?_
      | refine LeO.bind ?_ (fun _ => ?_)
def spec_l3Bent.T6 : Bool × List (List Nat × List Nat) := (true, [([], []), ([0], [0]), ([], []), ([2], [2]), ([3], [3]), ([1, 4, 3], [1, 4]), ([0, 1, 2, 3, 4, 5], []), ([6, 5, 5, 0, 1, 2, 3, 4, 5], [5, 6])])
def spec_l3Bent.B6 : List Nat := [0, 1, 0, 4, 12, 31, 63, 127]
theorem spec_l3Bent.tab6 : rtab .any (opsOf Tryz.f30 6) = spec_l3Bent.T6 := by kernel_rfl
theorem spec_l3Bent.bits6 : waitsOk spec_l3Bent.T6.2 spec_l3Bent.B6 = true := by kernel_rfl
set_option maxHeartbeats 8000000 in
set_option maxRecDepth 100000 in
theorem spec_l3Bent.calls (k : Nat) (g : Nat) (s0_0 : List Int) (s0_1 : Int) (s0_2 : Int) (r1 : Int) (r2 : List Int) (r3 : Int) (r4 : Int) (w0 w : World) (hI : IsS63 w0 w g s0_0 s0_1 s0_2) (hB : Below w0.heap.size w0 w) (h : spec_l3Bent.f k s0_0 s0_1 s0_2 = some (r1, r2, r3, r4)) :
    Calls Tryz.prog 30 #[.pointer (some ⟨g, 0, none⟩)] w fun e w' => ∃ v1_ : Value, e = .returned (.agg #[.int .i64 r1, v1_]) ∧ Kd.R (Kd.int .i64) 3 w' w.heap.size (fun _ => True) v1_ r2 ∧ IsS63 w0 w' g s0_0 r3 r4 ∧ Below w0.heap.size w0 w' ∧ KeepBut w w' g none := by
  have hu26 := Tryz.underlying26
  have HI0 := Aside0.mk hI
  have HK := Aside0.mk (KeepBut.refl w g none)
  have HL := Aside0.mk hB.size
  clear hI
  have HW0 := Aside0.mk hB.size
  have HB := Aside0.mk hB
  clear hB
  have H : ((spec_l3Draw.f k s0_0 s0_1 s0_2).bind fun bt173 => ((spec_l1Below.f s0_0 bt173.2.2.1 bt173.2.2.2 14).bind fun bt180 => (if bt180.1 = 0 then ((spec_l1PickInt.f s0_0 bt180.2.1 bt180.2.2 (([(-1), 0, 2, 7] : List Int))).bind fun bt186 => (some (bt186.1, bt173.2.1, bt186.2.1, bt186.2.2))) else (if bt180.1 = 1 then ((spec_l2Bent.f s0_0 bt180.2.1 bt180.2.2).bind fun bt189 => (if bt173.2.1.length < 17592186044416 then (some (bt173.1, (bt173.2.1 ++ [bt189.1]), bt189.2.1, bt189.2.2)) else (none))) else (if bt180.1 = 2 then (spec_l3Bent.l0 k s0_0 bt180.2.1 bt180.2.2 bt173.1 bt173.2.1) else (some (bt173.1, bt173.2.1, bt180.2.1, bt180.2.2))))))) = some (r1, r2, r3, r4) := h
  clear h
  replace H := aB H
  obtain ⟨⟨t173, t174, t177, t178⟩, A2, H⟩ := H
  dsimp only at H
  replace H := aB H
  obtain ⟨⟨t180, t181, t182⟩, A3, H⟩ := H
  dsimp only at H
  by_cases c4 : t180 = 0
  · rw [if_pos c4] at H
    have c4b0 : (t180 == 0) = true := beq_iff_eq.mpr c4
    have c4b1 : (t180 != 0) = false := bne_eq_false_iff_eq.mpr c4
    clear c4
    obtain ⟨y183, hy183⟩ : ∃ y_ : List Int, y_ = (([(-1), 0, 2, 7] : List Int)) := ⟨_, rfl⟩
    replace H : ((spec_l1PickInt.f s0_0 t181 t182 y183).bind fun bt186 => (some (bt186.1, t174, bt186.2.1, bt186.2.2))) = some (r1, r2, r3, r4) := by first | (rw [hy183]; with_reducible exact H) | (have H2_ := (Option.bind_some _ _).symm.trans H; rw [hy183]; with_reducible exact H2_) | (have H2_ := (Option.bind_some _ _).symm.trans H; with_reducible exact H2_) | with_reducible exact H | (rw [hy183]; exact H) | exact H
    have Ny183 := Aside0.mk hy183
    clear hy183
    replace H := aB H
    obtain ⟨⟨t186, t187, t188⟩, A5, H⟩ := H
    dsimp only at H
    simp only [Option.some.injEq, Prod.mk.injEq] at H
    obtain ⟨rfl, rfl, rfl, rfl⟩ := H
    go_enter Tryz.func30, Tryz.ntmps30
    go_wp2_with (first | ((with_reducible refine gate_dst (N := 2) rfl ?_); refine box_event ?hg (N := 2) ?hd (cs := #[.int .i64 0, .slice none 0 0]) (t := 26) ?hr ?_; (case hd => rfl); (case hg => rfl); (case hr => first | (go_simp; done) | (go_simp; rfl)); intro gb172 hg w6 hbox hb; replace HB := Aside0.mk (below_step hC63_ hb); have BK172 := Aside0.mk (hbox); have GW172 := kW HK hg; have GE172 := kX HW0 (kW HK hg); replace HK := Aside0.mk (KeepBut.trans hK_ (KeepBut.of_below hb g none) (.inl rfl)); have NB0_172 := Aside0.mk ((by rw [hg]; exact Nat.ne_of_lt (IsS63.lt (show IsS63 w0 _ g s0_0 s0_1 s0_2 from hI63_HI0)) : g ≠ gb172)); have NB172_0 := Aside0.mk ((by rw [hg]; exact Nat.ne_of_gt (IsS63.lt (show IsS63 w0 _ g s0_0 s0_1 s0_2 from hI63_HI0)) : gb172 ≠ g)); replace HI0 := Aside0.mk (IsS63.below hI63_HI0 hb); clear hb hbox hg) | ((with_reducible refine gate_callee (f := 59) rfl ?_); refine goesL_ (some 5) rfl rfl Tryz.func59 (by kernel_rfl) rfl #[.pointer (some ⟨g, 0, none⟩)] rfl gL_ ?_; (with_reducible refine (spec_l3Draw.calls k g s0_0 s0_1 s0_2 t173 t174 t177 t178 w0 _ ?side1 ?side2 A2.out).mono ?_); (case side1 => exact hI63_HI0); (case side2 => exact hC63_); rintro e w7 ⟨v175, rfl, ho0, hi, hb, hk⟩; refine ⟨_, rfl, ?_⟩; replace BK172 := kK hk BK172 NB172_0; have HO176 := Aside0.mk (Kd.R_lower ho0 (keep_size (w := w) (g := g) (row := none) hK_)); replace HK := kJ HK hk; replace HB := Aside0.mk (hb); replace HI0 := Aside0.mk (hi); clear hb hk hi ho0) | ((with_reducible refine gate_dst (N := 3) rfl ?_); refine box_event ?hg (N := 3) ?hd (cs := #[.int .i64 0, .slice none 0 0]) (t := 26) ?hr ?_; (case hd => rfl); (case hg => rfl); (case hr => first | (go_simp; done) | (go_simp; rfl)); intro gb179 hg w8 hbox hb; replace HO176 := kR HO176 hb; replace HB := Aside0.mk (below_step hC63_ hb); have BK179 := Aside0.mk (hbox); have GW179 := kW HK hg; have GE179 := kX HW0 (kW HK hg); replace HK := Aside0.mk (KeepBut.trans hK_ (KeepBut.of_below hb g none) (.inl rfl)); have NB172_179 := kN BK172 hg; have NB179_172 := kM BK172 hg; replace BK172 := kB BK172 hb; have NB0_179 := Aside0.mk ((by rw [hg]; exact Nat.ne_of_lt (IsS63.lt (show IsS63 w0 _ g s0_0 t177 t178 from hI63_HI0)) : g ≠ gb179)); have NB179_0 := Aside0.mk ((by rw [hg]; exact Nat.ne_of_gt (IsS63.lt (show IsS63 w0 _ g s0_0 t177 t178 from hI63_HI0)) : gb179 ≠ g)); replace HI0 := Aside0.mk (IsS63.below hI63_HI0 hb); clear hb hbox hg; have hnb9 := NB179_172.out; have hnc9 := NB172_179.out; have hnb10 := NB179_0.out; have hnc10 := NB0_179.out; have hcz11_0 : w8.cell? ⟨gb179, 0, none⟩ = some (.int .i64 0) := (blk_cell BK179.out 0).trans rfl; have hcz11_1 : w8.cell? ⟨gb179, 1, none⟩ = some (.slice none 0 0) := (blk_cell BK179.out 1).trans rfl; have hfz11_0 := blk_frozen BK179.out 0; have hfz11_1 := blk_frozen BK179.out 1; obtain ⟨Ao12, co12, eo12⟩ := Kd.R_slice HO176.out; subst eo12) | ((with_reducible refine gate_callee (f := 38) rfl ?_); refine goesL_ (some 7) rfl rfl Tryz.func38 (by kernel_rfl) rfl #[.pointer (some ⟨g, 0, none⟩), .int .i64 14] rfl gL_ ?_; (with_reducible refine (spec_l1Below.calls g s0_0 t177 t178 14 t180 t181 t182 w0 _ ?side1 ?side2 A3.out).mono ?_); (case side1 => exact hI63_HI0); (case side2 => exact hC63_); rintro e w13 ⟨rfl, hi, hb, hk⟩; refine ⟨_, rfl, ?_⟩; replace BK172 := Aside0.mk (KeepBut.blk hk (g' := gb172) (o := .cells #[.int .i64 0, .slice none 0 0] 26 (0, 0)) (qF NB172_179 (qF NB172_179 BK172)).out NB172_0.out (by simp)); replace HO176 := Aside0.mk (Kd.R_mono (Kd.R_keep (IsS63.apart (show IsS63 w0 _ g s0_0 t177 t178 from hI63_HI0) (rW (kT HO176 BK179).out) (by decide)) hk (fun _ h => h.2)) (fun _ h => h.1)); replace BK179 := Aside0.mk (KeepBut.blk hk (g' := gb179) (o := .cells #[.int .i64 t173, .slice Ao12 t174.length co12] 26 (0, 0)) (qP (qP BK179)).out NB179_0.out (by simp)); replace HK := kJ HK hk; replace HB := Aside0.mk (hb); replace HI0 := Aside0.mk (hi); clear hb hk hi) | ((with_reducible refine gate_dst (N := 11) rfl ?_); refine Kd.R_lit (Kd.int .i64) _ 3 ?hg (N := 11) ?hd (xs := ([(-1), 0, 2, 7] : List Int)) (inner := [.int .i64 (-1), .int .i64 0, .int .i64 2, .int .i64 7]) (ok := fun _ => True) (okp := fun _ => True) ?hr ?hp (fun _ hk => hk) trivial (Below.refl _ _) (Nat.le_refl _) (by simp) ?_; (case hd => rfl); (case hg => rfl); (case hr => first | (go_simp; done) | (go_simp; rfl)); (case hp => exact (Reps.one (show Kd.M (Kd.int .i64) _ _ _ (-1) [.int .i64 (-1)] from rfl) (Reps.one (show Kd.M (Kd.int .i64) _ _ _ 0 [.int .i64 0] from rfl) (Reps.one (show Kd.M (Kd.int .i64) _ _ _ 2 [.int .i64 2] from rfl) (Reps.one (show Kd.M (Kd.int .i64) _ _ _ 7 [.int .i64 7] from rfl) (Reps.none _ _)))))); intro v184 w14 ho15 hb hg_ hnew_; clear hg_ hnew_; (first | rw [← Ny183.out] at ho15 | (simp only [Int.reduceToNat] at ho15; rw [← Ny183.out] at ho15)); have HO185 := Aside0.mk (Kd.R_lower (Kd.R_new' ho15 (Kd.R_lt (rW HO176.out))) (keep_size (w := w) (g := g) (row := none) hK_)); replace HO176 := kE HO176 ho15 hb; replace BK172 := kB BK172 hb; replace BK179 := kB BK179 hb; replace HK := Aside0.mk (KeepBut.trans hK_ (KeepBut.of_below hb g none) (.inl rfl)); replace HB := Aside0.mk (below_step hC63_ hb); replace HI0 := Aside0.mk (IsS63.below hI63_HI0 hb); clear hb ho15; obtain ⟨Ao16, co16, eo16⟩ := Kd.R_slice HO185.out; subst eo16) | ((with_reducible refine gate_callee (f := 60) rfl ?_); refine goesL_ (some 12) rfl rfl Tryz.func60 (by kernel_rfl) rfl #[.pointer (some ⟨g, 0, none⟩), .slice Ao16 y183.length co16] rfl gL_ ?_; (with_reducible refine (spec_l1PickInt.calls g s0_0 t181 t182 _ _ y183 t186 t187 t188 w0 _ ?side1 ?side2 ?side3 ?side4 ?side5 A5.out).mono ?_); (case side1 => exact hI63_HI0); (case side2 => exact hC63_); (case side3 => exact rC HO185); (case side4 => exact (Kd.R_reads' HO185.out).2.1); (case side5 => exact far_slice (IsS63.own_ne HI0.out HO185.out (by decide))); rintro e w17 ⟨rfl, hi, hb, hk⟩; refine ⟨_, rfl, ?_⟩; replace BK172 := kK hk BK172 NB172_0; replace HO176 := Aside0.mk (Kd.R_mono (Kd.R_keep (IsS63.apart (show IsS63 w0 _ g s0_0 t181 t182 from hI63_HI0) (rW HO176.out) (by decide)) hk (fun _ h => h.2)) (fun _ h => h.1)); replace BK179 := kK hk BK179 NB179_0; replace HO185 := Aside0.mk (Kd.R_mono (Kd.R_keep (IsS63.apart (show IsS63 w0 _ g s0_0 t181 t182 from hI63_HI0) (rW HO185.out) (by decide)) hk (fun _ h => h.2)) (fun _ h => h.1)); replace HK := kJ HK hk; replace HB := Aside0.mk (hb); replace HI0 := Aside0.mk (hi); clear hb hk hi; have hcz18_0 : w17.cell? ⟨gb179, 0, none⟩ = some (.int .i64 t173) := (blk_cell BK179.out 0).trans rfl; have hcz18_1 : w17.cell? ⟨gb179, 1, none⟩ = some (.slice Ao12 t174.length co12) := (blk_cell BK179.out 1).trans rfl; have hfz18_0 := blk_frozen BK179.out 0; have hfz18_1 := blk_frozen BK179.out 1; have hnb19 := NB172_0.out; have hnc19 := NB0_172.out; have hcz20_0 : w17.cell? ⟨gb172, 0, none⟩ = some (.int .i64 0) := (blk_cell BK172.out 0).trans rfl; have hcz20_1 : w17.cell? ⟨gb172, 1, none⟩ = some (.slice none 0 0) := (blk_cell BK172.out 1).trans rfl; have hfz20_0 := blk_frozen BK172.out 0; have hfz20_1 := blk_frozen BK172.out 1))
    refine bodyPost_ret (results_cell_row rfl _ _ gb172 26 #[.int .i64 t186, .slice Ao12 t174.length co12] (0, 0) _ rfl (qP (qP (qF NB172_179 BK172))).out Tryz.underlying26 rfl (by kernel_rfl)) rfl ?_
    exact ⟨_, eR_, by (with_reducible repeat (first | apply Kd.R_alloc | apply Kd.R_drewN | apply Kd.R_drew)); exact Kd.R_mono (Kd.R_far (p := ⟨gb172, 1, none⟩) (Kd.R_far (p := ⟨gb172, 0, none⟩) (Kd.R_far (p := ⟨gb179, 0, none⟩) (Kd.R_types (Kd.R_types HO176.out BK179.out (by decide)) BK172.out (by decide)) (fun _ hk => hk.1.2) (.int .i64 t186)) (fun _ hk => hk.2) (.int .i64 t186)) (fun _ hk => hk.2) (.slice Ao12 t174.length co12)) (fun _ hk => trivial), hI63_HI0, hC63_, hK_⟩
  · rw [if_neg c4] at H
    have c4b0 : (t180 == 0) = false := beq_eq_false_iff_ne.mpr c4
    have c4b1 : (t180 != 0) = true := bne_iff_ne.mpr c4
    by_cases c21 : t180 = 1
    · rw [if_pos c21] at H
      have c21b0 : (t180 == 1) = true := beq_iff_eq.mpr c21
      have c21b1 : (t180 != 1) = false := bne_eq_false_iff_eq.mpr c21
      clear c21
      replace H := aB H
      obtain ⟨⟨t189, t190, t191⟩, A22, H⟩ := H
      dsimp only at H
      by_cases c23 : t174.length < 17592186044416
      · rw [if_pos c23] at H
        have LMc23 := Aside0.mk c23
        clear c23
        obtain ⟨y192, hy192⟩ : ∃ y_ : List Int, y_ = (t174 ++ [t189]) := ⟨_, rfl⟩
        replace H : (some (t173, y192, t190, t191)) = some (r1, r2, r3, r4) := by first | (rw [hy192]; with_reducible exact H) | (have H2_ := (Option.bind_some _ _).symm.trans H; rw [hy192]; with_reducible exact H2_) | (have H2_ := (Option.bind_some _ _).symm.trans H; with_reducible exact H2_) | with_reducible exact H | (rw [hy192]; exact H) | exact H
        have Ny192 := Aside0.mk hy192
        clear hy192
        simp only [Option.some.injEq, Prod.mk.injEq] at H
        obtain ⟨rfl, rfl, rfl, rfl⟩ := H
        go_enter Tryz.func30, Tryz.ntmps30
        try go_wp2_with (first | ((with_reducible refine gate_dst (N := 2) rfl ?_); refine box_event ?hg (N := 2) ?hd (cs := #[.int .i64 0, .slice none 0 0]) (t := 26) ?hr ?_; (case hd => rfl); (case hg => rfl); (case hr => first | (go_simp; done) | (go_simp; rfl)); intro gb172 hg w24 hbox hb; replace HB := Aside0.mk (below_step hC63_ hb); have BK172 := Aside0.mk (hbox); have GW172 := kW HK hg; have GE172 := kX HW0 (kW HK hg); replace HK := Aside0.mk (KeepBut.trans hK_ (KeepBut.of_below hb g none) (.inl rfl)); have NB0_172 := Aside0.mk ((by rw [hg]; exact Nat.ne_of_lt (IsS63.lt (show IsS63 w0 _ g s0_0 s0_1 s0_2 from hI63_HI0)) : g ≠ gb172)); have NB172_0 := Aside0.mk ((by rw [hg]; exact Nat.ne_of_gt (IsS63.lt (show IsS63 w0 _ g s0_0 s0_1 s0_2 from hI63_HI0)) : gb172 ≠ g)); replace HI0 := Aside0.mk (IsS63.below hI63_HI0 hb); clear hb hbox hg) | ((with_reducible refine gate_callee (f := 59) rfl ?_); refine goesL_ (some 5) rfl rfl Tryz.func59 (by kernel_rfl) rfl #[.pointer (some ⟨g, 0, none⟩)] rfl gL_ ?_; (with_reducible refine (spec_l3Draw.calls k g s0_0 s0_1 s0_2 t173 t174 t177 t178 w0 _ ?side1 ?side2 A2.out).mono ?_); (case side1 => exact hI63_HI0); (case side2 => exact hC63_); rintro e w25 ⟨v175, rfl, ho0, hi, hb, hk⟩; refine ⟨_, rfl, ?_⟩; replace BK172 := kK hk BK172 NB172_0; have HO176 := Aside0.mk (Kd.R_lower ho0 (keep_size (w := w) (g := g) (row := none) hK_)); replace HK := kJ HK hk; replace HB := Aside0.mk (hb); replace HI0 := Aside0.mk (hi); clear hb hk hi ho0) | ((with_reducible refine gate_dst (N := 3) rfl ?_); refine box_event ?hg (N := 3) ?hd (cs := #[.int .i64 0, .slice none 0 0]) (t := 26) ?hr ?_; (case hd => rfl); (case hg => rfl); (case hr => first | (go_simp; done) | (go_simp; rfl)); intro gb179 hg w26 hbox hb; replace HO176 := kR HO176 hb; replace HB := Aside0.mk (below_step hC63_ hb); have BK179 := Aside0.mk (hbox); have GW179 := kW HK hg; have GE179 := kX HW0 (kW HK hg); replace HK := Aside0.mk (KeepBut.trans hK_ (KeepBut.of_below hb g none) (.inl rfl)); have NB172_179 := kN BK172 hg; have NB179_172 := kM BK172 hg; replace BK172 := kB BK172 hb; have NB0_179 := Aside0.mk ((by rw [hg]; exact Nat.ne_of_lt (IsS63.lt (show IsS63 w0 _ g s0_0 t177 t178 from hI63_HI0)) : g ≠ gb179)); have NB179_0 := Aside0.mk ((by rw [hg]; exact Nat.ne_of_gt (IsS63.lt (show IsS63 w0 _ g s0_0 t177 t178 from hI63_HI0)) : gb179 ≠ g)); replace HI0 := Aside0.mk (IsS63.below hI63_HI0 hb); clear hb hbox hg; have hnb27 := NB179_172.out; have hnc27 := NB172_179.out; have hnb28 := NB179_0.out; have hnc28 := NB0_179.out; have hcz29_0 : w26.cell? ⟨gb179, 0, none⟩ = some (.int .i64 0) := (blk_cell BK179.out 0).trans rfl; have hcz29_1 : w26.cell? ⟨gb179, 1, none⟩ = some (.slice none 0 0) := (blk_cell BK179.out 1).trans rfl; have hfz29_0 := blk_frozen BK179.out 0; have hfz29_1 := blk_frozen BK179.out 1; obtain ⟨Ao30, co30, eo30⟩ := Kd.R_slice HO176.out; subst eo30) | ((with_reducible refine gate_callee (f := 38) rfl ?_); refine goesL_ (some 7) rfl rfl Tryz.func38 (by kernel_rfl) rfl #[.pointer (some ⟨g, 0, none⟩), .int .i64 14] rfl gL_ ?_; (with_reducible refine (spec_l1Below.calls g s0_0 t177 t178 14 t180 t181 t182 w0 _ ?side1 ?side2 A3.out).mono ?_); (case side1 => exact hI63_HI0); (case side2 => exact hC63_); rintro e w31 ⟨rfl, hi, hb, hk⟩; refine ⟨_, rfl, ?_⟩; replace BK172 := Aside0.mk (KeepBut.blk hk (g' := gb172) (o := .cells #[.int .i64 0, .slice none 0 0] 26 (0, 0)) (qF NB172_179 (qF NB172_179 BK172)).out NB172_0.out (by simp)); replace HO176 := Aside0.mk (Kd.R_mono (Kd.R_keep (IsS63.apart (show IsS63 w0 _ g s0_0 t177 t178 from hI63_HI0) (rW (kT HO176 BK179).out) (by decide)) hk (fun _ h => h.2)) (fun _ h => h.1)); replace BK179 := Aside0.mk (KeepBut.blk hk (g' := gb179) (o := .cells #[.int .i64 t173, .slice Ao30 t174.length co30] 26 (0, 0)) (qP (qP BK179)).out NB179_0.out (by simp)); replace HK := kJ HK hk; replace HB := Aside0.mk (hb); replace HI0 := Aside0.mk (hi); clear hb hk hi))
        replace HO176 := Aside0.mk (Kd.R_drew HO176.out)
        replace BK172 := Aside0.mk (blk_drew BK172.out)
        replace BK179 := Aside0.mk (blk_drew BK179.out)
        replace HI0 := Aside0.mk (IsS63.drew HI0.out)
        replace HK := Aside0.mk (keep_drew HK.out)
        replace HB := Aside0.mk (below_drew1 HB.out)
        refine start_ (n := 8) (S := fun w' => w'.cell? ⟨gb179, 0, none⟩ = some (.int .i64 t173) ∧ w'.cell? ⟨gb179, 1, none⟩ = some (.slice Ao30 t174.length co30)) (ds := [7]) #[false, false, false, false, false, false, false, false] (by kernel_rfl) rfl rfl ⟨(blk_cell BK179.out 0).trans rfl, (blk_cell BK179.out 1).trans rfl⟩ (fun hHeld => ?_); refine with_tabW spec_l3Bent.tab6 spec_l3Bent.bits6 (fun HT_ HW_ => ?_)
        generalize w31.drew = w32 at HO176 BK172 BK179 HI0 HK HB hHeld ⊢
        refine pure_ (i := 0) (N := some 16) (v := ?_) (a' := ?_) #[true, false, false, false, false, false, false, false] rfl rfl (any_of HT_.out (by kernel_rfl)) (fun _ _ _ h => h) (Or.inl ⟨by rfl, ?_⟩) ?_ ?_
        rotate_left
        · intro w'
          go_simp
          with_reducible rfl
        rotate_left
        · simp only [Act.put, List.setIfInBounds_toArray, List.set_cons_zero, List.set_cons_succ, i64_w, i32_w]
          rfl
        refine pure_ (i := 2) (N := some 18) (v := ?_) (a' := ?_) #[true, false, true, false, false, false, false, false] rfl rfl (any_of HT_.out (by kernel_rfl)) (fun _ _ _ h => h) (Or.inl ⟨by rfl, ?_⟩) ?_ ?_
        rotate_left
        · intro w'
          go_simp
          with_reducible rfl
        rotate_left
        · simp only [Act.put, List.setIfInBounds_toArray, List.set_cons_zero, List.set_cons_succ, i64_w, i32_w]
          rfl
        refine take_ (i := 1) (N := some 17) (v := ?_) (a' := ?_) #[true, true, true, false, false, false, false, false] rfl rfl (take_ofW HT_.out HW_.out (by kernel_rfl)) (fun _ _ _ h => h) (Or.inl ⟨by rfl, ?_⟩) hHeld ?_ ?_
        rotate_left
        · rintro w' ⟨s0, s1⟩
          go_simp
          with_reducible rfl
        rotate_left
        · simp only [Act.put, List.setIfInBounds_toArray, List.set_cons_zero, List.set_cons_succ, i64_w, i32_w]
          rfl
        refine one_ (i := 3) (N := some 19) #[true, true, true, true, false, false, false, false] rfl rfl (one_of HT_.out (by kernel_rfl)) (by decide) (fun K hK => ?_)
        refine goes_ Tryz.func37 (by kernel_rfl) rfl #[.pointer (some ⟨g, 0, none⟩)] (by rfl) rfl rfl gL_ ?_
        with_reducible refine (spec_l2Bent.calls g s0_0 t181 t182 t189 t190 t191 w0 _ ?side1 ?side2 A22.out).mono ?_
        (case side1 => exact hI63_HI0)
        (case side2 => exact hC63_)
        rintro e w33 ⟨rfl, hi, hb, hk⟩
        refine ⟨_, rfl, ?_⟩
        replace BK172 := kK hk BK172 NB172_0
        replace HO176 := Aside0.mk (Kd.R_mono (Kd.R_keep (IsS63.apart (show IsS63 w0 _ g s0_0 t181 t182 from hI63_HI0) (rW HO176.out) (by decide)) hk (fun _ h => h.2)) (fun _ h => h.1))
        replace BK179 := kK hk BK179 NB179_0
        replace HK := kJ HK hk
        replace HB := Aside0.mk (hb)
        replace HI0 := Aside0.mk (hi)
        (try clear hb)
        (try clear hb2)
        (try clear hk)
        (try clear hi)
        refine hK.out _ _ ⟨(blk_cell BK179.out 0).trans rfl, (blk_cell BK179.out 1).trans rfl⟩ (fun hHeld => ?_)
        clear hK K
        refine norm_ (a' := ?_) ?_ ?_
        rotate_left
        · show Act.put _ (some 19) _ = _
          simp only [Act.put, List.setIfInBounds_toArray, List.set_cons_zero, List.set_cons_succ, i64_w, i32_w]
          rfl
        refine one_ (i := 4) (N := some 20) #[true, true, true, true, true, false, false, false] rfl rfl (one_of HT_.out (by kernel_rfl)) (by decide) (fun K hK => ?_)
        refine value_ (w1 := ?_) (v := ?_) (by rfl) rfl ?_ ?_
        rotate_left 2
        · go_simp
          constructor
          · rfl
          · rfl
        refine hK.out _ _ ⟨(blk_cell (blk_alloc BK179.out _) 0).trans rfl, (blk_cell (blk_alloc BK179.out _) 1).trans rfl⟩ (fun hHeld => ?_)
        clear hK K
        refine norm_ (a' := ?_) ?_ ?_
        rotate_left
        · show Act.put _ (some 20) _ = _
          simp only [Act.put, List.setIfInBounds_toArray, List.set_cons_zero, List.set_cons_succ, i64_w, i32_w]
          rfl
        refine one_ (i := 5) (N := some 21) #[true, true, true, true, true, true, false, false] rfl rfl (one_of HT_.out (by kernel_rfl)) (by decide) (fun K hK => ?_)
        refine Kd.R_append_step (Kd.int .i64) w.heap.size (by rfl) (.tmp 17) (.tmp 20) 24 3 (.int .i64 0) 8 rfl Tryz.underlying24 info3 rfl (by decide) (by omega) (.slice Ao30 t174.length co30) t174 t189 [.int .i64 t189] (fun _ => True) (fun _ => False) rfl rfl ?aP (fun _ hk => hk.elim) ?aF ?aO (Below.refl _ _) ?aS ?aL ?_
        (case aP => exact rfl)
        (case aF => exact (fun _ _ => trivial))
        (case aO => exact (rW HO176.out))
        (case aS => exact (keep_size (w := w) (g := g) (row := none) hK_))
        (case aL => have := LMc23.out; omega)
        intro v193 w34 ho hb hg hat
        rw [← Ny192.out] at ho
        replace BK172 := Aside0.mk (blk_grown (bW BK172) hg (Kd.R_ne HO176.out BK172.out (by decide)))
        replace BK179 := Aside0.mk (blk_grown (bW BK179) hg (Kd.R_ne HO176.out BK179.out (by decide)))
        replace HB := Aside0.mk (below_weaken hC63_ HL.out hb)
        replace HI0 := Aside0.mk (IsS63.grown hI63_HI0 hg (IsS63.own_ne HI0.out HO176.out (by decide)))
        replace HK := Aside0.mk (KeepBut.trans hK_ (KeepBut.of_grown hg g) (Kd.R_base2 HO176.out))
        have HO194 := Aside0.mk (ho)
        clear HO176
        clear ho hb hg hat
        obtain ⟨Ao35, co35, eo35⟩ := Kd.R_slice HO194.out
        (first | subst eo35 | (injection eo35 with f1_ f2_ f3_; have f4_ := f1_.symm; have f5_ := f3_.symm; clear f1_ f2_ f3_; subst f4_; subst f5_))
        refine hK.out _ _ ⟨(blk_cell BK179.out 0).trans rfl, (blk_cell BK179.out 1).trans rfl⟩ (fun hHeld => ?_)
        clear hK K
        refine norm_ (a' := ?_) ?_ ?_
        rotate_left
        · show Act.put _ (some 21) _ = _
          simp only [Act.put, List.setIfInBounds_toArray, List.set_cons_zero, List.set_cons_succ, i64_w, i32_w]
          rfl
        refine pure_ (i := 6) (N := some 22) (v := ?_) (a' := ?_) #[true, true, true, true, true, true, true, false] rfl rfl (any_of HT_.out (by kernel_rfl)) (fun _ _ _ h => h) (Or.inl ⟨by rfl, ?_⟩) ?_ ?_
        rotate_left
        · intro w'
          go_simp
          with_reducible rfl
        rotate_left
        · simp only [Act.put, List.setIfInBounds_toArray, List.set_cons_zero, List.set_cons_succ, i64_w, i32_w]
          rfl
        refine last_ (i := 7) (N := none) #[true, true, true, true, true, true, true, true] rfl rfl (one_of HT_.out (by kernel_rfl)) (by decide) (fun K hK => ?_)
        have hs36 : w34.cell? ⟨gb179, 1, none⟩ = some (.slice Ao30 t174.length co30) := (blk_cell BK179.out 1).trans rfl
        have hfs36 := blk_frozen BK179.out 1
        have hns36_0 := NB172_179.out
        have hms36_0 := NB179_172.out
        refine skip_ (w1 := ?_) (by rfl) rfl ?_ ?_
        rotate_left
        · go_simp
          rfl
        refine hK.out _ _ ?_
        clear hK K
        refine done_ (done_of HT_.out (by kernel_rfl)) ?_
        have hcz37_0 : w34.cell? ⟨gb179, 0, none⟩ = some (.int .i64 t173) := (blk_cell BK179.out 0).trans rfl
        have hcz37_1 : w34.cell? ⟨gb179, 1, none⟩ = some (.slice Ao30 t174.length co30) := (blk_cell BK179.out 1).trans rfl
        have hfz37_0 := blk_frozen BK179.out 0
        have hfz37_1 := blk_frozen BK179.out 1
        have hnb38 := NB172_0.out
        have hnc38 := NB0_172.out
        have hcz39_0 : w34.cell? ⟨gb172, 0, none⟩ = some (.int .i64 0) := (blk_cell BK172.out 0).trans rfl
        have hcz39_1 : w34.cell? ⟨gb172, 1, none⟩ = some (.slice none 0 0) := (blk_cell BK172.out 1).trans rfl
        have hfz39_0 := blk_frozen BK172.out 0
        have hfz39_1 := blk_frozen BK172.out 1
        try go_wp2
        refine bodyPost_ret (results_cell_row rfl _ _ gb172 26 #[.int .i64 t173, .slice Ao35 y192.length co35] (0, 0) _ rfl (qP (qP (qF NB172_179 BK172))).out Tryz.underlying26 rfl (by kernel_rfl)) rfl ?_
        exact ⟨_, eR_, by (with_reducible repeat (first | apply Kd.R_alloc | apply Kd.R_drewN | apply Kd.R_drew)); exact Kd.R_mono (Kd.R_far (p := ⟨gb172, 1, none⟩) (Kd.R_far (p := ⟨gb172, 0, none⟩) (Kd.R_far (p := ⟨gb179, 1, none⟩) (Kd.R_types (Kd.R_types HO194.out BK179.out (by decide)) BK172.out (by decide)) (fun _ hk => hk.1.2) (.slice Ao35 y192.length co35)) (fun _ hk => hk.2) (.int .i64 t173)) (fun _ hk => hk.2) (.slice Ao35 y192.length co35)) (fun _ hk => trivial), hI63_HI0, hC63_, hK_⟩
      · rw [if_neg c23] at H
        exact absurd H (by simp)
    · rw [if_neg c21] at H
      have c21b0 : (t180 == 1) = false := beq_eq_false_iff_ne.mpr c21
      have c21b1 : (t180 != 1) = true := bne_iff_ne.mpr c21
      by_cases c40 : t180 = 2
      · rw [if_pos c40] at H
        have c40b0 : (t180 == 2) = true := beq_iff_eq.mpr c40
        have c40b1 : (t180 != 2) = false := bne_eq_false_iff_eq.mpr c40
        clear c40
        have H' := Aside0.mk H
        clear H
        go_enter Tryz.func30, Tryz.ntmps30
        go_wp2_with (first | ((with_reducible refine gate_dst (N := 2) rfl ?_); refine box_event ?hg (N := 2) ?hd (cs := #[.int .i64 0, .slice none 0 0]) (t := 26) ?hr ?_; (case hd => rfl); (case hg => rfl); (case hr => first | (go_simp; done) | (go_simp; rfl)); intro gb172 hg w41 hbox hb; replace HB := Aside0.mk (below_step hC63_ hb); have BK172 := Aside0.mk (hbox); have GW172 := kW HK hg; have GE172 := kX HW0 (kW HK hg); replace HK := Aside0.mk (KeepBut.trans hK_ (KeepBut.of_below hb g none) (.inl rfl)); have NB0_172 := Aside0.mk ((by rw [hg]; exact Nat.ne_of_lt (IsS63.lt (show IsS63 w0 _ g s0_0 s0_1 s0_2 from hI63_HI0)) : g ≠ gb172)); have NB172_0 := Aside0.mk ((by rw [hg]; exact Nat.ne_of_gt (IsS63.lt (show IsS63 w0 _ g s0_0 s0_1 s0_2 from hI63_HI0)) : gb172 ≠ g)); replace HI0 := Aside0.mk (IsS63.below hI63_HI0 hb); clear hb hbox hg) | ((with_reducible refine gate_callee (f := 59) rfl ?_); refine goesL_ (some 5) rfl rfl Tryz.func59 (by kernel_rfl) rfl #[.pointer (some ⟨g, 0, none⟩)] rfl gL_ ?_; (with_reducible refine (spec_l3Draw.calls k g s0_0 s0_1 s0_2 t173 t174 t177 t178 w0 _ ?side1 ?side2 A2.out).mono ?_); (case side1 => exact hI63_HI0); (case side2 => exact hC63_); rintro e w42 ⟨v175, rfl, ho0, hi, hb, hk⟩; refine ⟨_, rfl, ?_⟩; replace BK172 := kK hk BK172 NB172_0; have HO176 := Aside0.mk (Kd.R_lower ho0 (keep_size (w := w) (g := g) (row := none) hK_)); replace HK := kJ HK hk; replace HB := Aside0.mk (hb); replace HI0 := Aside0.mk (hi); clear hb hk hi ho0) | ((with_reducible refine gate_dst (N := 3) rfl ?_); refine box_event ?hg (N := 3) ?hd (cs := #[.int .i64 0, .slice none 0 0]) (t := 26) ?hr ?_; (case hd => rfl); (case hg => rfl); (case hr => first | (go_simp; done) | (go_simp; rfl)); intro gb179 hg w43 hbox hb; replace HO176 := kR HO176 hb; replace HB := Aside0.mk (below_step hC63_ hb); have BK179 := Aside0.mk (hbox); have GW179 := kW HK hg; have GE179 := kX HW0 (kW HK hg); replace HK := Aside0.mk (KeepBut.trans hK_ (KeepBut.of_below hb g none) (.inl rfl)); have NB172_179 := kN BK172 hg; have NB179_172 := kM BK172 hg; replace BK172 := kB BK172 hb; have NB0_179 := Aside0.mk ((by rw [hg]; exact Nat.ne_of_lt (IsS63.lt (show IsS63 w0 _ g s0_0 t177 t178 from hI63_HI0)) : g ≠ gb179)); have NB179_0 := Aside0.mk ((by rw [hg]; exact Nat.ne_of_gt (IsS63.lt (show IsS63 w0 _ g s0_0 t177 t178 from hI63_HI0)) : gb179 ≠ g)); replace HI0 := Aside0.mk (IsS63.below hI63_HI0 hb); clear hb hbox hg; have hnb44 := NB179_172.out; have hnc44 := NB172_179.out; have hnb45 := NB179_0.out; have hnc45 := NB0_179.out; have hcz46_0 : w43.cell? ⟨gb179, 0, none⟩ = some (.int .i64 0) := (blk_cell BK179.out 0).trans rfl; have hcz46_1 : w43.cell? ⟨gb179, 1, none⟩ = some (.slice none 0 0) := (blk_cell BK179.out 1).trans rfl; have hfz46_0 := blk_frozen BK179.out 0; have hfz46_1 := blk_frozen BK179.out 1; obtain ⟨Ao47, co47, eo47⟩ := Kd.R_slice HO176.out; subst eo47) | ((with_reducible refine gate_callee (f := 38) rfl ?_); refine goesL_ (some 7) rfl rfl Tryz.func38 (by kernel_rfl) rfl #[.pointer (some ⟨g, 0, none⟩), .int .i64 14] rfl gL_ ?_; (with_reducible refine (spec_l1Below.calls g s0_0 t177 t178 14 t180 t181 t182 w0 _ ?side1 ?side2 A3.out).mono ?_); (case side1 => exact hI63_HI0); (case side2 => exact hC63_); rintro e w48 ⟨rfl, hi, hb, hk⟩; refine ⟨_, rfl, ?_⟩; replace BK172 := Aside0.mk (KeepBut.blk hk (g' := gb172) (o := .cells #[.int .i64 0, .slice none 0 0] 26 (0, 0)) (qF NB172_179 (qF NB172_179 BK172)).out NB172_0.out (by simp)); replace HO176 := Aside0.mk (Kd.R_mono (Kd.R_keep (IsS63.apart (show IsS63 w0 _ g s0_0 t177 t178 from hI63_HI0) (rW (kT HO176 BK179).out) (by decide)) hk (fun _ h => h.2)) (fun _ h => h.1)); replace BK179 := Aside0.mk (KeepBut.blk hk (g' := gb179) (o := .cells #[.int .i64 t173, .slice Ao47 t174.length co47] 26 (0, 0)) (qP (qP BK179)).out NB179_0.out (by simp)); replace HK := kJ HK hk; replace HB := Aside0.mk (hb); replace HI0 := Aside0.mk (hi); clear hb hk hi))
        go_loopg [] k (fun kq w' => ∃ (x180001_1 : List Int) (u180001 : Value), Aside0 (spec_l3Bent.l0 kq s0_0 t181 t182 t173 x180001_1 = some (r1, r2, r3, r4)) ∧ Aside0 (kq ≤ k) ∧ Aside0 (Kd.R (Kd.int .i64) 3 w' w.heap.size (fun _ => True) u180001 x180001_1) ∧ Aside0 (w'.heap[gb172]? = some (.cells #[.int .i64 0, (.slice none 0 0)] 26 (0, 0))) ∧ Aside0 (w'.heap[gb179]? = some (.cells #[.int .i64 t173, u180001] 26 (0, 0))) ∧ Aside0 (IsS63 w0 w' g s0_0 t181 t182) ∧ Aside0 (KeepBut w w' g none) ∧ Aside0 (Below w0.heap.size w0 w'))
        case atStart => exact ⟨(t174), (.slice Ao47 t174.length co47), H', ⟨Nat.le_refl _⟩, ⟨by (with_reducible repeat (first | apply Kd.R_alloc | apply Kd.R_drewN | apply Kd.R_drew)); exact HO176.out⟩, ⟨bW BK172⟩, ⟨bW BK179⟩, ⟨hI63_HI0⟩, ⟨hK_⟩, ⟨hC63_⟩⟩
        case round =>
          clear H'
          try clear c1
          try clear c2
          try clear p2
          try clear c3
          try clear c4
          try clear c4b0
          try clear c4b1
          try clear c5
          try clear c6
          try clear c9
          try clear c10
          try clear c19
          try clear c21
          try clear c21b0
          try clear c21b1
          try clear c23
          try clear c27
          try clear c28
          try clear c30
          try clear c37
          try clear c38
          try clear c40
          try clear c40b0
          try clear c40b1
          try clear c44
          try clear c45
          try clear hcz11_0
          try clear hcz11_1
          try clear hcz18_0
          try clear hcz18_1
          try clear hcz20_0
          try clear hcz20_1
          try clear hcz29_0
          try clear hcz29_1
          try clear hcz37_0
          try clear hcz37_1
          try clear hcz39_0
          try clear hcz39_1
          try clear hcz46_0
          try clear hcz46_1
          try clear hfz11_0
          try clear hfz11_1
          try clear hfz18_0
          try clear hfz18_1
          try clear hfz20_0
          try clear hfz20_1
          try clear hfz29_0
          try clear hfz29_1
          try clear hfz37_0
          try clear hfz37_1
          try clear hfz39_0
          try clear hfz39_1
          try clear hfz46_0
          try clear hfz46_1
          obtain ⟨x180001_1, u180001, HA, HK1, HO_180001, BK172, BK179, HI0, HK, HB⟩ := hrel
          cases gk with
          | zero => exact absurd HA.out (by simp [spec_l3Bent.l0])
          | succ k1 =>
            have H := HA.out
            clear HA
            simp only [spec_l3Bent.l0] at H
            by_cases c49 : (x180001_1.length : Int) < 9
            · rw [if_pos c49] at H
              have c49b0 : decide ((x180001_1.length : Int) < 9) = true := decide_eq_true c49
              have c49b1 : decide (x180001_1.length < 9) = true := decide_eq_true (by omega)
              clear c49
              by_cases c50 : x180001_1.length < 17592186044416
              · rw [if_pos c50] at H
                have LMc50 := Aside0.mk c50
                clear c50
                obtain ⟨y195, hy195⟩ : ∃ y_ : List Int, y_ = (x180001_1 ++ [0]) := ⟨_, rfl⟩
                replace H : (spec_l3Bent.l0 k1 s0_0 t181 t182 t173 y195) = some (r1, r2, r3, r4) := by first | (rw [hy195]; with_reducible exact H) | (have H2_ := (Option.bind_some _ _).symm.trans H; rw [hy195]; with_reducible exact H2_) | (have H2_ := (Option.bind_some _ _).symm.trans H; with_reducible exact H2_) | with_reducible exact H | (rw [hy195]; exact H) | exact H
                have Ny195 := Aside0.mk hy195
                clear hy195
                have H' := Aside0.mk H
                clear H
                have hnb51 := NB179_172.out
                have hnc51 := NB172_179.out
                have hnb52 := NB179_0.out
                have hnc52 := NB0_179.out
                have hcz53_0 : wr.cell? ⟨gb179, 0, none⟩ = some (.int .i64 t173) := (blk_cell BK179.out 0).trans rfl
                have hcz53_1 : wr.cell? ⟨gb179, 1, none⟩ = some (u180001) := (blk_cell BK179.out 1).trans rfl
                have hfz53_0 := blk_frozen BK179.out 0
                have hfz53_1 := blk_frozen BK179.out 1
                obtain ⟨Ao54, co54, eo54⟩ := Kd.R_slice HO_180001.out
                subst eo54
                go_wp2_with (first | ((with_reducible refine gate_builtin (b := .append) (xs := #[.tmp 30, .tmp 31]) rfl ?_); at_builtin; refine Kd.R_append (Kd.int .i64) w.heap.size rfl (.tmp 30) (.tmp 31) 24 3 (.int .i64 0) 8 rfl Tryz.underlying24 info3 rfl (by decide) (by omega) (.slice Ao54 x180001_1.length co54) x180001_1 0 [.int .i64 0] (fun _ => True) (fun _ => False) rfl rfl ?aP (fun _ hk => hk.elim) ?aF ?aO (Below.refl _ _) ?aS ?aL ?_; (case aP => exact rfl); (case aF => exact (fun _ _ => trivial)); (case aO => exact (rW HO_180001.out)); (case aS => exact (keep_size (w := w) (g := g) (row := none) hK_)); (case aL => have := LMc50.out; omega); intro v196 w55 ho hb hg hat; rw [← Ny195.out] at ho; replace BK172 := Aside0.mk (blk_grown (bW BK172) hg (Kd.R_ne HO_180001.out BK172.out (by decide))); replace BK179 := Aside0.mk (blk_grown (bW BK179) hg (Kd.R_ne HO_180001.out BK179.out (by decide))); replace HB := Aside0.mk (below_weaken hC63_ HL.out hb); replace HI0 := Aside0.mk (IsS63.grown hI63_HI0 hg (IsS63.own_ne HI0.out HO_180001.out (by decide))); replace HK := Aside0.mk (KeepBut.trans hK_ (KeepBut.of_grown hg g) (Kd.R_base2 HO_180001.out)); have HO197 := Aside0.mk (ho); clear HO_180001; clear ho hb hg hat; obtain ⟨Ao56, co56, eo56⟩ := Kd.R_slice HO197.out; subst eo56; have hcz57_0 : w55.cell? ⟨gb179, 0, none⟩ = some (.int .i64 t173) := (blk_cell BK179.out 0).trans rfl; have hcz57_1 : w55.cell? ⟨gb179, 1, none⟩ = some (.slice Ao54 x180001_1.length co54) := (blk_cell BK179.out 1).trans rfl; have hfz57_0 := blk_frozen BK179.out 0; have hfz57_1 := blk_frozen BK179.out 1))
                go_roundg k1
                case measure => have := HK1.out; omega
                case rel => exact ⟨(y195), (.slice Ao56 y195.length co56), H', ⟨by have := HK1.out; omega⟩, ⟨by (with_reducible repeat (first | apply Kd.R_alloc | apply Kd.R_drewN | apply Kd.R_drew)); exact Kd.R_mono (Kd.R_far (p := ⟨gb179, 1, none⟩) (Kd.R_types HO197.out BK179.out (by decide)) (fun _ hk => hk.2) (.slice Ao56 y195.length co56)) (fun _ hk => trivial)⟩, (qF NB172_179 BK172), (qP BK179), ⟨hI63_HI0⟩, ⟨hK_⟩, ⟨hC63_⟩⟩
              · rw [if_neg c50] at H
                exact absurd H (by simp)
            · rw [if_neg c49] at H
              have c49b0 : decide ((x180001_1.length : Int) < 9) = false := decide_eq_false c49
              have c49b1 : decide (x180001_1.length < 9) = false := decide_eq_false (by omega)
              clear c49
              simp only [Option.some.injEq, Prod.mk.injEq] at H
              obtain ⟨rfl, rfl, rfl, rfl⟩ := H
              have hnb58 := NB179_172.out
              have hnc58 := NB172_179.out
              have hnb59 := NB179_0.out
              have hnc59 := NB0_179.out
              have hcz60_0 : wr.cell? ⟨gb179, 0, none⟩ = some (.int .i64 t173) := (blk_cell BK179.out 0).trans rfl
              have hcz60_1 : wr.cell? ⟨gb179, 1, none⟩ = some (u180001) := (blk_cell BK179.out 1).trans rfl
              have hfz60_0 := blk_frozen BK179.out 0
              have hfz60_1 := blk_frozen BK179.out 1
              obtain ⟨Ao61, co61, eo61⟩ := Kd.R_slice HO_180001.out
              subst eo61
              have hnb62 := NB172_0.out
              have hnc62 := NB0_172.out
              have hcz63_0 : wr.cell? ⟨gb172, 0, none⟩ = some (.int .i64 0) := (blk_cell BK172.out 0).trans rfl
              have hcz63_1 : wr.cell? ⟨gb172, 1, none⟩ = some (.slice none 0 0) := (blk_cell BK172.out 1).trans rfl
              have hfz63_0 := blk_frozen BK172.out 0
              have hfz63_1 := blk_frozen BK172.out 1
              go_wp2
              refine bodyPost_ret (results_cell_row rfl _ _ gb172 26 #[.int .i64 t173, .slice Ao61 x180001_1.length co61] (0, 0) _ rfl (qP (qP BK172)).out Tryz.underlying26 rfl (by kernel_rfl)) rfl ?_
              exact ⟨_, eR_, by (with_reducible repeat (first | apply Kd.R_alloc | apply Kd.R_drewN | apply Kd.R_drew)); exact Kd.R_mono (Kd.R_far (p := ⟨gb172, 1, none⟩) (Kd.R_far (p := ⟨gb172, 0, none⟩) (Kd.R_types HO_180001.out BK172.out (by decide)) (fun _ hk => hk.2) (.int .i64 t173)) (fun _ hk => hk.2) (.slice Ao61 x180001_1.length co61)) (fun _ hk => trivial), hI63_HI0, hC63_, hK_⟩
      · rw [if_neg c40] at H
        have c40b0 : (t180 == 2) = false := beq_eq_false_iff_ne.mpr c40
        have c40b1 : (t180 != 2) = true := bne_iff_ne.mpr c40
        simp only [Option.some.injEq, Prod.mk.injEq] at H
        obtain ⟨rfl, rfl, rfl, rfl⟩ := H
        go_enter Tryz.func30, Tryz.ntmps30
        go_wp2_with (first | ((with_reducible refine gate_dst (N := 2) rfl ?_); refine box_event ?hg (N := 2) ?hd (cs := #[.int .i64 0, .slice none 0 0]) (t := 26) ?hr ?_; (case hd => rfl); (case hg => rfl); (case hr => first | (go_simp; done) | (go_simp; rfl)); intro gb172 hg w64 hbox hb; replace HB := Aside0.mk (below_step hC63_ hb); have BK172 := Aside0.mk (hbox); have GW172 := kW HK hg; have GE172 := kX HW0 (kW HK hg); replace HK := Aside0.mk (KeepBut.trans hK_ (KeepBut.of_below hb g none) (.inl rfl)); have NB0_172 := Aside0.mk ((by rw [hg]; exact Nat.ne_of_lt (IsS63.lt (show IsS63 w0 _ g s0_0 s0_1 s0_2 from hI63_HI0)) : g ≠ gb172)); have NB172_0 := Aside0.mk ((by rw [hg]; exact Nat.ne_of_gt (IsS63.lt (show IsS63 w0 _ g s0_0 s0_1 s0_2 from hI63_HI0)) : gb172 ≠ g)); replace HI0 := Aside0.mk (IsS63.below hI63_HI0 hb); clear hb hbox hg) | ((with_reducible refine gate_callee (f := 59) rfl ?_); refine goesL_ (some 5) rfl rfl Tryz.func59 (by kernel_rfl) rfl #[.pointer (some ⟨g, 0, none⟩)] rfl gL_ ?_; (with_reducible refine (spec_l3Draw.calls k g s0_0 s0_1 s0_2 t173 t174 t177 t178 w0 _ ?side1 ?side2 A2.out).mono ?_); (case side1 => exact hI63_HI0); (case side2 => exact hC63_); rintro e w65 ⟨v175, rfl, ho0, hi, hb, hk⟩; refine ⟨_, rfl, ?_⟩; replace BK172 := kK hk BK172 NB172_0; have HO176 := Aside0.mk (Kd.R_lower ho0 (keep_size (w := w) (g := g) (row := none) hK_)); replace HK := kJ HK hk; replace HB := Aside0.mk (hb); replace HI0 := Aside0.mk (hi); clear hb hk hi ho0) | ((with_reducible refine gate_dst (N := 3) rfl ?_); refine box_event ?hg (N := 3) ?hd (cs := #[.int .i64 0, .slice none 0 0]) (t := 26) ?hr ?_; (case hd => rfl); (case hg => rfl); (case hr => first | (go_simp; done) | (go_simp; rfl)); intro gb179 hg w66 hbox hb; replace HO176 := kR HO176 hb; replace HB := Aside0.mk (below_step hC63_ hb); have BK179 := Aside0.mk (hbox); have GW179 := kW HK hg; have GE179 := kX HW0 (kW HK hg); replace HK := Aside0.mk (KeepBut.trans hK_ (KeepBut.of_below hb g none) (.inl rfl)); have NB172_179 := kN BK172 hg; have NB179_172 := kM BK172 hg; replace BK172 := kB BK172 hb; have NB0_179 := Aside0.mk ((by rw [hg]; exact Nat.ne_of_lt (IsS63.lt (show IsS63 w0 _ g s0_0 t177 t178 from hI63_HI0)) : g ≠ gb179)); have NB179_0 := Aside0.mk ((by rw [hg]; exact Nat.ne_of_gt (IsS63.lt (show IsS63 w0 _ g s0_0 t177 t178 from hI63_HI0)) : gb179 ≠ g)); replace HI0 := Aside0.mk (IsS63.below hI63_HI0 hb); clear hb hbox hg; have hnb67 := NB179_172.out; have hnc67 := NB172_179.out; have hnb68 := NB179_0.out; have hnc68 := NB0_179.out; have hcz69_0 : w66.cell? ⟨gb179, 0, none⟩ = some (.int .i64 0) := (blk_cell BK179.out 0).trans rfl; have hcz69_1 : w66.cell? ⟨gb179, 1, none⟩ = some (.slice none 0 0) := (blk_cell BK179.out 1).trans rfl; have hfz69_0 := blk_frozen BK179.out 0; have hfz69_1 := blk_frozen BK179.out 1; obtain ⟨Ao70, co70, eo70⟩ := Kd.R_slice HO176.out; subst eo70) | ((with_reducible refine gate_callee (f := 38) rfl ?_); refine goesL_ (some 7) rfl rfl Tryz.func38 (by kernel_rfl) rfl #[.pointer (some ⟨g, 0, none⟩), .int .i64 14] rfl gL_ ?_; (with_reducible refine (spec_l1Below.calls g s0_0 t177 t178 14 t180 t181 t182 w0 _ ?side1 ?side2 A3.out).mono ?_); (case side1 => exact hI63_HI0); (case side2 => exact hC63_); rintro e w71 ⟨rfl, hi, hb, hk⟩; refine ⟨_, rfl, ?_⟩; replace BK172 := Aside0.mk (KeepBut.blk hk (g' := gb172) (o := .cells #[.int .i64 0, .slice none 0 0] 26 (0, 0)) (qF NB172_179 (qF NB172_179 BK172)).out NB172_0.out (by simp)); replace HO176 := Aside0.mk (Kd.R_mono (Kd.R_keep (IsS63.apart (show IsS63 w0 _ g s0_0 t177 t178 from hI63_HI0) (rW (kT HO176 BK179).out) (by decide)) hk (fun _ h => h.2)) (fun _ h => h.1)); replace BK179 := Aside0.mk (KeepBut.blk hk (g' := gb179) (o := .cells #[.int .i64 t173, .slice Ao70 t174.length co70] 26 (0, 0)) (qP (qP BK179)).out NB179_0.out (by simp)); replace HK := kJ HK hk; replace HB := Aside0.mk (hb); replace HI0 := Aside0.mk (hi); clear hb hk hi; have hcz72_0 : w71.cell? ⟨gb179, 0, none⟩ = some (.int .i64 t173) := (blk_cell BK179.out 0).trans rfl; have hcz72_1 : w71.cell? ⟨gb179, 1, none⟩ = some (.slice Ao70 t174.length co70) := (blk_cell BK179.out 1).trans rfl; have hfz72_0 := blk_frozen BK179.out 0; have hfz72_1 := blk_frozen BK179.out 1; have hnb73 := NB172_0.out; have hnc73 := NB0_172.out; have hcz74_0 : w71.cell? ⟨gb172, 0, none⟩ = some (.int .i64 0) := (blk_cell BK172.out 0).trans rfl; have hcz74_1 : w71.cell? ⟨gb172, 1, none⟩ = some (.slice none 0 0) := (blk_cell BK172.out 1).trans rfl; have hfz74_0 := blk_frozen BK172.out 0; have hfz74_1 := blk_frozen BK172.out 1))
        refine bodyPost_ret (results_cell_row rfl _ _ gb172 26 #[.int .i64 t173, .slice Ao70 t174.length co70] (0, 0) _ rfl (qP (qP BK172)).out Tryz.underlying26 rfl (by kernel_rfl)) rfl ?_
        exact ⟨_, eR_, by (with_reducible repeat (first | apply Kd.R_alloc | apply Kd.R_drewN | apply Kd.R_drew)); exact Kd.R_mono (Kd.R_far (p := ⟨gb172, 1, none⟩) (Kd.R_far (p := ⟨gb172, 0, none⟩) (Kd.R_types HO176.out BK172.out (by decide)) (fun _ hk => hk.2) (.int .i64 t173)) (fun _ hk => hk.2) (.slice Ao70 t174.length co70)) (fun _ hk => trivial), hI63_HI0, hC63_, hK_⟩

/-! ### spec_l1New: function 31 -/
def spec_l1New.l0 : Nat → List Int → Int → Int → Option (List Int × Int × Int)
  | 0, _, _, _ => none
  | k + 1, x0, x3, x4 => if x4 < (x0.length : Int) then (if x4 < 4000 then (if 0 ≤ x4 then (spec_l1New.l0 k x0 (Go.bits .and .i64 (wrap64 ((wrap64 ((wrap64 (x3 * 131)) + (wrap64 (rd x0 x4)))) + 7)) 1073741823) (wrap64 (x4 + 1))) else (none)) else (some (x0, 0, x3))) else (some (x0, 0, x3))
def spec_l1New.f (k : Nat) (l0 : List Int) : Option (List Int × Int × Int) := spec_l1New.l0 k l0 (wrap64 (26583 + (l0.length : Int))) 0
theorem spec_l1New.mono_l : ∀ k, (∀ y0 y1 y2, LeO (spec_l1New.l0 k y0 y1 y2) (spec_l1New.l0 (k + 1) y0 y1 y2))
  | 0 => fun _ _ _ r h => by simp [spec_l1New.l0] at h
  | k + 1 => by
    have ih0 := spec_l1New.mono_l k
    · intro y0 y1 y2
      unfold spec_l1New.l0
      repeat' first
      | (with_reducible exact ih0 _ _ _)
      | (with_reducible exact LeO.refl _)
      | (with_reducible exact LeO.none _)
      | (with_reducible refine LeO.ite ?_ ?_)
      | (with_reducible refine LeO.bind ?_ (fun _ => ?_))
      | exact ih0 _ _ _
      | exact LeO.none _
      | refine LeO.ite ?_ ?_
      | refine LeO.bind ?_ (fun _ => ?_)
theorem spec_l1New.mono : ∀ a0 k, LeO (spec_l1New.f k a0) (spec_l1New.f (k + 1) a0) := by
  intro a0 k
  have ih0 := spec_l1New.mono_l k
  unfold spec_l1New.f
  repeat' first
      | (with_reducible exact ih0 _ _ _)
      | (with_reducible exact LeO.refl _)
      | (with_reducible exact LeO.none _)
      | (with_reducible refine LeO.ite ?_ ?_)
      | (with_reducible refine LeO.bind ?_ (fun _ => ?_))
      | exact ih0 _ _ _
      | exact LeO.none _
      | refine LeO.ite ?_ ?_
      | refine LeO.bind ?_ (fun _ => ?_)
set_option maxHeartbeats 8000000 in
set_option maxRecDepth 100000 in
theorem spec_l1New.calls (k : Nat) (A0 : Option Addr) (c0 : Nat) (l0 : List Int) (r1 : List Int) (r2 : Int) (r3 : Int) (w0 w : World) (hB : Below w0.heap.size w0 w) (hr0 : Kd.C (Kd.int .u8) w0 A0 l0.length l0) (hc0 : l0.length ≤ c0) (h : spec_l1New.f k l0 = some (r1, r2, r3)) :
    Calls Tryz.prog 31 #[.slice A0 l0.length c0] w fun e w' => ∃ g_ : Nat, e = .returned (.pointer (some ⟨g_, 0, none⟩)) ∧ IsS63 w0 w' g_ r1 r2 r3 ∧ Below w0.heap.size w0 w' ∧ Below w.heap.size w w' := by
  have hu63 := Tryz.underlying63
  have HR0 := Aside0.mk hr0
  have HC0 := Aside0.mk hc0
  clear hr0 hc0
  have HBW := Aside0.mk (Below.refl w.heap.size w)
  have HW0 := Aside0.mk hB.size
  have HB := Aside0.mk hB
  clear hB
  have H : (spec_l1New.l0 k l0 (wrap64 (26583 + (l0.length : Int))) 0) = some (r1, r2, r3) := h
  clear h
  have H' := Aside0.mk H
  clear H
  go_enter Tryz.func31, Tryz.ntmps31
  go_wp2
  go_loopg [3, 4] k (fun kq v3 v4 w' => ∃ (x3_1 : Int) (x4_1 : Int), v3 = .int .i64 x3_1 ∧ v4 = .int .i64 x4_1 ∧ Aside0 (spec_l1New.l0 kq l0 x3_1 x4_1 = some (r1, r2, r3)) ∧ Aside0 (kq ≤ k) ∧ Aside0 (Below w0.heap.size w0 w') ∧ Aside0 (Below w.heap.size w w'))
  case atStart => exact ⟨(wrap64 (26583 + (l0.length : Int))), (0), (by first | rfl | (simp; done) | (simp [*]; done)), (by first | rfl | (simp; done) | (simp [*]; done)), H', ⟨Nat.le_refl _⟩, ⟨hB_⟩, ⟨by repeat (first | (with_reducible first | exact HBW.out | apply below_alloc | apply pw_below_drewN | apply below_drew1) | exact HBW.out)⟩⟩
  case round =>
    clear H'
    obtain ⟨x3_1, x4_1, rfl, rfl, HA, HK1, HB, HBW⟩ := hrel
    cases gk with
    | zero => exact absurd HA.out (by simp [spec_l1New.l0])
    | succ k1 =>
      have H := HA.out
      clear HA
      simp only [spec_l1New.l0] at H
      by_cases c2 : x4_1 < (l0.length : Int)
      · rw [if_pos c2] at H
        have c2b0 : decide (x4_1 < (l0.length : Int)) = true := decide_eq_true c2
        clear c2
        by_cases c3 : x4_1 < 4000
        · rw [if_pos c3] at H
          have c3b0 : decide (x4_1 < 4000) = true := decide_eq_true c3
          clear c3
          by_cases c4 : 0 ≤ x4_1
          · rw [if_pos c4] at H
            have c4b0 : decide (0 ≤ x4_1) = true := decide_eq_true c4
            clear c4
            have H' := Aside0.mk H
            clear H
            have p198 : 0 ≤ (x4_1 : Int) := of_decide_eq_true (by first | (with_reducible assumption) | assumption)
            have q198 : x4_1 < (l0.length : Int) := of_decide_eq_true (by first | (with_reducible assumption) | assumption)
            obtain ⟨ad198, e198, hx198_0⟩ := Kd.at_int HR0.out x4_1 p198 q198
            cases e198
            replace hx198_0 := pw_cell_below HB.out hx198_0
            replace p198 := eq_true p198
            replace q198 := eq_true q198
            go_wp2
            go_roundg k1
            case measure => have := HK1.out; omega
            case rel => exact ⟨(Go.bits .and .i64 (wrap64 ((wrap64 ((wrap64 (x3_1 * 131)) + (wrap64 (rd l0 x4_1)))) + 7)) 1073741823), (wrap64 (x4_1 + 1)), (by first | rfl | (simp; done) | (simp [*]; done)), (by first | rfl | (simp; done) | (simp [*]; done)), H', ⟨by have := HK1.out; omega⟩, ⟨hB_⟩, ⟨by repeat (first | (with_reducible first | exact HBW.out | apply below_alloc | apply pw_below_drewN | apply below_drew1) | exact HBW.out)⟩⟩
          · rw [if_neg c4] at H
            exact absurd H (by simp)
        · rw [if_neg c3] at H
          have c3b0 : decide (x4_1 < 4000) = false := decide_eq_false c3
          clear c3
          simp only [Option.some.injEq, Prod.mk.injEq] at H
          obtain ⟨rfl, rfl, rfl⟩ := H
          go_wp2_with (first | ((with_reducible refine gate_dst (N := 31) rfl ?_); refine box_event ?hg (N := 31) ?hd (cs := #[.slice A0 l0.length c0, .int .i64 0, .int .i64 x3_1]) (t := 63) ?hr ?_; (case hd => rfl); (case hg => rfl); (case hr => first | (go_simp; done) | (go_simp; rfl)); intro gb199 hg w5 hbox hb; replace HB := kH HB hb; have BK199 := Aside0.mk (hbox); have GW199 := Aside0.mk ((by rw [hg]; exact (below_size (by repeat (first | (with_reducible first | exact HBW.out | apply below_alloc | apply pw_below_drewN | apply below_drew1) | exact HBW.out))) : w.heap.size ≤ gb199)); have GE199 := Aside0.mk ((Nat.le_trans HW0.out (by rw [hg]; exact (below_size (by repeat (first | (with_reducible first | exact HBW.out | apply below_alloc | apply pw_below_drewN | apply below_drew1) | exact HBW.out))) : w.heap.size ≤ gb199) : w0.heap.size ≤ gb199)); replace HBW := Aside0.mk (below_step HBW.out hb); clear hb hbox hg))
          go_ret
          exact ⟨_, rfl, (show IsS63 w0 _ gb199 l0 0 x3_1 from ⟨_, _, by (with_reducible repeat (first | refine blk_drewN ?_ _ | refine blk_drew ?_ | refine blk_alloc ?_ _)); exact BK199.out, GE199.out, HR0.out⟩), hB_, by repeat (first | (with_reducible first | exact HBW.out | apply below_alloc | apply pw_below_drewN | apply below_drew1 | refine below_set ?_ GW199.out) | exact HBW.out)⟩
      · rw [if_neg c2] at H
        have c2b0 : decide (x4_1 < (l0.length : Int)) = false := decide_eq_false c2
        clear c2
        simp only [Option.some.injEq, Prod.mk.injEq] at H
        obtain ⟨rfl, rfl, rfl⟩ := H
        go_wp2_with (first | ((with_reducible refine gate_dst (N := 31) rfl ?_); refine box_event ?hg (N := 31) ?hd (cs := #[.slice A0 l0.length c0, .int .i64 0, .int .i64 x3_1]) (t := 63) ?hr ?_; (case hd => rfl); (case hg => rfl); (case hr => first | (go_simp; done) | (go_simp; rfl)); intro gb200 hg w6 hbox hb; replace HB := kH HB hb; have BK200 := Aside0.mk (hbox); have GW200 := Aside0.mk ((by rw [hg]; exact (below_size (by repeat (first | (with_reducible first | exact HBW.out | apply below_alloc | apply pw_below_drewN | apply below_drew1) | exact HBW.out))) : w.heap.size ≤ gb200)); have GE200 := Aside0.mk ((Nat.le_trans HW0.out (by rw [hg]; exact (below_size (by repeat (first | (with_reducible first | exact HBW.out | apply below_alloc | apply pw_below_drewN | apply below_drew1) | exact HBW.out))) : w.heap.size ≤ gb200) : w0.heap.size ≤ gb200)); replace HBW := Aside0.mk (below_step HBW.out hb); clear hb hbox hg))
        go_ret
        exact ⟨_, rfl, (show IsS63 w0 _ gb200 l0 0 x3_1 from ⟨_, _, by (with_reducible repeat (first | refine blk_drewN ?_ _ | refine blk_drew ?_ | refine blk_alloc ?_ _)); exact BK200.out, GE200.out, HR0.out⟩), hB_, by repeat (first | (with_reducible first | exact HBW.out | apply below_alloc | apply pw_below_drewN | apply below_drew1 | refine below_set ?_ GW200.out) | exact HBW.out)⟩

/-! ### spec_DrawConcepts: function 5 -/
def spec_DrawConcepts.f (k : Nat) (l0 : List Int) : Option (Int × List Int) := (spec_l1New.f k l0).bind fun bt202 => ((spec_l3Bent.f k bt202.1 bt202.2.1 bt202.2.2).bind fun bt206 => (some (bt206.1, bt206.2.1)))
theorem spec_DrawConcepts.mono : ∀ a0 k, LeO (spec_DrawConcepts.f k a0) (spec_DrawConcepts.f (k + 1) a0) := by
  intro a0 k
  unfold spec_DrawConcepts.f
  repeat' first
      | (with_reducible exact spec_l1New.mono _ _)
      | (with_reducible exact spec_l3Bent.mono _ _ _ _)
      | (with_reducible exact LeO.refl _)
      | (with_reducible exact LeO.none _)
      | (with_reducible refine LeO.ite ?_ ?_)
      | (with_reducible refine LeO.bind ?_ (fun _ => ?_))
      | exact spec_l1New.mono _ _
      | exact spec_l3Bent.mono _ _ _ _
      | exact LeO.none _
      | refine LeO.ite ?_ ?_
      | refine LeO.bind ?_ (fun _ => ?_)
set_option maxHeartbeats 8000000 in
set_option maxRecDepth 100000 in
theorem spec_DrawConcepts.calls (k : Nat) (A0 : Option Addr) (c0 : Nat) (l0 : List Int) (r1 : Int) (r2 : List Int) (w : World) (hr0 : Kd.C (Kd.int .u8) w A0 l0.length l0) (hc0 : l0.length ≤ c0) (h : spec_DrawConcepts.f k l0 = some (r1, r2)) :
    Calls Tryz.prog 5 #[.slice A0 l0.length c0] w fun e w' => ∃ v1_ : Value, e = .returned (.agg #[.int .i64 r1, v1_]) ∧ Kd.R (Kd.int .i64) 3 w' w.heap.size (fun _ => True) v1_ r2 ∧ Below w.heap.size w w' := by
  have hu26 := Tryz.underlying26
  have HR0 := Aside0.mk hr0
  have HC0 := Aside0.mk hc0
  clear hr0 hc0
  have HB := Aside0.mk (Below.refl w.heap.size w)
  have H : ((spec_l1New.f k l0).bind fun bt202 => ((spec_l3Bent.f k bt202.1 bt202.2.1 bt202.2.2).bind fun bt206 => (some (bt206.1, bt206.2.1)))) = some (r1, r2) := h
  clear h
  replace H := aB H
  obtain ⟨⟨t202, t203, t204⟩, A2, H⟩ := H
  dsimp only at H
  replace H := aB H
  obtain ⟨⟨t206, t207, t210, t211⟩, A3, H⟩ := H
  dsimp only at H
  simp only [Option.some.injEq, Prod.mk.injEq] at H
  obtain ⟨rfl, rfl⟩ := H
  go_enter Tryz.func5, Tryz.ntmps5
  go_wp2_with (first | ((with_reducible refine gate_dst (N := 2) rfl ?_); refine box_event ?hg (N := 2) ?hd (cs := #[.int .i64 0, .slice none 0 0]) (t := 26) ?hr ?_; (case hd => rfl); (case hg => rfl); (case hr => first | (go_simp; done) | (go_simp; rfl)); intro gb201 hg w4 hbox hb; have BK201 := Aside0.mk (hbox); have GW201 := kG HB hg; have GE201 := kG HB hg; replace HB := kH HB hb; clear hb hbox hg) | ((with_reducible refine gate_callee (f := 31) rfl ?_); refine goesL_ (some 4) rfl rfl Tryz.func31 (by kernel_rfl) rfl #[.slice A0 l0.length c0] rfl gL_ ?_; (with_reducible refine (spec_l1New.calls k _ _ l0 t202 t203 t204 w _ ?side1 ?side2 ?side3 A2.out).mono ?_); (case side1 => exact hB_); (case side2 => exact HR0.out); (case side3 => exact HC0.out); rintro e w5 ⟨g205, rfl, hi, hb, hb2⟩; refine ⟨_, rfl, ?_⟩; replace HB := Aside0.mk (hb); have HI205 := Aside0.mk (hi); have NB205_201 := Aside0.mk (IsS63.ne_blk hi (blk_below (g := gb201) (o := .cells #[.int .i64 0, .slice none 0 0] 26 (0, 0)) (bW BK201) hb2) (by decide)); have NB201_205 := Aside0.mk (Ne.symm (IsS63.ne_blk hi (blk_below (g := gb201) (o := .cells #[.int .i64 0, .slice none 0 0] 26 (0, 0)) (bW BK201) hb2) (by decide))); replace BK201 := Aside0.mk (blk_below (g := gb201) (o := .cells #[.int .i64 0, .slice none 0 0] 26 (0, 0)) (bW BK201) hb2); clear hb hb2 hi) | ((with_reducible refine gate_callee (f := 30) rfl ?_); refine goesL_ (some 5) rfl rfl Tryz.func30 (by kernel_rfl) rfl #[.pointer (some ⟨g205, 0, none⟩)] rfl gL_ ?_; (with_reducible refine (spec_l3Bent.calls k g205 t202 t203 t204 t206 t207 t210 t211 w _ ?side1 ?side2 A3.out).mono ?_); (case side1 => exact hI63_HI205); (case side2 => exact hC63_); rintro e w6 ⟨v208, rfl, ho0, hi, hb, hk⟩; refine ⟨_, rfl, ?_⟩; replace BK201 := kK hk BK201 NB201_205; have HO209 := Aside0.mk (Kd.R_lower ho0 (below_size hC63_)); replace HB := Aside0.mk (hb); replace HI205 := Aside0.mk (hi); clear hb hk hi ho0; have hnb7 := NB201_205.out; have hnc7 := NB205_201.out; have hcz8_0 : w6.cell? ⟨gb201, 0, none⟩ = some (.int .i64 0) := (blk_cell BK201.out 0).trans rfl; have hcz8_1 : w6.cell? ⟨gb201, 1, none⟩ = some (.slice none 0 0) := (blk_cell BK201.out 1).trans rfl; have hfz8_0 := blk_frozen BK201.out 0; have hfz8_1 := blk_frozen BK201.out 1; obtain ⟨Ao9, co9, eo9⟩ := Kd.R_slice HO209.out; subst eo9))
  refine bodyPost_ret (results_cell_row rfl _ _ gb201 26 #[.int .i64 t206, .slice Ao9 t207.length co9] (0, 0) _ rfl (qP (qP BK201)).out Tryz.underlying26 rfl (by kernel_rfl)) rfl ?_
  exact ⟨_, eR_, by (with_reducible repeat (first | apply Kd.R_alloc | apply Kd.R_drewN | apply Kd.R_drew)); exact Kd.R_mono (Kd.R_far (p := ⟨gb201, 1, none⟩) (Kd.R_far (p := ⟨gb201, 0, none⟩) (Kd.R_types HO209.out BK201.out (by decide)) (fun _ hk => hk.2) (.int .i64 t206)) (fun _ hk => hk.2) (.slice Ao9 t207.length co9)) (fun _ hk => trivial), hC63_⟩

/-! ### impl_within: function 61 -/
def impl_within.f (a0 : Int) (a1 : Int) (a2 : Int) : Option (Bool) := if a1 ≤ a0 then (some (decide (a0 ≤ a2))) else (some false)
set_option maxHeartbeats 8000000 in
set_option maxRecDepth 100000 in
theorem impl_within.calls (a0 : Int) (a1 : Int) (a2 : Int) (r : Bool) (w : World) (h : impl_within.f a0 a1 a2 = some r) :
    Calls Tryz.prog 61 #[.int .i64 a0, .int .i64 a1, .int .i64 a2] w fun e w' => e = .returned (.bool r) ∧ Drawn0 w w' := by
  have H : (if a1 ≤ a0 then (some (decide (a0 ≤ a2))) else (some false)) = some r := h
  clear h
  by_cases c4 : a1 ≤ a0
  · rw [if_pos c4] at H
    have c4b0 : decide (a1 ≤ a0) = true := decide_eq_true c4
    clear c4
    obtain rfl := Option.some.inj H
    go_enter Tryz.func61, Tryz.ntmps61
    go_wp2
    go_ret
    exact ⟨by first | rfl | (simp; done) | (simp [*]; done), by repeat (first | exact Drawn0.refl _ | apply Drawn0.step)⟩
  · rw [if_neg c4] at H
    have c4b0 : decide (a1 ≤ a0) = false := decide_eq_false c4
    clear c4
    obtain rfl := Option.some.inj H
    go_enter Tryz.func61, Tryz.ntmps61
    go_wp2
    go_ret
    exact ⟨by first | rfl | (simp; done) | (simp [*]; done), by repeat (first | exact Drawn0.refl _ | apply Drawn0.step)⟩

/-! ### slices.ContainsFunc at []int, of a literal that answers p: function 62 -/
/-- The first place of l where p holds, or -1. -/
def idxP (p : Int → Bool) (l : List Int) : Int := if l.any p then (l.findIdx p : Int) else -1
theorem idxP_at {p : Int → Bool} {l : List Int} {i : Nat} (hi : i < l.length) (hp : p (l.getD i 0) = true) (hn : ∀ j, j < i → p (l.getD j 0) = false) : idxP p l = i := by
  have e : ∀ j (h : j < l.length), l.getD j 0 = l[j] := fun j h => by rw [List.getD_eq_getElem?_getD, List.getElem?_eq_getElem h]; rfl
  have h1 : l.any p = true := by rw [List.any_eq_true]; exact ⟨l[i], List.getElem_mem hi, by rw [← e i hi]; exact hp⟩
  have h2 : l.findIdx p = i := by
    rw [List.findIdx_eq hi]
    refine ⟨by rw [← e i hi]; exact hp, fun j hj => ?_⟩
    have := hn j hj
    rw [e j (by omega)] at this
    exact this
  unfold idxP; rw [if_pos h1, h2]
theorem idxP_none {p : Int → Bool} {l : List Int} (hn : ∀ j, j < l.length → p (l.getD j 0) = false) : idxP p l = -1 := by
  have e : ∀ j (h : j < l.length), l.getD j 0 = l[j] := fun j h => by rw [List.getD_eq_getElem?_getD, List.getElem?_eq_getElem h]; rfl
  have h1 : l.any p = false := by
    rw [List.any_eq_false]; intro x hx
    obtain ⟨j, hj, rfl⟩ := List.getElem_of_mem hx
    rw [← e j hj, hn j hj]; simp
  unfold idxP; rw [h1]; rfl
def ClearTo (p : Int → Bool) (l : List Int) (i : Nat) : Prop := ∀ j, j < i → p (l.getD j 0) = false
set_option maxHeartbeats 1000000 in
theorem indexFunc_calls (g : Nat) (lb : Array Value) (p : Int → Bool) (A : Option Addr) (c : Nat) (l : List Int) (w : World)
    (hr : Kd.C (Kd.int .i64) w A l.length l) (hc : l.length ≤ c) (hl : l.length ≤ 281474976710656)
    (eg : ∀ args w, (callFunc g args).run Tryz.prog w = .ok (.enter g args) w)
    (hp : ∀ W x, Below w.heap.size w W → Calls Tryz.prog g (#[.int .i64 x] ++ lb) W fun e w' => e = .returned (.bool (p x)) ∧ Drawn0 W w') :
    Calls Tryz.prog 76 #[.slice A l.length c, .func (.func g) #[] lb] w fun e w' => e = .returned (.int .i64 (idxP p l)) ∧ Below w.heap.size w w' := by
  have HR := Aside0.mk hr
  have HP := Aside0.mk hp
  clear hr hp
  have HB := Aside0.mk (Below.refl w.heap.size w)
  go_enter Tryz.func76, Tryz.ntmps76
  go_wp2
  go_loopg [5, 8] (l.length + 1) (fun kq _ v8 w' => ∃ x : Int, v8 = .int .i64 x ∧ Aside0 (0 ≤ x ∧ x ≤ l.length) ∧ Aside0 ((kq : Int) + x = l.length + 1) ∧ Aside0 (ClearTo p l x.toNat) ∧ Aside0 (Below w.heap.size w w'))
  case atStart => exact ⟨0, rfl, ⟨by omega⟩, ⟨by omega⟩, ⟨fun j hj => absurd hj (Nat.not_lt_zero _)⟩, HB⟩
  case round =>
    clear HB
    obtain ⟨x, rfl, HI, HK, HN, HB⟩ := hrel
    by_cases hlt : x < (l.length : Int)
    · have p1 : 0 ≤ x := HI.out.1
      obtain ⟨ad, e1, hx⟩ := Kd.at_int HR.out x p1 hlt
      cases e1
      replace hx := (HB.out.cell (World.block_lt_of_cell? w _ hx)).trans hx
      have HC : Aside0 (∀ W, Below w.heap.size w W → Calls Tryz.prog g (#[.int .i64 (rd l x)] ++ lb) W fun e w' => e = .returned (.bool (p (rd l x))) ∧ Drawn0 W w') := ⟨fun W h => HP.out W (rd l x) h⟩
      have HX := Aside0.mk hlt
      have c3 : decide (x < (l.length : Int)) = true := decide_eq_true hlt
      have p1' := eq_true p1
      have q1' := eq_true hlt
      clear p1 hlt
      have hgd : l.getD x.toNat 0 = rd l x := rfl
      have HG := Aside0.mk hgd
      clear hgd
      cases hpv : p (rd l x) with
      | true =>
        have HV := Aside0.mk hpv
        clear hpv
        rw [HV.out] at HC
        have HC2 := Aside0.mk (HC.out wr HB.out)
        go_wp2_with fail
        refine HC2.out.mono ?_
        rintro e w' ⟨rfl, ⟨nd, rfl⟩⟩
        go_wp2_with fail
        go_ret
        refine ⟨?_, by repeat (first | exact HB.out | apply pw_below_drewN | apply below_drew1)⟩
        have hi := HI.out
        have hx2 := HX.out
        have := idxP_at (p := p) (l := l) (i := x.toNat) (by omega) (by rw [HG.out]; exact HV.out) HN.out
        rw [this, Int.toNat_of_nonneg hi.1]
        rfl
      | false =>
        have HV := Aside0.mk hpv
        clear hpv
        rw [HV.out] at HC
        have HC2 := Aside0.mk (HC.out wr HB.out)
        go_wp2_with fail
        refine HC2.out.mono ?_
        rintro e w' ⟨rfl, ⟨nd, rfl⟩⟩
        go_wp2_with fail
        have hi := HI.out
        have hx2 := HX.out
        have hk := HK.out
        have ew : wrap64 (x + 1) = x + 1 := by unfold wrap64; omega
        go_roundg (gk - 1)
        case measure => omega
        case rel =>
          refine ⟨x + 1, by first | rfl | (rw [ew]) , ⟨by omega⟩, ⟨by omega⟩, ⟨?_⟩, ⟨by repeat (first | exact HB.out | apply pw_below_drewN | apply below_drew1)⟩⟩
          intro j hj
          by_cases e : j = x.toNat
          · subst e; rw [HG.out]; exact HV.out
          · exact HN.out j (by omega)
    · have c3 : decide (x < (l.length : Int)) = false := decide_eq_false hlt
      have HX := Aside0.mk hlt
      clear hlt
      go_wp2
      go_ret
      refine ⟨?_, HB.out⟩
      have hi := HI.out
      have hx2 := HX.out
      rw [idxP_none (p := p) (l := l) (fun j hj => HN.out j (by omega))]
      rfl

theorem idxP_nonneg (p : Int → Bool) (l : List Int) : decide (0 ≤ idxP p l) = l.any p := by
  unfold idxP
  cases h : l.any p with
  | true => simp only [if_true]; exact decide_eq_true (by omega)
  | false => rfl
set_option maxHeartbeats 1000000 in
theorem containsFunc_calls (g : Nat) (lb : Array Value) (p : Int → Bool) (A : Option Addr) (c : Nat) (l : List Int) (w : World)
    (hr : Kd.C (Kd.int .i64) w A l.length l) (hc : l.length ≤ c) (hl : l.length ≤ 281474976710656)
    (eg : ∀ args w, (callFunc g args).run Tryz.prog w = .ok (.enter g args) w)
    (hp : ∀ W x, Below w.heap.size w W → Calls Tryz.prog g (#[.int .i64 x] ++ lb) W fun e w' => e = .returned (.bool (p x)) ∧ Drawn0 W w') :
    Calls Tryz.prog 62 #[.slice A l.length c, .func (.func g) #[] lb] w fun e w' => e = .returned (.bool (l.any p)) ∧ Below w.heap.size w w' := by
  have HI := Aside0.mk (indexFunc_calls g lb p A c l w hr hc hl eg hp)
  clear hp hr eg
  rw [← idxP_nonneg]
  cases hv : decide (0 ≤ idxP p l) with
  | true =>
    have c1 : decide (idxP p l ≥ 0) = true := hv
    clear hv
    generalize idxP p l = v at HI c1
    go_enter Tryz.func62, Tryz.ntmps62
    go_wp2_with fail
    refine HI.out.mono ?_
    rintro e w' ⟨rfl, hb⟩
    go_wp2
    go_ret
    exact ⟨rfl, hb⟩
  | false =>
    have c1 : decide (idxP p l ≥ 0) = false := hv
    clear hv
    generalize idxP p l = v at HI c1
    go_enter Tryz.func62, Tryz.ntmps62
    go_wp2_with fail
    refine HI.out.mono ?_
    rintro e w' ⟨rfl, hb⟩
    go_wp2
    go_ret
    exact ⟨rfl, hb⟩


/-! ### impl_IsSet: function 64 -/
def impl_IsSet.f (a0 : Int) (a1 : Int) : Option (Bool) := (impl_within.f a0 0 8).bind fun t212 => (if t212 = true then (if 0 ≤ a0 then ((impl_within.f a1 0 (wrap64 ((shl .i64 1 a0) - 1))).bind fun t213 => (some t213)) else (none)) else (some false))
set_option maxHeartbeats 8000000 in
set_option maxRecDepth 100000 in
theorem impl_IsSet.calls (a0 : Int) (a1 : Int) (r : Bool) (w : World) (h : impl_IsSet.f a0 a1 = some r) :
    Calls Tryz.prog 64 #[.int .i64 a0, .int .i64 a1] w fun e w' => e = .returned (.bool r) ∧ Drawn0 w w' := by
  have H : ((impl_within.f a0 0 8).bind fun t212 => (if t212 = true then (if 0 ≤ a0 then ((impl_within.f a1 0 (wrap64 ((shl .i64 1 a0) - 1))).bind fun t213 => (some t213)) else (none)) else (some false))) = some r := h
  clear h
  replace H := aB H
  obtain ⟨t212, A3, H⟩ := H
  by_cases c4 : t212 = true
  · subst c4
    replace H := ifT H
    by_cases c5 : 0 ≤ a0
    · rw [if_pos c5] at H
      have c5b0 := eq_true c5
      have c5b1 : decide (0 ≤ a0) = true := decide_eq_true c5
      clear c5
      obtain ⟨ji6, hji6⟩ : ∃ j_ : Int, (shl .i64 1 a0) = j_ := ⟨_, rfl⟩
      replace H : ((impl_within.f a1 0 (wrap64 ((ji6) - 1))).bind fun t213 => (some t213)) = some r := by first | (rw [hji6] at H; exact H) | (simp only [hji6] at H ⊢; exact H)
      (try rw [hji6] at A3)
      have hji6_ : (IntKind.i64.wrap (1 * 2 ^ min a0.toNat 64)) = ji6 := hji6
      have hji6z : a0 ≤ 64 → (IntKind.i64.wrap (1 * 2 ^ a0.toNat)) = ji6 := shl_small hji6
      have hji6u : (IntKind.i64.wrap (2 ^ min a0.toNat 64)) = ji6 := by have h_ := hji6_; rw [Int.one_mul] at h_; exact h_
      have hji6v : a0 ≤ 64 → (IntKind.i64.wrap (2 ^ a0.toNat)) = ji6 := fun hle_ => by have h_ := hji6z hle_; rw [Int.one_mul] at h_; exact h_
      have hji6y : (wrap64 (1 * 2 ^ min a0.toNat 64)) = ji6 := (i64_w _).symm.trans hji6_
      have hji6x : a0 ≤ 64 → (wrap64 (1 * 2 ^ a0.toNat)) = ji6 := fun h_ => (i64_w _).symm.trans (hji6z h_)
      replace H := aB H
      obtain ⟨t213, A7, H⟩ := H
      obtain rfl := Option.some.inj H
      go_enter Tryz.func64, Tryz.ntmps64
      go_wp2_with (first | ((with_reducible refine gate_callee (f := 61) rfl ?_); refine goesL_ (some 6) rfl rfl Tryz.func61 (by kernel_rfl) rfl #[.int .i64 a0, .int .i64 0, .int .i64 8] rfl gL_ ?_; (with_reducible refine (impl_within.calls a0 0 8 true _ A3.out).mono ?_); rintro e w' ⟨rfl, ⟨nd, rfl⟩⟩; refine ⟨_, rfl, ?_⟩) | (go_at_call 61; (with_reducible refine (impl_within.calls a1 0 (wrap64 ((ji6) - 1)) t213 _ A7.out).mono ?_); rintro e w' ⟨rfl, ⟨nd, rfl⟩⟩))
      go_ret
      exact ⟨by first | rfl | (simp; done) | (simp only [← hji6] <;> (first | rfl | simp)) | (simp [*]; done), by repeat (first | exact Drawn0.refl _ | apply Drawn0.step)⟩
    · rw [if_neg c5] at H
      exact absurd H (by simp)
  · replace c4 := Bool.eq_false_iff.mpr c4
    subst c4
    replace H := ifF H
    obtain rfl := Option.some.inj H
    go_enter Tryz.func64, Tryz.ntmps64
    go_wp2_with (first | ((with_reducible refine gate_callee (f := 61) rfl ?_); refine goesL_ (some 6) rfl rfl Tryz.func61 (by kernel_rfl) rfl #[.int .i64 a0, .int .i64 0, .int .i64 8] rfl gL_ ?_; (with_reducible refine (impl_within.calls a0 0 8 false _ A3.out).mono ?_); rintro e w' ⟨rfl, ⟨nd, rfl⟩⟩; refine ⟨_, rfl, ?_⟩))
    go_ret
    exact ⟨by first | rfl | (simp; done) | (simp [*]; done), by repeat (first | exact Drawn0.refl _ | apply Drawn0.step)⟩

/-! ### impl_IsContext: function 32 -/
theorem impl_IsSet.some_ (a b : Int) : ∃ r, impl_IsSet.f a b = some r := by
  unfold impl_IsSet.f impl_within.f
  by_cases h0 : 0 ≤ a
  · by_cases h1 : a ≤ 8
    · by_cases h2 : 0 ≤ b <;> simp [h0, h1, h2]
    · simp [h0, h1]
  · simp [h0]
def impl_IsContext.row (a x : Int) : Bool := (impl_IsSet.f a x).getD false
theorem impl_IsContext.lit (a x : Int) (b : Nat) (A : Option Addr) (n c : Nat) (W : World) (hb : W.heap[b]? = some (.cells #[.int .i64 a, .slice A n c] 26 (0, 0))) :
    Calls Tryz.prog 63 (#[.int .i64 x] ++ #[.pointer (some ⟨b, 0, none⟩)]) W fun e w' => e = .returned (.bool (!impl_IsContext.row a x)) ∧ Drawn0 W w' := by
  obtain ⟨r, hr⟩ := impl_IsSet.some_ a x
  have hrow : impl_IsContext.row a x = r := by unfold impl_IsContext.row; rw [hr]; rfl
  rw [hrow]
  have HR := Aside0.mk hr
  clear hr hrow
  have hc0 : W.cell? ⟨b, 0, none⟩ = some (.int .i64 a) := (blk_cell hb 0).trans rfl
  clear hb
  go_enter Tryz.func63, Tryz.ntmps63
  go_wp2_with (go_at_call 64; (with_reducible refine (impl_IsSet.calls a x r _ HR.out).mono ?_); rintro e w' ⟨rfl, ⟨nd, rfl⟩⟩)
  go_ret
  exact ⟨rfl, by repeat (first | exact Drawn0.refl _ | apply Drawn0.step)⟩
/-- Of a context: its attributes, its rows. -/
def impl_IsContext.f (a0_0 : Int) (l0_1 : List Int) : Option (Bool) := (impl_within.f a0_0 0 6).bind fun t => (if t = true then (if (l0_1.length : Int) ≤ 8 then (some (!(l0_1.any fun x => !impl_IsContext.row a0_0 x))) else (some false)) else (some false))
set_option maxHeartbeats 2000000 in
set_option maxRecDepth 100000 in
theorem impl_IsContext.calls (a0_0 : Int) (A0_1 : Option Addr) (c0_1 : Nat) (l0_1 : List Int) (r : Bool) (w : World) (hr0_1 : Kd.C (Kd.int .i64) w A0_1 l0_1.length l0_1) (hc0_1 : l0_1.length ≤ c0_1) (h : impl_IsContext.f a0_0 l0_1 = some r) :
    Calls Tryz.prog 32 #[.agg #[.int .i64 a0_0, .slice A0_1 l0_1.length c0_1]] w fun e w' => e = .returned (.bool r) ∧ Below w.heap.size w w' := by
  have huC := Tryz.underlying26
  have HR := Aside0.mk hr0_1
  have HC := Aside0.mk hc0_1
  clear hr0_1 hc0_1
  have HB := Aside0.mk (Below.refl w.heap.size w)
  have H : ((impl_within.f a0_0 0 6).bind fun t => (if t = true then (if (l0_1.length : Int) ≤ 8 then (some (!(l0_1.any fun x => !impl_IsContext.row a0_0 x))) else (some false)) else (some false))) = some r := h
  clear h
  replace H := Option.bind_eq_some_iff.mp H
  obtain ⟨t, A3, H⟩ := H
  replace A3 := Aside0.mk A3
  by_cases c4 : t = true
  · subst c4
    rw [if_pos rfl] at H
    by_cases c5 : (l0_1.length : Int) ≤ 8
    · rw [if_pos c5] at H
      have HL := Aside0.mk c5
      have c5b : decide ((l0_1.length : Int) ≤ 8) = true := decide_eq_true c5
      clear c5
      obtain rfl := Option.some.inj H
      clear H
      generalize hv : (l0_1.any fun x => !impl_IsContext.row a0_0 x) = v
      have HV := Aside0.mk hv
      clear hv
      go_enter Tryz.func32, Tryz.ntmps32
      go_wp2_with fail
      refine (impl_within.calls a0_0 0 6 true _ A3.out).mono ?_
      rintro e w' ⟨rfl, ⟨nd, rfl⟩⟩
      go_wp2_with fail
      have hb : Below w.heap.size w ((w.alloc (Obj.cells #[Value.int IntKind.i64 a0_0, Value.slice A0_1 l0_1.length c0_1] 26)).drewN nd) := by
        repeat (first | exact HB.out | apply below_alloc | apply pw_below_drewN | apply below_drew1)
      have hbox : ((w.alloc (Obj.cells #[Value.int IntKind.i64 a0_0, Value.slice A0_1 l0_1.length c0_1] 26)).drewN nd).heap[w.heap.size]? = some (.cells #[.int .i64 a0_0, .slice A0_1 l0_1.length c0_1] 26 (0, 0)) := by
        refine blk_drewN ?_ _
        exact blk_new _ _
      have hsz : w.heap.size < ((w.alloc (Obj.cells #[Value.int IntKind.i64 a0_0, Value.slice A0_1 l0_1.length c0_1] 26)).drewN nd).heap.size := by
        exact blk_lt (blk_drewN (blk_new w _) nd)
      have HW := Aside0.mk hb
      have HBX := Aside0.mk hbox
      have HZ := Aside0.mk hsz
      clear hb hbox hsz
      refine (containsFunc_calls 63 #[.pointer (some ⟨w.heap.size, 0, none⟩)] (fun x => !impl_IsContext.row a0_0 x) A0_1 c0_1 l0_1 _ (Kd.C_below HR.out HW.out) HC.out (by have := HL.out; omega) (Go.Proofs.enters_of Tryz.func63 (by kernel_rfl) rfl) ?_).mono ?_
      · intro W x hW
        refine impl_IsContext.lit a0_0 x w.heap.size A0_1 l0_1.length c0_1 W ?_
        rw [hW.block _ HZ.out]
        exact HBX.out
      · rintro e w' ⟨rfl, hb2⟩
        rw [HV.out]
        have HB2 := Aside0.mk (HW.out.trans (hb2.mono (Nat.le_of_lt HZ.out)))
        clear hb2 HW HBX HZ
        go_wp2
        go_ret
        exact ⟨rfl, HB2.out⟩
    · rw [if_neg c5] at H
      have c5b : decide ((l0_1.length : Int) ≤ 8) = false := decide_eq_false c5
      clear c5
      obtain rfl := Option.some.inj H
      clear H
      go_enter Tryz.func32, Tryz.ntmps32
      go_wp2_with fail
      refine (impl_within.calls a0_0 0 6 true _ A3.out).mono ?_
      rintro e w' ⟨rfl, ⟨nd, rfl⟩⟩
      go_wp2_with fail
      go_ret
      exact ⟨rfl, by repeat (first | exact HB.out | apply below_alloc | apply pw_below_drewN | apply below_drew1)⟩
  · replace c4 := Bool.eq_false_iff.mpr c4
    subst c4
    rw [if_neg (by decide)] at H
    obtain rfl := Option.some.inj H
    clear H
    go_enter Tryz.func32, Tryz.ntmps32
    go_wp2_with fail
    refine (impl_within.calls a0_0 0 6 false _ A3.out).mono ?_
    rintro e w' ⟨rfl, ⟨nd, rfl⟩⟩
    go_wp2_with fail
    go_ret
    exact ⟨rfl, by repeat (first | exact HB.out | apply below_alloc | apply pw_below_drewN | apply below_drew1)⟩

end Go.Proofs.YtodmfdkmmpefpaaGreatDoor.PFnConcepts
