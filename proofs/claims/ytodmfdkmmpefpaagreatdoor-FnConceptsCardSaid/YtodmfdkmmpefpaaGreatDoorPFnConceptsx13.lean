-- Written by a program of this session (wip/myprint.py), which runs the kit's print with contracts proved by hand; not the kit's own print. Lean checks it.
import Derived.Test.YtodmfdkmmpefpaaGreatDoorPFnConceptsx0
import Derived.Test.YtodmfdkmmpefpaaGreatDoorPFnConceptsx1
import Derived.Test.YtodmfdkmmpefpaaGreatDoorPFnConceptsx2
import Derived.Test.YtodmfdkmmpefpaaGreatDoorPFnConceptsx4
import Derived.Test.YtodmfdkmmpefpaaGreatDoorPFnConceptsx8
import Derived.Test.YtodmfdkmmpefpaaGreatDoorPFnConceptsx9
namespace Go.Proofs.YtodmfdkmmpefpaaGreatDoor.PFnConcepts
open Go.RowKit Go.Proofs.YtodmfdkmmpefpaaGreatDoorW.PrintWords Go.Proofs.YtodmfdkmmpefpaaGreatDoorW.PrintLast Go.Proofs.YtodmfdkmmpefpaaGreatDoorW.PrintMore
attribute [local go_sem] max2_int min2_int max_two min_two max_three min_three max_four min_four   -- for this text's walks alone
set_option linter.unusedVariables false
set_option linter.unusedSimpArgs false

/-! ### spec_AttributeConcept: function 18 -/
def spec_AttributeConcept.f (k : Nat) (a0_0 : Int) (l0_1 : List Int) (a1 : Int) : Option (Int × Int × Bool) := (spec_IsContext.f k a0_0 l0_1).bind fun t467 => (if t467 = true then ((spec_l1In.f a1 0 (wrap64 (a0_0 - 1))).bind fun t468 => (if t468 = true then (if 0 ≤ (IntKind.u64.wrap (a1)) then ((spec_l5Concept.f k a0_0 l0_1 (shl .i64 1 (IntKind.u64.wrap (a1)))).bind fun bt469 => (some (bt469.1, bt469.2, true))) else (none)) else (some (0, 0, false)))) else (some (0, 0, false)))
theorem spec_AttributeConcept.mono : ∀ a0 a1 a2 k, LeO (spec_AttributeConcept.f k a0 a1 a2) (spec_AttributeConcept.f (k + 1) a0 a1 a2) := by
  intro a0 a1 a2 k
  unfold spec_AttributeConcept.f
  repeat' first
      | (with_reducible exact spec_IsContext.mono _ _ _)
      | (with_reducible exact spec_l5Concept.mono _ _ _ _)
      | (with_reducible exact LeO.refl _)
      | (with_reducible exact LeO.none _)
      | (with_reducible refine LeO.ite ?_ ?_)
      | (with_reducible refine LeO.bind ?_ (fun _ => ?_))
      | exact spec_IsContext.mono _ _ _
      | exact spec_l5Concept.mono _ _ _ _
      | exact LeO.none _
      | refine LeO.ite ?_ ?_
      | refine LeO.bind ?_ (fun _ => ?_)
set_option maxHeartbeats 8000000 in
set_option maxRecDepth 100000 in
theorem spec_AttributeConcept.calls (k : Nat) (a0_0 : Int) (A0_1 : Option Addr) (c0_1 : Nat) (l0_1 : List Int) (a1 : Int) (r1 : Int) (r2 : Int) (r3 : Bool) (w : World) (hr0_1 : Kd.C (Kd.int .i64) w A0_1 l0_1.length l0_1) (hc0_1 : l0_1.length ≤ c0_1) (h : spec_AttributeConcept.f k a0_0 l0_1 a1 = some (r1, r2, r3)) :
    Calls Tryz.prog 18 #[.agg #[.int .i64 a0_0, .slice A0_1 l0_1.length c0_1], .int .i64 a1] w fun e w' => e = .returned (.tuple #[.agg #[.int .i64 r1, .int .i64 r2], .bool r3]) ∧ Below w.heap.size w w' := by
  have hu26 := Tryz.underlying26
  have hu31 := Tryz.underlying31
  have HR0_1 := Aside0.mk hr0_1
  have HC0_1 := Aside0.mk hc0_1
  clear hr0_1 hc0_1
  have HB := Aside0.mk (Below.refl w.heap.size w)
  have H : ((spec_IsContext.f k a0_0 l0_1).bind fun t467 => (if t467 = true then ((spec_l1In.f a1 0 (wrap64 (a0_0 - 1))).bind fun t468 => (if t468 = true then (if 0 ≤ (IntKind.u64.wrap (a1)) then ((spec_l5Concept.f k a0_0 l0_1 (shl .i64 1 (IntKind.u64.wrap (a1)))).bind fun bt469 => (some (bt469.1, bt469.2, true))) else (none)) else (some (0, 0, false)))) else (some (0, 0, false)))) = some (r1, r2, r3) := h
  clear h
  replace H := aB H
  obtain ⟨t467, A3, H⟩ := H
  by_cases c4 : t467 = true
  · subst c4
    replace H := ifT H
    replace H := aB H
    obtain ⟨t468, A5, H⟩ := H
    by_cases c6 : t468 = true
    · subst c6
      replace H := ifT H
      obtain ⟨ji7, hji7⟩ : ∃ j_ : Int, (IntKind.u64.wrap (a1)) = j_ := ⟨_, rfl⟩
      replace H : (if 0 ≤ (ji7) then ((spec_l5Concept.f k a0_0 l0_1 (shl .i64 1 (ji7))).bind fun bt469 => (some (bt469.1, bt469.2, true))) else (none)) = some (r1, r2, r3) := by first | (rw [hji7] at H; exact H) | (simp only [hji7] at H ⊢; exact H)
      (try rw [hji7] at A3)
      (try rw [hji7] at A5)
      by_cases c8 : 0 ≤ (ji7)
      · rw [if_pos c8] at H
        have c8b0 := eq_true c8
        have c8b1 : decide (0 ≤ (ji7)) = true := decide_eq_true c8
        clear c8
        obtain ⟨ji9, hji9⟩ : ∃ j_ : Int, (shl .i64 1 (ji7)) = j_ := ⟨_, rfl⟩
        replace H : ((spec_l5Concept.f k a0_0 l0_1 (ji9)).bind fun bt469 => (some (bt469.1, bt469.2, true))) = some (r1, r2, r3) := by first | (rw [hji9] at H; exact H) | (simp only [hji9] at H ⊢; exact H)
        (try rw [hji9] at A3)
        (try rw [hji9] at A5)
        have hji9_ : (IntKind.i64.wrap (1 * 2 ^ min (ji7).toNat 64)) = ji9 := hji9
        have hji9z : (ji7) ≤ 64 → (IntKind.i64.wrap (1 * 2 ^ (ji7).toNat)) = ji9 := shl_small hji9
        have hji9u : (IntKind.i64.wrap (2 ^ min (ji7).toNat 64)) = ji9 := by have h_ := hji9_; rw [Int.one_mul] at h_; exact h_
        have hji9v : (ji7) ≤ 64 → (IntKind.i64.wrap (2 ^ (ji7).toNat)) = ji9 := fun hle_ => by have h_ := hji9z hle_; rw [Int.one_mul] at h_; exact h_
        have hji9y : (wrap64 (1 * 2 ^ min (ji7).toNat 64)) = ji9 := (i64_w _).symm.trans hji9_
        have hji9x : (ji7) ≤ 64 → (wrap64 (1 * 2 ^ (ji7).toNat)) = ji9 := fun h_ => (i64_w _).symm.trans (hji9z h_)
        replace H := aB H
        obtain ⟨⟨t469, t470⟩, A10, H⟩ := H
        dsimp only at H
        simp only [Option.some.injEq, Prod.mk.injEq] at H
        obtain ⟨rfl, rfl, rfl⟩ := H
        go_enter Tryz.func18, Tryz.ntmps18
        go_wp2_with (first | ((with_reducible refine gate_dst (N := 2) rfl ?_); refine box_event ?hg (N := 2) ?hd (cs := #[.int .i64 a0_0, .slice A0_1 l0_1.length c0_1]) (t := 26) ?hr ?_; (case hd => rfl); (case hg => rfl); (case hr => first | (go_simp; done) | (go_simp; rfl)); intro gb465 hg w11 hbox hb; have BK465 := Aside0.mk (hbox); have GW465 := kG HB hg; have GE465 := kG HB hg; replace HB := kH HB hb; clear hb hbox hg) | ((with_reducible refine gate_dst (N := 4) rfl ?_); refine box_event ?hg (N := 4) ?hd (cs := #[.int .i64 0, .int .i64 0]) (t := 31) ?hr ?_; (case hd => rfl); (case hg => rfl); (case hr => first | (go_simp; done) | (go_simp; rfl)); intro gb466 hg w12 hbox hb; have BK466 := Aside0.mk (hbox); have GW466 := kG HB hg; have GE466 := kG HB hg; replace HB := kH HB hb; have NB465_466 := kN BK465 hg; have NB466_465 := kM BK465 hg; replace BK465 := kB BK465 hb; clear hb hbox hg; have hnb13 := NB465_466.out; have hnc13 := NB466_465.out; have hcz14_0 : w12.cell? ⟨gb465, 0, none⟩ = some (.int .i64 a0_0) := (blk_cell BK465.out 0).trans rfl; have hcz14_1 : w12.cell? ⟨gb465, 1, none⟩ = some (.slice A0_1 l0_1.length c0_1) := (blk_cell BK465.out 1).trans rfl; have hfz14_0 := blk_frozen BK465.out 0; have hfz14_1 := blk_frozen BK465.out 1) | ((with_reducible refine gate_callee (f := 27) rfl ?_); refine goesL_ (some 7) rfl rfl Tryz.func27 (by kernel_rfl) rfl #[.agg #[.int .i64 a0_0, .slice A0_1 l0_1.length c0_1]] rfl gL_ ?_; (with_reducible refine (spec_IsContext.calls k a0_0 _ _ l0_1 true _ ?side1 ?side2 A3.out).mono ?_); (case side1 => exact cW (Kd.C_below HR0_1.out HB.out)); (case side2 => exact HC0_1.out); rintro e w15 ⟨rfl, hb⟩; refine ⟨_, rfl, ?_⟩; replace BK465 := kB BK465 hb; replace BK466 := kB BK466 hb; replace HB := kH HB hb; clear hb; have hcz16_0 : w15.cell? ⟨gb465, 0, none⟩ = some (.int .i64 a0_0) := (blk_cell BK465.out 0).trans rfl; have hcz16_1 : w15.cell? ⟨gb465, 1, none⟩ = some (.slice A0_1 l0_1.length c0_1) := (blk_cell BK465.out 1).trans rfl; have hfz16_0 := blk_frozen BK465.out 0; have hfz16_1 := blk_frozen BK465.out 1) | (go_at_call 49; (with_reducible refine (spec_l1In.calls a1 0 (wrap64 (a0_0 - 1)) true _ A5.out).mono ?_); rintro e w' ⟨rfl, ⟨nd, rfl⟩⟩; (try (rw [drewN_self w15]; generalize hq_ : World.drewN w15 _ = w15; have n0_ : Aside0 (w15.heap[gb465]? = some (.cells #[.int .i64 a0_0, .slice A0_1 l0_1.length c0_1] 26 (0, 0))) := ⟨by rw [← hq_]; exact (bW BK465)⟩; have n1_ : Aside0 (w15.heap[gb466]? = some (.cells #[.int .i64 0, .int .i64 0] 31 (0, 0))) := ⟨by rw [← hq_]; exact (bW BK466)⟩; have n2_ : Aside0 (Below w.heap.size w w15) := ⟨by rw [← hq_]; exact hB_⟩; clear BK465 BK466 HB hq_; have BK465 := n0_; have BK466 := n1_; have HB := n2_; clear n0_ n1_ n2_)); (try have hcz17_0 : w15.cell? ⟨gb465, 0, none⟩ = some (.int .i64 a0_0) := (blk_cell BK465.out 0).trans rfl); (try have hcz17_1 : w15.cell? ⟨gb465, 1, none⟩ = some (.slice A0_1 l0_1.length c0_1) := (blk_cell BK465.out 1).trans rfl); (try have hfz17_0 := blk_frozen BK465.out 0); (try have hfz17_1 := blk_frozen BK465.out 1)) | ((with_reducible refine gate_callee (f := 45) rfl ?_); refine goesL_ (some 22) rfl rfl Tryz.func45 (by kernel_rfl) rfl #[.agg #[.int .i64 a0_0, .slice A0_1 l0_1.length c0_1], .int .i64 ji9] rfl (by (try simp only [List.map_toArray, List.map_cons, List.map_nil]); first | done | (simp only [hji9]; rfl) | rfl | (simp only [List.length_drop, List.length_take]; rfl)) ?_; (with_reducible refine (spec_l5Concept.calls k a0_0 _ _ l0_1 ji9 t469 t470 _ ?side1 ?side2 A10.out).mono ?_); (case side1 => exact cW (Kd.C_below HR0_1.out HB.out)); (case side2 => exact HC0_1.out); rintro e w18 ⟨rfl, hb⟩; refine ⟨_, rfl, ?_⟩; replace BK465 := kB BK465 hb; replace BK466 := kB BK466 hb; replace HB := kH HB hb; clear hb; have hcz19_0 : w18.cell? ⟨gb466, 0, none⟩ = some (.int .i64 0) := (blk_cell BK466.out 0).trans rfl; have hcz19_1 : w18.cell? ⟨gb466, 1, none⟩ = some (.int .i64 0) := (blk_cell BK466.out 1).trans rfl; have hfz19_0 := blk_frozen BK466.out 0; have hfz19_1 := blk_frozen BK466.out 1))
        refine bodyPost_ret (results_ct rfl _ _ gb466 31 #[.int .i64 t469, .int .i64 t470] (0, 0) _ rfl (qP (qP BK466)).out Tryz.underlying31 rfl (by kernel_rfl)) rfl ?_
        exact ⟨by first | rfl | (simp [errW_none, errW_some] <;> rfl) | (simp only [← hji7, ← hji9]; first | rfl | (simp [errW_none, errW_some] <;> rfl)) | (simp [*, errW_none, errW_some] <;> rfl), hB_⟩
      · rw [if_neg c8] at H
        exact absurd H (by simp)
    · replace c6 := Bool.eq_false_iff.mpr c6
      subst c6
      replace H := ifF H
      simp only [Option.some.injEq, Prod.mk.injEq] at H
      obtain ⟨rfl, rfl, rfl⟩ := H
      go_enter Tryz.func18, Tryz.ntmps18
      go_wp2_with (first | ((with_reducible refine gate_dst (N := 2) rfl ?_); refine box_event ?hg (N := 2) ?hd (cs := #[.int .i64 a0_0, .slice A0_1 l0_1.length c0_1]) (t := 26) ?hr ?_; (case hd => rfl); (case hg => rfl); (case hr => first | (go_simp; done) | (go_simp; rfl)); intro gb465 hg w20 hbox hb; have BK465 := Aside0.mk (hbox); have GW465 := kG HB hg; have GE465 := kG HB hg; replace HB := kH HB hb; clear hb hbox hg) | ((with_reducible refine gate_dst (N := 4) rfl ?_); refine box_event ?hg (N := 4) ?hd (cs := #[.int .i64 0, .int .i64 0]) (t := 31) ?hr ?_; (case hd => rfl); (case hg => rfl); (case hr => first | (go_simp; done) | (go_simp; rfl)); intro gb466 hg w21 hbox hb; have BK466 := Aside0.mk (hbox); have GW466 := kG HB hg; have GE466 := kG HB hg; replace HB := kH HB hb; have NB465_466 := kN BK465 hg; have NB466_465 := kM BK465 hg; replace BK465 := kB BK465 hb; clear hb hbox hg; have hnb22 := NB465_466.out; have hnc22 := NB466_465.out; have hcz23_0 : w21.cell? ⟨gb465, 0, none⟩ = some (.int .i64 a0_0) := (blk_cell BK465.out 0).trans rfl; have hcz23_1 : w21.cell? ⟨gb465, 1, none⟩ = some (.slice A0_1 l0_1.length c0_1) := (blk_cell BK465.out 1).trans rfl; have hfz23_0 := blk_frozen BK465.out 0; have hfz23_1 := blk_frozen BK465.out 1) | ((with_reducible refine gate_callee (f := 27) rfl ?_); refine goesL_ (some 7) rfl rfl Tryz.func27 (by kernel_rfl) rfl #[.agg #[.int .i64 a0_0, .slice A0_1 l0_1.length c0_1]] rfl gL_ ?_; (with_reducible refine (spec_IsContext.calls k a0_0 _ _ l0_1 true _ ?side1 ?side2 A3.out).mono ?_); (case side1 => exact cW (Kd.C_below HR0_1.out HB.out)); (case side2 => exact HC0_1.out); rintro e w24 ⟨rfl, hb⟩; refine ⟨_, rfl, ?_⟩; replace BK465 := kB BK465 hb; replace BK466 := kB BK466 hb; replace HB := kH HB hb; clear hb; have hcz25_0 : w24.cell? ⟨gb465, 0, none⟩ = some (.int .i64 a0_0) := (blk_cell BK465.out 0).trans rfl; have hcz25_1 : w24.cell? ⟨gb465, 1, none⟩ = some (.slice A0_1 l0_1.length c0_1) := (blk_cell BK465.out 1).trans rfl; have hfz25_0 := blk_frozen BK465.out 0; have hfz25_1 := blk_frozen BK465.out 1) | (go_at_call 49; (with_reducible refine (spec_l1In.calls a1 0 (wrap64 (a0_0 - 1)) false _ A5.out).mono ?_); rintro e w' ⟨rfl, ⟨nd, rfl⟩⟩; (try (rw [drewN_self w24]; generalize hq_ : World.drewN w24 _ = w24; have n0_ : Aside0 (w24.heap[gb465]? = some (.cells #[.int .i64 a0_0, .slice A0_1 l0_1.length c0_1] 26 (0, 0))) := ⟨by rw [← hq_]; exact (bW BK465)⟩; have n1_ : Aside0 (w24.heap[gb466]? = some (.cells #[.int .i64 0, .int .i64 0] 31 (0, 0))) := ⟨by rw [← hq_]; exact (bW BK466)⟩; have n2_ : Aside0 (Below w.heap.size w w24) := ⟨by rw [← hq_]; exact hB_⟩; clear BK465 BK466 HB hq_; have BK465 := n0_; have BK466 := n1_; have HB := n2_; clear n0_ n1_ n2_)); (try have hcz26_0 : w24.cell? ⟨gb465, 0, none⟩ = some (.int .i64 a0_0) := (blk_cell BK465.out 0).trans rfl); (try have hcz26_1 : w24.cell? ⟨gb465, 1, none⟩ = some (.slice A0_1 l0_1.length c0_1) := (blk_cell BK465.out 1).trans rfl); (try have hfz26_0 := blk_frozen BK465.out 0); (try have hfz26_1 := blk_frozen BK465.out 1); have hcz27_0 : w24.cell? ⟨gb466, 0, none⟩ = some (.int .i64 0) := (blk_cell BK466.out 0).trans rfl; have hcz27_1 : w24.cell? ⟨gb466, 1, none⟩ = some (.int .i64 0) := (blk_cell BK466.out 1).trans rfl; have hfz27_0 := blk_frozen BK466.out 0; have hfz27_1 := blk_frozen BK466.out 1))
      refine bodyPost_ret (results_ct rfl _ _ gb466 31 #[.int .i64 0, .int .i64 0] (0, 0) _ rfl (qP (qP BK466)).out Tryz.underlying31 rfl (by kernel_rfl)) rfl ?_
      exact ⟨eR_, hB_⟩
  · replace c4 := Bool.eq_false_iff.mpr c4
    subst c4
    replace H := ifF H
    simp only [Option.some.injEq, Prod.mk.injEq] at H
    obtain ⟨rfl, rfl, rfl⟩ := H
    go_enter Tryz.func18, Tryz.ntmps18
    go_wp2_with (first | ((with_reducible refine gate_dst (N := 2) rfl ?_); refine box_event ?hg (N := 2) ?hd (cs := #[.int .i64 a0_0, .slice A0_1 l0_1.length c0_1]) (t := 26) ?hr ?_; (case hd => rfl); (case hg => rfl); (case hr => first | (go_simp; done) | (go_simp; rfl)); intro gb465 hg w28 hbox hb; have BK465 := Aside0.mk (hbox); have GW465 := kG HB hg; have GE465 := kG HB hg; replace HB := kH HB hb; clear hb hbox hg) | ((with_reducible refine gate_dst (N := 4) rfl ?_); refine box_event ?hg (N := 4) ?hd (cs := #[.int .i64 0, .int .i64 0]) (t := 31) ?hr ?_; (case hd => rfl); (case hg => rfl); (case hr => first | (go_simp; done) | (go_simp; rfl)); intro gb466 hg w29 hbox hb; have BK466 := Aside0.mk (hbox); have GW466 := kG HB hg; have GE466 := kG HB hg; replace HB := kH HB hb; have NB465_466 := kN BK465 hg; have NB466_465 := kM BK465 hg; replace BK465 := kB BK465 hb; clear hb hbox hg; have hnb30 := NB465_466.out; have hnc30 := NB466_465.out; have hcz31_0 : w29.cell? ⟨gb465, 0, none⟩ = some (.int .i64 a0_0) := (blk_cell BK465.out 0).trans rfl; have hcz31_1 : w29.cell? ⟨gb465, 1, none⟩ = some (.slice A0_1 l0_1.length c0_1) := (blk_cell BK465.out 1).trans rfl; have hfz31_0 := blk_frozen BK465.out 0; have hfz31_1 := blk_frozen BK465.out 1) | ((with_reducible refine gate_callee (f := 27) rfl ?_); refine goesL_ (some 7) rfl rfl Tryz.func27 (by kernel_rfl) rfl #[.agg #[.int .i64 a0_0, .slice A0_1 l0_1.length c0_1]] rfl gL_ ?_; (with_reducible refine (spec_IsContext.calls k a0_0 _ _ l0_1 false _ ?side1 ?side2 A3.out).mono ?_); (case side1 => exact cW (Kd.C_below HR0_1.out HB.out)); (case side2 => exact HC0_1.out); rintro e w32 ⟨rfl, hb⟩; refine ⟨_, rfl, ?_⟩; replace BK465 := kB BK465 hb; replace BK466 := kB BK466 hb; replace HB := kH HB hb; clear hb; have hcz33_0 : w32.cell? ⟨gb466, 0, none⟩ = some (.int .i64 0) := (blk_cell BK466.out 0).trans rfl; have hcz33_1 : w32.cell? ⟨gb466, 1, none⟩ = some (.int .i64 0) := (blk_cell BK466.out 1).trans rfl; have hfz33_0 := blk_frozen BK466.out 0; have hfz33_1 := blk_frozen BK466.out 1))
    refine bodyPost_ret (results_ct rfl _ _ gb466 31 #[.int .i64 0, .int .i64 0] (0, 0) _ rfl (qP (qP BK466)).out Tryz.underlying31 rfl (by kernel_rfl)) rfl ?_
    exact ⟨eR_, hB_⟩

/-! ### spec_DrawConceptText: function 19 -/
def spec_DrawConceptText.f (k : Nat) (l0 : List Int) : Option (Int × Int) := (spec_l1New.f k l0).bind fun bt472 => ((spec_l2Bent.f bt472.1 bt472.2.1 bt472.2.2).bind fun bt476 => ((spec_l2Bent.f bt472.1 bt476.2.1 bt476.2.2).bind fun bt479 => (some (bt476.1, bt479.1))))
theorem spec_DrawConceptText.mono : ∀ a0 k, LeO (spec_DrawConceptText.f k a0) (spec_DrawConceptText.f (k + 1) a0) := by
  intro a0 k
  unfold spec_DrawConceptText.f
  repeat' first
      | (with_reducible exact spec_l1New.mono _ _)
      | (with_reducible exact LeO.refl _)
      | (with_reducible exact LeO.none _)
      | (with_reducible refine LeO.ite ?_ ?_)
      | (with_reducible refine LeO.bind ?_ (fun _ => ?_))
      | exact spec_l1New.mono _ _
      | exact LeO.none _
      | refine LeO.ite ?_ ?_
      | refine LeO.bind ?_ (fun _ => ?_)
set_option maxHeartbeats 8000000 in
set_option maxRecDepth 100000 in
theorem spec_DrawConceptText.calls (k : Nat) (A0 : Option Addr) (c0 : Nat) (l0 : List Int) (r1 : Int) (r2 : Int) (w : World) (hr0 : Kd.C (Kd.int .u8) w A0 l0.length l0) (hc0 : l0.length ≤ c0) (h : spec_DrawConceptText.f k l0 = some (r1, r2)) :
    Calls Tryz.prog 19 #[.slice A0 l0.length c0] w fun e w' => e = .returned (.agg #[.int .i64 r1, .int .i64 r2]) ∧ Below w.heap.size w w' := by
  have hu31 := Tryz.underlying31
  have HR0 := Aside0.mk hr0
  have HC0 := Aside0.mk hc0
  clear hr0 hc0
  have HB := Aside0.mk (Below.refl w.heap.size w)
  have H : ((spec_l1New.f k l0).bind fun bt472 => ((spec_l2Bent.f bt472.1 bt472.2.1 bt472.2.2).bind fun bt476 => ((spec_l2Bent.f bt472.1 bt476.2.1 bt476.2.2).bind fun bt479 => (some (bt476.1, bt479.1))))) = some (r1, r2) := h
  clear h
  replace H := aB H
  obtain ⟨⟨t472, t473, t474⟩, A2, H⟩ := H
  dsimp only at H
  replace H := aB H
  obtain ⟨⟨t476, t477, t478⟩, A3, H⟩ := H
  dsimp only at H
  replace H := aB H
  obtain ⟨⟨t479, t480, t481⟩, A4, H⟩ := H
  dsimp only at H
  simp only [Option.some.injEq, Prod.mk.injEq] at H
  obtain ⟨rfl, rfl⟩ := H
  go_enter Tryz.func19, Tryz.ntmps19
  go_wp2_with (first | ((with_reducible refine gate_dst (N := 2) rfl ?_); refine box_event ?hg (N := 2) ?hd (cs := #[.int .i64 0, .int .i64 0]) (t := 31) ?hr ?_; (case hd => rfl); (case hg => rfl); (case hr => first | (go_simp; done) | (go_simp; rfl)); intro gb471 hg w5 hbox hb; have BK471 := Aside0.mk (hbox); have GW471 := kG HB hg; have GE471 := kG HB hg; replace HB := kH HB hb; clear hb hbox hg) | ((with_reducible refine gate_callee (f := 31) rfl ?_); refine goesL_ (some 5) rfl rfl Tryz.func31 (by kernel_rfl) rfl #[.slice A0 l0.length c0] rfl gL_ ?_; (with_reducible refine (spec_l1New.calls k _ _ l0 t472 t473 t474 w _ ?side1 ?side2 ?side3 A2.out).mono ?_); (case side1 => exact hB_); (case side2 => exact HR0.out); (case side3 => exact HC0.out); rintro e w6 ⟨g475, rfl, hi, hb, hb2⟩; refine ⟨_, rfl, ?_⟩; replace HB := Aside0.mk (hb); have HI475 := Aside0.mk (hi); have NB475_471 := Aside0.mk (IsS63.ne_blk hi (blk_below (g := gb471) (o := .cells #[.int .i64 0, .int .i64 0] 31 (0, 0)) (bW BK471) hb2) (by decide)); have NB471_475 := Aside0.mk (Ne.symm (IsS63.ne_blk hi (blk_below (g := gb471) (o := .cells #[.int .i64 0, .int .i64 0] 31 (0, 0)) (bW BK471) hb2) (by decide))); replace BK471 := Aside0.mk (blk_below (g := gb471) (o := .cells #[.int .i64 0, .int .i64 0] 31 (0, 0)) (bW BK471) hb2); clear hb hb2 hi) | ((with_reducible refine gate_callee (f := 37) rfl ?_); refine goesL_ (some 7) rfl rfl Tryz.func37 (by kernel_rfl) rfl #[.pointer (some ⟨g475, 0, none⟩)] rfl gL_ ?_; (with_reducible refine (spec_l2Bent.calls g475 t472 t473 t474 t476 t477 t478 w _ ?side1 ?side2 A3.out).mono ?_); (case side1 => exact hI63_HI475); (case side2 => exact hC63_); rintro e w7 ⟨rfl, hi, hb, hk⟩; refine ⟨_, rfl, ?_⟩; replace BK471 := kK hk BK471 NB471_475; replace HB := Aside0.mk (hb); replace HI475 := Aside0.mk (hi); clear hb hk hi) | ((with_reducible refine gate_callee (f := 37) rfl ?_); refine goesL_ (some 9) rfl rfl Tryz.func37 (by kernel_rfl) rfl #[.pointer (some ⟨g475, 0, none⟩)] rfl gL_ ?_; (with_reducible refine (spec_l2Bent.calls g475 t472 t477 t478 t479 t480 t481 w _ ?side1 ?side2 A4.out).mono ?_); (case side1 => exact hI63_HI475); (case side2 => exact hC63_); rintro e w8 ⟨rfl, hi, hb, hk⟩; refine ⟨_, rfl, ?_⟩; replace BK471 := kK hk BK471 NB471_475; replace HB := Aside0.mk (hb); replace HI475 := Aside0.mk (hi); clear hb hk hi; have hnb9 := NB471_475.out; have hnc9 := NB475_471.out; have hcz10_0 : w8.cell? ⟨gb471, 0, none⟩ = some (.int .i64 0) := (blk_cell BK471.out 0).trans rfl; have hcz10_1 : w8.cell? ⟨gb471, 1, none⟩ = some (.int .i64 0) := (blk_cell BK471.out 1).trans rfl; have hfz10_0 := blk_frozen BK471.out 0; have hfz10_1 := blk_frozen BK471.out 1))
  refine bodyPost_ret (results_cell_row rfl _ _ gb471 31 #[.int .i64 t476, .int .i64 t479] (0, 0) _ rfl (qP (qP BK471)).out Tryz.underlying31 rfl (by kernel_rfl)) rfl ?_
  exact ⟨eR_, hC63_⟩

/-! ### laws_sameConcepts: function 20 -/
def laws_sameConcepts.l0 : Nat → List (S31) → List (S31) → Int → Option (Bool)
  | 0, _, _, _ => none
  | k + 1, x0, x1, x5 => if x5 < (x0.length : Int) then (if 0 ≤ x5 then (if x5 < (x1.length : Int) then (if (!(((rd_T31 x0 x5).f0) == ((rd_T31 x1 x5).f0)) || (!(((rd_T31 x0 x5).f1) == ((rd_T31 x1 x5).f1)))) = true then (some false) else (laws_sameConcepts.l0 k x0 x1 (wrap64 (x5 + 1)))) else (none)) else (none)) else (some true)
def laws_sameConcepts.f (k : Nat) (l0 : List (S31)) (l1 : List (S31)) : Option (Bool) := if (l0.length : Int) = (l1.length : Int) then (laws_sameConcepts.l0 k l0 l1 0) else (some false)
theorem laws_sameConcepts.mono_l : ∀ k, (∀ y0 y1 y2, LeO (laws_sameConcepts.l0 k y0 y1 y2) (laws_sameConcepts.l0 (k + 1) y0 y1 y2))
  | 0 => fun _ _ _ r h => by simp [laws_sameConcepts.l0] at h
  | k + 1 => by
    have ih0 := laws_sameConcepts.mono_l k
    · intro y0 y1 y2
      unfold laws_sameConcepts.l0
      repeat' first
      | (with_reducible exact ih0 _ _ _)
      | (with_reducible exact LeO.refl _)
      | (with_reducible exact LeO.none _)
      | (with_reducible refine LeO.ite ?_ ?_)
      | (with_reducible refine LeO.bind ?_ (fun _ => ?_))
      | exact ih0 _ _ _
      | exact LeO.none _
      | refine LeO.ite ?_ ?_
      | refine LeO.bind ?_ (fun _ => ?_)
theorem laws_sameConcepts.mono : ∀ a0 a1 k, LeO (laws_sameConcepts.f k a0 a1) (laws_sameConcepts.f (k + 1) a0 a1) := by
  intro a0 a1 k
  have ih0 := laws_sameConcepts.mono_l k
  unfold laws_sameConcepts.f
  repeat' first
      | (with_reducible exact ih0 _ _ _)
      | (with_reducible exact LeO.refl _)
      | (with_reducible exact LeO.none _)
      | (with_reducible refine LeO.ite ?_ ?_)
      | (with_reducible refine LeO.bind ?_ (fun _ => ?_))
      | exact ih0 _ _ _
      | exact LeO.none _
      | refine LeO.ite ?_ ?_
      | refine LeO.bind ?_ (fun _ => ?_)
set_option maxHeartbeats 8000000 in
set_option maxRecDepth 100000 in
theorem laws_sameConcepts.calls (k : Nat) (A0 : Option Addr) (c0 : Nat) (l0 : List (S31)) (A1 : Option Addr) (c1 : Nat) (l1 : List (S31)) (r : Bool) (w : World) (hr0 : Kd.C k31 w A0 l0.length l0) (hc0 : l0.length ≤ c0) (hr1 : Kd.C k31 w A1 l1.length l1) (hc1 : l1.length ≤ c1) (h : laws_sameConcepts.f k l0 l1 = some r) :
    Calls Tryz.prog 20 #[.slice A0 l0.length c0, .slice A1 l1.length c1] w fun e w' => e = .returned (.bool r) ∧ Drawn0 w w' := by
  have hu31 := Tryz.underlying31
  have hq31 := eqA31
  have HR0 := Aside0.mk hr0
  have HC0 := Aside0.mk hc0
  clear hr0 hc0
  have HR1 := Aside0.mk hr1
  have HC1 := Aside0.mk hc1
  clear hr1 hc1
  have H : (if (l0.length : Int) = (l1.length : Int) then (laws_sameConcepts.l0 k l0 l1 0) else (some false)) = some r := h
  clear h
  by_cases c3 : (l0.length : Int) = (l1.length : Int)
  · rw [if_pos c3] at H
    have c3b0 : ((l0.length : Int) == (l1.length : Int)) = true := beq_iff_eq.mpr c3
    have c3b1 : ((l0.length : Int) != (l1.length : Int)) = false := bne_eq_false_iff_eq.mpr c3
    have c3b2 : (l0.length == l1.length) = true := by first | simpa using c3 | (simp at c3 ⊢; omega)
    clear c3
    have H' := Aside0.mk H
    clear H
    go_enter Tryz.func20, Tryz.ntmps20
    go_wp2
    repeat (go_quiet (fail); try go_wp2)
    go_loopg [5] k (fun kq v5 w' => ∃ (x5_1 : Int), v5 = .int .i64 x5_1 ∧ Aside0 (laws_sameConcepts.l0 kq l0 l1 x5_1 = some r) ∧ Aside0 (kq ≤ k) ∧ Drawn0 w w')
    case atStart => exact ⟨(0), (by first | rfl | (simp; done) | (simp [*]; done)), H', ⟨Nat.le_refl _⟩, by repeat (first | exact Drawn0.refl _ | apply Drawn0.step)⟩
    case round =>
      clear H'
      try clear c1
      try clear c2
      try clear p2
      try clear c3
      try clear c3b0
      try clear c3b1
      try clear c3b2
      obtain ⟨x5_1, rfl, HA, HK1, ⟨m1, rfl⟩⟩ := hrel
      cases gk with
      | zero => exact absurd HA.out (by simp [laws_sameConcepts.l0])
      | succ k1 =>
        have H := HA.out
        clear HA
        simp only [laws_sameConcepts.l0] at H
        by_cases c4 : x5_1 < (l0.length : Int)
        · rw [if_pos c4] at H
          have c4b0 : decide (x5_1 < (l0.length : Int)) = true := decide_eq_true c4
          clear c4
          by_cases c5 : 0 ≤ x5_1
          · rw [if_pos c5] at H
            have c5b0 : decide (0 ≤ x5_1) = true := decide_eq_true c5
            clear c5
            by_cases c6 : x5_1 < (l1.length : Int)
            · rw [if_pos c6] at H
              have c6b0 : decide (x5_1 < (l1.length : Int)) = true := decide_eq_true c6
              clear c6
              by_cases c7 : (!(((rd_T31 l0 x5_1).f0) == ((rd_T31 l1 x5_1).f0)) || (!(((rd_T31 l0 x5_1).f1) == ((rd_T31 l1 x5_1).f1)))) = true
              · rw [if_pos c7] at H
                have c7b0 : (!(((rd_T31 l0 x5_1).f0) == ((rd_T31 l1 x5_1).f0)) || (!(((rd_T31 l0 x5_1).f1) == ((rd_T31 l1 x5_1).f1)))) = true := c7
                clear c7
                obtain rfl := Option.some.inj H
                have p482 : 0 ≤ (x5_1 : Int) := of_decide_eq_true (by first | (with_reducible assumption) | assumption)
                have q482 : x5_1 < (l0.length : Int) := of_decide_eq_true (by first | (with_reducible assumption) | assumption)
                obtain ⟨ad482, e482, hx482_0, hx482_1⟩ := at_T31 HR0.out x5_1 p482 q482
                cases e482
                replace p482 := eq_true p482
                replace q482 := eq_true q482
                have p483 : 0 ≤ (x5_1 : Int) := of_decide_eq_true (by first | (with_reducible assumption) | assumption)
                have q483 : x5_1 < (l1.length : Int) := of_decide_eq_true (by first | (with_reducible assumption) | assumption)
                obtain ⟨ad483, e483, hx483_0, hx483_1⟩ := at_T31 HR1.out x5_1 p483 q483
                cases e483
                replace p483 := eq_true p483
                replace q483 := eq_true q483
                go_wp2
                repeat (go_quiet (fail); try go_wp2)
                go_ret
                exact ⟨by first | rfl | (simp; done) | (simp [*]; done), by repeat (first | exact Drawn0.refl _ | apply Drawn0.step)⟩
              · rw [if_neg c7] at H
                have c7b0 : (!(((rd_T31 l0 x5_1).f0) == ((rd_T31 l1 x5_1).f0)) || (!(((rd_T31 l0 x5_1).f1) == ((rd_T31 l1 x5_1).f1)))) = false := by simpa using c7
                clear c7
                have H' := Aside0.mk H
                clear H
                have p482 : 0 ≤ (x5_1 : Int) := of_decide_eq_true (by first | (with_reducible assumption) | assumption)
                have q482 : x5_1 < (l0.length : Int) := of_decide_eq_true (by first | (with_reducible assumption) | assumption)
                obtain ⟨ad482, e482, hx482_0, hx482_1⟩ := at_T31 HR0.out x5_1 p482 q482
                cases e482
                replace p482 := eq_true p482
                replace q482 := eq_true q482
                have p483 : 0 ≤ (x5_1 : Int) := of_decide_eq_true (by first | (with_reducible assumption) | assumption)
                have q483 : x5_1 < (l1.length : Int) := of_decide_eq_true (by first | (with_reducible assumption) | assumption)
                obtain ⟨ad483, e483, hx483_0, hx483_1⟩ := at_T31 HR1.out x5_1 p483 q483
                cases e483
                replace p483 := eq_true p483
                replace q483 := eq_true q483
                go_wp2
                repeat (go_quiet (fail); try go_wp2)
                go_roundg k1
                case measure => have := HK1.out; omega
                case rel => exact ⟨(wrap64 (x5_1 + 1)), (by first | rfl | (simp; done) | (simp [*]; done)), H', ⟨by have := HK1.out; omega⟩, by repeat (first | exact Drawn0.refl _ | apply Drawn0.step)⟩
            · rw [if_neg c6] at H
              exact absurd H (by simp)
          · rw [if_neg c5] at H
            exact absurd H (by simp)
        · rw [if_neg c4] at H
          have c4b0 : decide (x5_1 < (l0.length : Int)) = false := decide_eq_false c4
          clear c4
          obtain rfl := Option.some.inj H
          go_wp2
          repeat (go_quiet (fail); try go_wp2)
          go_ret
          exact ⟨by first | rfl | (simp; done) | (simp [*]; done), by repeat (first | exact Drawn0.refl _ | apply Drawn0.step)⟩
  · rw [if_neg c3] at H
    have c3b0 : ((l0.length : Int) == (l1.length : Int)) = false := beq_eq_false_iff_ne.mpr c3
    have c3b1 : ((l0.length : Int) != (l1.length : Int)) = true := bne_iff_ne.mpr c3
    have c3b2 : (l0.length == l1.length) = false := by first | simpa using c3 | (simp at c3 ⊢; omega)
    obtain rfl := Option.some.inj H
    go_enter Tryz.func20, Tryz.ntmps20
    go_wp2
    repeat (go_quiet (fail); try go_wp2)
    go_ret
    exact ⟨by first | rfl | (simp; done) | (simp [*]; done), by repeat (first | exact Drawn0.refl _ | apply Drawn0.step)⟩

end Go.Proofs.YtodmfdkmmpefpaaGreatDoor.PFnConcepts
