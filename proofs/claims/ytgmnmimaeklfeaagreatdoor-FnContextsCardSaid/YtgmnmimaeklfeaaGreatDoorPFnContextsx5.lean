-- Written by a program of this session (wip/myprint.py), which runs the kit's print with contracts proved by hand; not the kit's own print. Lean checks it.
import Derived.Test.YtgmnmimaeklfeaaGreatDoorPFnContextsx0
import Derived.Test.YtgmnmimaeklfeaaGreatDoorPFnContextsx1
import Derived.Test.YtgmnmimaeklfeaaGreatDoorPFnContextsx3
import Derived.Test.YtgmnmimaeklfeaaGreatDoorPFnContextsx4
namespace Go.Proofs.YtgmnmimaeklfeaaGreatDoor.PFnContexts
open Go.RowKit Go.Proofs.YtgmnmimaeklfeaaGreatDoorW.PrintWords Go.Proofs.YtgmnmimaeklfeaaGreatDoorW.PrintLast Go.Proofs.YtgmnmimaeklfeaaGreatDoorW.PrintMore
attribute [local go_sem] max2_int min2_int max_two min_two max_three min_three max_four min_four   -- for this text's walks alone
set_option linter.unusedVariables false
set_option linter.unusedSimpArgs false

/-! ### spec_l3Column: function 28 -/
def spec_l3Column.l0 : Nat → Int → Int → Int → Int → List Int → Option (Int)
  | 0, _, _, _, _, _ => none
  | k + 1, x1, x5, x6, x241000, x241001 => if x6 < (x241001.length : Int) then (if 0 ≤ x6 then ((spec_l2Has.f (rd x241001 x6) x1).bind fun t242 => (if t242 = true then (if 0 ≤ (IntKind.u64.wrap (x6)) then (spec_l3Column.l0 k x1 (Go.bits .or .i64 x5 (shl .i64 1 (IntKind.u64.wrap (x6)))) (wrap64 (x6 + 1)) x241000 x241001) else (none)) else (spec_l3Column.l0 k x1 x5 (wrap64 (x6 + 1)) x241000 x241001))) else (none)) else (some x5)
def spec_l3Column.f (k : Nat) (a0_0 : Int) (l0_1 : List Int) (a1 : Int) : Option (Int) := spec_l3Column.l0 k a1 0 0 a0_0 l0_1
theorem spec_l3Column.mono_l : ∀ k, (∀ y0 y1 y2 y3 y4, LeO (spec_l3Column.l0 k y0 y1 y2 y3 y4) (spec_l3Column.l0 (k + 1) y0 y1 y2 y3 y4))
  | 0 => fun _ _ _ _ _ r h => by simp [spec_l3Column.l0] at h
  | k + 1 => by
    have ih0 := spec_l3Column.mono_l k
    · intro y0 y1 y2 y3 y4
      unfold spec_l3Column.l0
      repeat' first
      | (with_reducible exact ih0 _ _ _ _ _)
      | (with_reducible exact LeO.refl _)
      | (with_reducible exact LeO.none _)
      | (with_reducible refine LeO.ite ?_ ?_)
      | (with_reducible refine LeO.bind ?_ (fun _ => ?_))
      | exact ih0 _ _ _ _ _
      | exact LeO.none _
      | refine LeO.ite ?_ ?_
      | refine LeO.bind ?_ (fun _ => ?_)
theorem spec_l3Column.mono : ∀ a0 a1 a2 k, LeO (spec_l3Column.f k a0 a1 a2) (spec_l3Column.f (k + 1) a0 a1 a2) := by
  intro a0 a1 a2 k
  have ih0 := spec_l3Column.mono_l k
  unfold spec_l3Column.f
  repeat' first
      | (with_reducible exact ih0 _ _ _ _ _)
      | (with_reducible exact LeO.refl _)
      | (with_reducible exact LeO.none _)
      | (with_reducible refine LeO.ite ?_ ?_)
      | (with_reducible refine LeO.bind ?_ (fun _ => ?_))
      | exact ih0 _ _ _ _ _
      | exact LeO.none _
      | refine LeO.ite ?_ ?_
      | refine LeO.bind ?_ (fun _ => ?_)
set_option maxHeartbeats 8000000 in
set_option maxRecDepth 100000 in
theorem spec_l3Column.calls (k : Nat) (a0_0 : Int) (A0_1 : Option Addr) (c0_1 : Nat) (l0_1 : List Int) (a1 : Int) (r : Int) (w : World) (hr0_1 : Kd.C (Kd.int .i64) w A0_1 l0_1.length l0_1) (hc0_1 : l0_1.length ≤ c0_1) (h : spec_l3Column.f k a0_0 l0_1 a1 = some r) :
    Calls Tryz.prog 28 #[.agg #[.int .i64 a0_0, .slice A0_1 l0_1.length c0_1], .int .i64 a1] w fun e w' => e = .returned (.int .i64 r) ∧ Below w.heap.size w w' := by
  have hu26 := Tryz.underlying26
  have HR0_1 := Aside0.mk hr0_1
  have HC0_1 := Aside0.mk hc0_1
  clear hr0_1 hc0_1
  have HB := Aside0.mk (Below.refl w.heap.size w)
  have H : (spec_l3Column.l0 k a1 0 0 a0_0 l0_1) = some r := h
  clear h
  have H' := Aside0.mk H
  clear H
  go_enter Tryz.func28, Tryz.ntmps28
  go_wp2_with (first | ((with_reducible refine gate_dst (N := 2) rfl ?_); refine box_event ?hg (N := 2) ?hd (cs := #[.int .i64 a0_0, .slice A0_1 l0_1.length c0_1]) (t := 26) ?hr ?_; (case hd => rfl); (case hg => rfl); (case hr => first | (go_simp; done) | (go_simp; rfl)); intro gb240 hg w3 hbox hb; have BK240 := Aside0.mk (hbox); have GW240 := kG HB hg; have GE240 := kG HB hg; replace HB := kH HB hb; clear hb hbox hg))
  go_loopg [5, 6] k (fun kq v5 v6 w' => ∃ (x5_1 : Int) (x6_1 : Int), v5 = .int .i64 x5_1 ∧ v6 = .int .i64 x6_1 ∧ Aside0 (spec_l3Column.l0 kq a1 x5_1 x6_1 a0_0 l0_1 = some r) ∧ Aside0 (kq ≤ k) ∧ Aside0 (w'.heap[gb240]? = some (.cells #[.int .i64 a0_0, (.slice A0_1 l0_1.length c0_1)] 26 (0, 0))) ∧ Aside0 (Below w.heap.size w w'))
  case atStart => exact ⟨(0), (0), (by first | rfl | (simp; done) | (simp [*]; done)), (by first | rfl | (simp; done) | (simp [*]; done)), H', ⟨Nat.le_refl _⟩, ⟨bW BK240⟩, ⟨hB_⟩⟩
  case round =>
    clear H'
    try clear c2
    try clear p2
    obtain ⟨x5_1, x6_1, rfl, rfl, HA, HK1, BK240, HB⟩ := hrel
    cases gk with
    | zero => exact absurd HA.out (by simp [spec_l3Column.l0])
    | succ k1 =>
      have H := HA.out
      clear HA
      simp only [spec_l3Column.l0] at H
      by_cases c4 : x6_1 < (l0_1.length : Int)
      · rw [if_pos c4] at H
        have c4b0 : decide (x6_1 < (l0_1.length : Int)) = true := decide_eq_true c4
        clear c4
        by_cases c5 : 0 ≤ x6_1
        · rw [if_pos c5] at H
          have c5b0 : decide (0 ≤ x6_1) = true := decide_eq_true c5
          clear c5
          replace H := aB H
          obtain ⟨t242, A6, H⟩ := H
          by_cases c7 : t242 = true
          · subst c7
            replace H := ifT H
            obtain ⟨ji8, hji8⟩ : ∃ j_ : Int, (IntKind.u64.wrap (x6_1)) = j_ := ⟨_, rfl⟩
            replace H : (if 0 ≤ (ji8) then (spec_l3Column.l0 k1 a1 (Go.bits .or .i64 x5_1 (shl .i64 1 (ji8))) (wrap64 (x6_1 + 1)) a0_0 l0_1) else (none)) = some r := by first | (rw [hji8] at H; exact H) | (simp only [hji8] at H ⊢; exact H)
            (try rw [hji8] at A6)
            by_cases c9 : 0 ≤ (ji8)
            · rw [if_pos c9] at H
              have c9b0 := eq_true c9
              have c9b1 : decide (0 ≤ (ji8)) = true := decide_eq_true c9
              clear c9
              obtain ⟨ji10, hji10⟩ : ∃ j_ : Int, (shl .i64 1 (ji8)) = j_ := ⟨_, rfl⟩
              replace H : (spec_l3Column.l0 k1 a1 (Go.bits .or .i64 x5_1 (ji10)) (wrap64 (x6_1 + 1)) a0_0 l0_1) = some r := by first | (rw [hji10] at H; exact H) | (simp only [hji10] at H ⊢; exact H)
              (try rw [hji10] at A6)
              have hji10_ : (IntKind.i64.wrap (1 * 2 ^ min (ji8).toNat 64)) = ji10 := hji10
              have hji10z : (ji8) ≤ 64 → (IntKind.i64.wrap (1 * 2 ^ (ji8).toNat)) = ji10 := shl_small hji10
              have hji10u : (IntKind.i64.wrap (2 ^ min (ji8).toNat 64)) = ji10 := by have h_ := hji10_; rw [Int.one_mul] at h_; exact h_
              have hji10v : (ji8) ≤ 64 → (IntKind.i64.wrap (2 ^ (ji8).toNat)) = ji10 := fun hle_ => by have h_ := hji10z hle_; rw [Int.one_mul] at h_; exact h_
              have hji10y : (wrap64 (1 * 2 ^ min (ji8).toNat 64)) = ji10 := (i64_w _).symm.trans hji10_
              have hji10x : (ji8) ≤ 64 → (wrap64 (1 * 2 ^ (ji8).toNat)) = ji10 := fun h_ => (i64_w _).symm.trans (hji10z h_)
              have H' := Aside0.mk H
              clear H
              have hcz11_0 : wr.cell? ⟨gb240, 0, none⟩ = some (.int .i64 a0_0) := (blk_cell BK240.out 0).trans rfl
              have hcz11_1 : wr.cell? ⟨gb240, 1, none⟩ = some (.slice A0_1 l0_1.length c0_1) := (blk_cell BK240.out 1).trans rfl
              have hfz11_0 := blk_frozen BK240.out 0
              have hfz11_1 := blk_frozen BK240.out 1
              have p241 : 0 ≤ (x6_1 : Int) := of_decide_eq_true (by first | (with_reducible assumption) | assumption)
              have q241 : x6_1 < (l0_1.length : Int) := of_decide_eq_true (by first | (with_reducible assumption) | assumption)
              obtain ⟨ad241, e241, hx241_0⟩ := Kd.at_int HR0_1.out x6_1 p241 q241
              cases e241
              replace hx241_0 := (HB.out.cell (World.block_lt_of_cell? w _ hx241_0)).trans hx241_0
              replace p241 := eq_true p241
              replace q241 := eq_true q241
              go_wp2_with (first | ((with_reducible refine gate_callee (f := 57) rfl ?_); refine goesL_ (some 20) rfl rfl Tryz.func57 (by kernel_rfl) rfl #[.int .i64 (rd l0_1 x6_1), .int .i64 a1] rfl gL_ ?_; (with_reducible refine (spec_l2Has.calls (rd l0_1 x6_1) a1 true _ A6.out).mono ?_); rintro e w' ⟨rfl, ⟨nd, rfl⟩⟩; refine ⟨_, rfl, ?_⟩))
              go_roundg k1
              case measure => have := HK1.out; omega
              case rel => exact ⟨(Go.bits .or .i64 x5_1 (ji10)), (wrap64 (x6_1 + 1)), (by first | rfl | (simp; done) | (simp only [← hji10] <;> (first | rfl | simp)) | (simp [*]; done)), (by first | rfl | (simp; done) | (simp [*]; done)), H', ⟨by have := HK1.out; omega⟩, ⟨bW BK240⟩, ⟨hB_⟩⟩
            · rw [if_neg c9] at H
              exact absurd H (by simp)
          · replace c7 := Bool.eq_false_iff.mpr c7
            subst c7
            replace H := ifF H
            have H' := Aside0.mk H
            clear H
            have hcz12_0 : wr.cell? ⟨gb240, 0, none⟩ = some (.int .i64 a0_0) := (blk_cell BK240.out 0).trans rfl
            have hcz12_1 : wr.cell? ⟨gb240, 1, none⟩ = some (.slice A0_1 l0_1.length c0_1) := (blk_cell BK240.out 1).trans rfl
            have hfz12_0 := blk_frozen BK240.out 0
            have hfz12_1 := blk_frozen BK240.out 1
            have p241 : 0 ≤ (x6_1 : Int) := of_decide_eq_true (by first | (with_reducible assumption) | assumption)
            have q241 : x6_1 < (l0_1.length : Int) := of_decide_eq_true (by first | (with_reducible assumption) | assumption)
            obtain ⟨ad241, e241, hx241_0⟩ := Kd.at_int HR0_1.out x6_1 p241 q241
            cases e241
            replace hx241_0 := (HB.out.cell (World.block_lt_of_cell? w _ hx241_0)).trans hx241_0
            replace p241 := eq_true p241
            replace q241 := eq_true q241
            go_wp2_with (first | ((with_reducible refine gate_callee (f := 57) rfl ?_); refine goesL_ (some 20) rfl rfl Tryz.func57 (by kernel_rfl) rfl #[.int .i64 (rd l0_1 x6_1), .int .i64 a1] rfl gL_ ?_; (with_reducible refine (spec_l2Has.calls (rd l0_1 x6_1) a1 false _ A6.out).mono ?_); rintro e w' ⟨rfl, ⟨nd, rfl⟩⟩; refine ⟨_, rfl, ?_⟩))
            go_roundg k1
            case measure => have := HK1.out; omega
            case rel => exact ⟨(x5_1), (wrap64 (x6_1 + 1)), (by first | rfl | (simp; done) | (simp [*]; done)), (by first | rfl | (simp; done) | (simp [*]; done)), H', ⟨by have := HK1.out; omega⟩, ⟨bW BK240⟩, ⟨hB_⟩⟩
        · rw [if_neg c5] at H
          exact absurd H (by simp)
      · rw [if_neg c4] at H
        have c4b0 : decide (x6_1 < (l0_1.length : Int)) = false := decide_eq_false c4
        clear c4
        obtain rfl := Option.some.inj H
        have hcz13_0 : wr.cell? ⟨gb240, 0, none⟩ = some (.int .i64 a0_0) := (blk_cell BK240.out 0).trans rfl
        have hcz13_1 : wr.cell? ⟨gb240, 1, none⟩ = some (.slice A0_1 l0_1.length c0_1) := (blk_cell BK240.out 1).trans rfl
        have hfz13_0 := blk_frozen BK240.out 0
        have hfz13_1 := blk_frozen BK240.out 1
        go_wp2
        go_ret
        exact ⟨eR_, hB_⟩

/-! ### spec_DualContext: function 7 -/
mutual
def spec_DualContext.j0 : Nat → Bool → Int → List Int → Option (Int × List Int × Bool)
  | 0, _, _, _ => none
  | k + 1, x14, x244000, x244001 => if x14 = true then (some (0, ([] : List Int), false)) else (spec_DualContext.l0 k 0 x244000 x244001 (x244001.length : Int) ([] : List Int))
def spec_DualContext.l0 : Nat → Int → Int → List Int → Int → List Int → Option (Int × List Int × Bool)
  | 0, _, _, _, _, _ => none
  | k + 1, x5, x244000, x244001, x247000, x247001 => if x5 < x244000 then ((spec_l3Column.f k x244000 x244001 x5).bind fun t247 => (if x247001.length < 17592186044416 then (spec_DualContext.l0 k (wrap64 (x5 + 1)) x244000 x244001 x247000 (x247001 ++ [t247])) else (none))) else (some (x247000, x247001, true))
end
def spec_DualContext.f (k : Nat) (a0_0 : Int) (l0_1 : List Int) : Option (Int × List Int × Bool) := (spec_IsContext.f k a0_0 l0_1).bind fun t245 => (if t245 = true then (spec_DualContext.j0 k (decide ((l0_1.length : Int) > 6)) a0_0 l0_1) else (spec_DualContext.j0 k true a0_0 l0_1))
theorem spec_DualContext.mono_l : ∀ k, (∀ y0 y1 y2, LeO (spec_DualContext.j0 k y0 y1 y2) (spec_DualContext.j0 (k + 1) y0 y1 y2)) ∧ (∀ y0 y1 y2 y3 y4, LeO (spec_DualContext.l0 k y0 y1 y2 y3 y4) (spec_DualContext.l0 (k + 1) y0 y1 y2 y3 y4))
  | 0 => ⟨fun _ _ _ r h => by simp [spec_DualContext.j0] at h, fun _ _ _ _ _ r h => by simp [spec_DualContext.l0] at h⟩
  | k + 1 => by
    obtain ⟨ih0, ih1⟩ := spec_DualContext.mono_l k
    refine ⟨?_, ?_⟩
    · intro y0 y1 y2
      unfold spec_DualContext.j0
      repeat' first
      | (with_reducible exact ih0 _ _ _)
      | (with_reducible exact ih1 _ _ _ _ _)
      | (with_reducible exact spec_IsContext.mono _ _ _)
      | (with_reducible exact spec_l3Column.mono _ _ _ _)
      | (with_reducible exact LeO.refl _)
      | (with_reducible exact LeO.none _)
      | (with_reducible refine LeO.ite ?_ ?_)
      | (with_reducible refine LeO.bind ?_ (fun _ => ?_))
      | exact ih0 _ _ _
      | exact ih1 _ _ _ _ _
      | exact spec_IsContext.mono _ _ _
      | exact spec_l3Column.mono _ _ _ _
      | exact LeO.none _
      | refine LeO.ite ?_ ?_
      | refine LeO.bind ?_ (fun _ => ?_)
    · intro y0 y1 y2 y3 y4
      unfold spec_DualContext.l0
      repeat' first
      | (with_reducible exact ih0 _ _ _)
      | (with_reducible exact ih1 _ _ _ _ _)
      | (with_reducible exact spec_IsContext.mono _ _ _)
      | (with_reducible exact spec_l3Column.mono _ _ _ _)
      | (with_reducible exact LeO.refl _)
      | (with_reducible exact LeO.none _)
      | (with_reducible refine LeO.ite ?_ ?_)
      | (with_reducible refine LeO.bind ?_ (fun _ => ?_))
      | exact ih0 _ _ _
      | exact ih1 _ _ _ _ _
      | exact spec_IsContext.mono _ _ _
      | exact spec_l3Column.mono _ _ _ _
      | exact LeO.none _
      | refine LeO.ite ?_ ?_
      | refine LeO.bind ?_ (fun _ => ?_)
theorem spec_DualContext.mono : ∀ a0 a1 k, LeO (spec_DualContext.f k a0 a1) (spec_DualContext.f (k + 1) a0 a1) := by
  intro a0 a1 k
  obtain ⟨ih0, ih1⟩ := spec_DualContext.mono_l k
  unfold spec_DualContext.f
  repeat' first
      | (with_reducible exact ih0 _ _ _)
      | (with_reducible exact ih1 _ _ _ _ _)
      | (with_reducible exact spec_IsContext.mono _ _ _)
      | (with_reducible exact spec_l3Column.mono _ _ _ _)
      | (with_reducible exact LeO.refl _)
      | (with_reducible exact LeO.none _)
      | (with_reducible refine LeO.ite ?_ ?_)
      | (with_reducible refine LeO.bind ?_ (fun _ => ?_))
      | exact ih0 _ _ _
      | exact ih1 _ _ _ _ _
      | exact spec_IsContext.mono _ _ _
      | exact spec_l3Column.mono _ _ _ _
      | exact LeO.none _
      | refine LeO.ite ?_ ?_
      | refine LeO.bind ?_ (fun _ => ?_)
def spec_DualContext.T7 : Bool × List (List Nat × List Nat) := (true, [([], []), ([0], [0]), ([], []), ([], []), ([2, 3], [2, 3]), ([4], [4]), ([1, 5, 4], [1, 5]), ([0, 1, 2, 3, 4, 5, 6], []), ([7, 6, 6, 0, 1, 2, 3, 4, 5, 6], [6, 7])])
def spec_DualContext.B7 : List Nat := [0, 1, 0, 0, 12, 28, 63, 127, 255]
theorem spec_DualContext.tab7 : rtab .any (opsOf Tryz.f7 7) = spec_DualContext.T7 := by kernel_rfl
theorem spec_DualContext.bits7 : waitsOk spec_DualContext.T7.2 spec_DualContext.B7 = true := by kernel_rfl
set_option maxHeartbeats 8000000 in
set_option maxRecDepth 100000 in
theorem spec_DualContext.calls (k : Nat) (a0_0 : Int) (A0_1 : Option Addr) (c0_1 : Nat) (l0_1 : List Int) (r1 : Int) (r2 : List Int) (r3 : Bool) (w : World) (hr0_1 : Kd.C (Kd.int .i64) w A0_1 l0_1.length l0_1) (hc0_1 : l0_1.length ≤ c0_1) (h : spec_DualContext.f k a0_0 l0_1 = some (r1, r2, r3)) :
    Calls Tryz.prog 7 #[.agg #[.int .i64 a0_0, .slice A0_1 l0_1.length c0_1]] w fun e w' => ∃ v1_ : Value, e = .returned (.tuple #[.agg #[.int .i64 r1, v1_], .bool r3]) ∧ Kd.R (Kd.int .i64) 3 w' w.heap.size (fun _ => True) v1_ r2 ∧ Below w.heap.size w w' := by
  have hu26 := Tryz.underlying26
  have HR0_1 := Aside0.mk hr0_1
  have HC0_1 := Aside0.mk hc0_1
  clear hr0_1 hc0_1
  have HB := Aside0.mk (Below.refl w.heap.size w)
  have H : ((spec_IsContext.f k a0_0 l0_1).bind fun t245 => (if t245 = true then (spec_DualContext.j0 k (decide ((l0_1.length : Int) > 6)) a0_0 l0_1) else (spec_DualContext.j0 k true a0_0 l0_1))) = some (r1, r2, r3) := h
  clear h
  have HC2 := Aside0.mk H
  clear H
  go_enter Tryz.func7, Tryz.ntmps7
  go_upto_region 1 with (first | ((with_reducible refine gate_dst (N := 1) rfl ?_); (try (refine gate_guard (by rfl) ?_; dsimp only)); refine box_event ?hg (N := 1) ?hd (cs := #[.int .i64 a0_0, .slice A0_1 l0_1.length c0_1]) (t := 26) ?hr ?_; (case hd => rfl); (case hg => rfl); (case hr => first | (go_simp; done) | (go_simp; rfl)); intro gb243 hg w3 hbox hb; have BK243 := Aside0.mk (hbox); have GW243 := kG HB hg; have GE243 := kG HB hg; replace HB := kH HB hb; clear hb hbox hg) | ((with_reducible refine gate_dst (N := 2) rfl ?_); (try (refine gate_guard (by rfl) ?_; dsimp only)); refine box_event ?hg (N := 2) ?hd (cs := #[.int .i64 0, .slice none 0 0]) (t := 26) ?hr ?_; (case hd => rfl); (case hg => rfl); (case hr => first | (go_simp; done) | (go_simp; rfl)); intro gb244 hg w4 hbox hb; have BK244 := Aside0.mk (hbox); have GW244 := kG HB hg; have GE244 := kG HB hg; replace HB := kH HB hb; have NB243_244 := kN BK243 hg; have NB244_243 := kM BK243 hg; replace BK243 := kB BK243 hb; clear hb hbox hg))
  (try simp only [Act.put, List.setIfInBounds_toArray, List.set_cons_zero, List.set_cons_succ])
  go_cut [14] (fun v14 wc => ∃ (kq : Nat) (x14_1 : Bool), v14 = .bool x14_1 ∧ Aside0 (spec_DualContext.j0 kq x14_1 a0_0 l0_1 = some (r1, r2, r3)) ∧ Aside0 (kq ≤ k) ∧ Aside0 (wc.heap[gb243]? = some (.cells #[.int .i64 a0_0, (.slice A0_1 l0_1.length c0_1)] 26 (0, 0))) ∧ Aside0 (wc.heap[gb244]? = some (.cells #[.int .i64 0, (.slice none 0 0)] 26 (0, 0))) ∧ Aside0 (Below w.heap.size w wc))
  case first =>
    have H := HC2.out
    clear HC2
    replace H := aB H
    obtain ⟨t245, A5, H⟩ := H
    by_cases c6 : t245 = true
    · subst c6
      replace H := ifT H
      have H' := Aside0.mk H
      clear H
      have hnb7 := NB243_244.out
      have hnc7 := NB244_243.out
      have hcz8_0 : w4.cell? ⟨gb243, 0, none⟩ = some (.int .i64 a0_0) := (blk_cell BK243.out 0).trans rfl
      have hcz8_1 : w4.cell? ⟨gb243, 1, none⟩ = some (.slice A0_1 l0_1.length c0_1) := (blk_cell BK243.out 1).trans rfl
      have hfz8_0 := blk_frozen BK243.out 0
      have hfz8_1 := blk_frozen BK243.out 1
      go_wp2_with (first | ((with_reducible refine gate_callee (f := 21) rfl ?_); refine goesL_ (some 7) rfl rfl Tryz.func21 (by kernel_rfl) rfl #[.agg #[.int .i64 a0_0, .slice A0_1 l0_1.length c0_1]] rfl gL_ ?_; (with_reducible refine (spec_IsContext.calls k a0_0 _ _ l0_1 true _ ?side1 ?side2 A5.out).mono ?_); (case side1 => exact cW (Kd.C_below HR0_1.out HB.out)); (case side2 => exact HC0_1.out); rintro e w9 ⟨rfl, hb⟩; refine ⟨_, rfl, ?_⟩; replace BK243 := kB BK243 hb; replace BK244 := kB BK244 hb; replace HB := kH HB hb; clear hb; have hcz10_0 : w9.cell? ⟨gb243, 0, none⟩ = some (.int .i64 a0_0) := (blk_cell BK243.out 0).trans rfl; have hcz10_1 : w9.cell? ⟨gb243, 1, none⟩ = some (.slice A0_1 l0_1.length c0_1) := (blk_cell BK243.out 1).trans rfl; have hfz10_0 := blk_frozen BK243.out 0; have hfz10_1 := blk_frozen BK243.out 1))
      go_meet
      case rel => exact ⟨_, (decide ((l0_1.length : Int) > 6)), (by first | rfl | (simp; done) | (simp [*]; done)), H', ⟨by first | omega | exact Nat.le_refl _⟩, ⟨bW BK243⟩, ⟨bW BK244⟩, ⟨hB_⟩⟩
    · replace c6 := Bool.eq_false_iff.mpr c6
      subst c6
      replace H := ifF H
      have H' := Aside0.mk H
      clear H
      have hnb11 := NB243_244.out
      have hnc11 := NB244_243.out
      have hcz12_0 : w4.cell? ⟨gb243, 0, none⟩ = some (.int .i64 a0_0) := (blk_cell BK243.out 0).trans rfl
      have hcz12_1 : w4.cell? ⟨gb243, 1, none⟩ = some (.slice A0_1 l0_1.length c0_1) := (blk_cell BK243.out 1).trans rfl
      have hfz12_0 := blk_frozen BK243.out 0
      have hfz12_1 := blk_frozen BK243.out 1
      go_wp2_with (first | ((with_reducible refine gate_callee (f := 21) rfl ?_); refine goesL_ (some 7) rfl rfl Tryz.func21 (by kernel_rfl) rfl #[.agg #[.int .i64 a0_0, .slice A0_1 l0_1.length c0_1]] rfl gL_ ?_; (with_reducible refine (spec_IsContext.calls k a0_0 _ _ l0_1 false _ ?side1 ?side2 A5.out).mono ?_); (case side1 => exact cW (Kd.C_below HR0_1.out HB.out)); (case side2 => exact HC0_1.out); rintro e w13 ⟨rfl, hb⟩; refine ⟨_, rfl, ?_⟩; replace BK243 := kB BK243 hb; replace BK244 := kB BK244 hb; replace HB := kH HB hb; clear hb))
      go_meet
      case rel => exact ⟨_, (true), (by first | rfl | (simp; done) | (simp [*]; done)), H', ⟨by first | omega | exact Nat.le_refl _⟩, ⟨bW BK243⟩, ⟨bW BK244⟩, ⟨hB_⟩⟩
  case rest =>
    clear HC2
    try clear c1
    try clear c2
    try clear p2
    try clear c6
    try clear c7
    try clear c11
    try clear hcz10_0
    try clear hcz10_1
    try clear hcz12_0
    try clear hcz12_1
    try clear hcz8_0
    try clear hcz8_1
    try clear hfz10_0
    try clear hfz10_1
    try clear hfz12_0
    try clear hfz12_1
    try clear hfz8_0
    try clear hfz8_1
    obtain ⟨kq, x14_1, rfl, HA, HJ1, BK243, BK244, HB⟩ := hcut
    cases kq with
    | zero => exact absurd HA.out (by simp [spec_DualContext.j0])
    | succ kj1 =>
      have H := HA.out
      clear HA
      simp only [spec_DualContext.j0] at H
      by_cases c14 : x14_1 = true
      · subst c14
        replace H := ifT H
        simp only [Option.some.injEq, Prod.mk.injEq] at H
        obtain ⟨rfl, rfl, rfl⟩ := H
        have hnb15 := NB244_243.out
        have hnc15 := NB243_244.out
        have hcz16_0 : wc.cell? ⟨gb244, 0, none⟩ = some (.int .i64 0) := (blk_cell BK244.out 0).trans rfl
        have hcz16_1 : wc.cell? ⟨gb244, 1, none⟩ = some (.slice none 0 0) := (blk_cell BK244.out 1).trans rfl
        have hfz16_0 := blk_frozen BK244.out 0
        have hfz16_1 := blk_frozen BK244.out 1
        go_wp2
        refine bodyPost_ret (results_ct rfl _ _ gb244 26 #[.int .i64 0, .slice none 0 0] (0, 0) _ rfl (qP (qP BK244)).out Tryz.underlying26 rfl (by kernel_rfl)) rfl ?_
        exact ⟨_, eR_, by first | exact Kd.R_nil _ _ _ _ _ | exact Kd.N_nil _ _ _ _ _ | exact Kd.V_nil _ _ _ _ _ | exact Kd.Q_nil _ _ _ _ _ | exact Kd.S_nil _ _ _ _ _, hB_⟩
      · replace c14 := Bool.eq_false_iff.mpr c14
        subst c14
        replace H := ifF H
        have H' := Aside0.mk H
        clear H
        have hnb17 := NB243_244.out
        have hnc17 := NB244_243.out
        have hcz18_0 : wc.cell? ⟨gb243, 0, none⟩ = some (.int .i64 a0_0) := (blk_cell BK243.out 0).trans rfl
        have hcz18_1 : wc.cell? ⟨gb243, 1, none⟩ = some (.slice A0_1 l0_1.length c0_1) := (blk_cell BK243.out 1).trans rfl
        have hfz18_0 := blk_frozen BK243.out 0
        have hfz18_1 := blk_frozen BK243.out 1
        go_wp2_with (first | ((with_reducible refine gate_dst (N := 4) rfl ?_); (try (refine gate_guard (by rfl) ?_; dsimp only)); refine box_event ?hg (N := 4) ?hd (cs := #[.int .i64 0, .slice none 0 0]) (t := 26) ?hr ?_; (case hd => rfl); (case hg => rfl); (case hr => first | (go_simp; done) | (go_simp; rfl)); intro gb246 hg w19 hbox hb; have BK246 := Aside0.mk (hbox); have GW246 := kG HB hg; have GE246 := kG HB hg; replace HB := kH HB hb; have NB243_246 := kN BK243 hg; have NB246_243 := kM BK243 hg; replace BK243 := kB BK243 hb; have NB244_246 := kN BK244 hg; have NB246_244 := kM BK244 hg; replace BK244 := kB BK244 hb; clear hb hbox hg; have hnb20 := NB246_243.out; have hnc20 := NB243_246.out; have hnb21 := NB246_244.out; have hnc21 := NB244_246.out; have hcz22_0 : w19.cell? ⟨gb246, 0, none⟩ = some (.int .i64 0) := (blk_cell BK246.out 0).trans rfl; have hcz22_1 : w19.cell? ⟨gb246, 1, none⟩ = some (.slice none 0 0) := (blk_cell BK246.out 1).trans rfl; have hfz22_0 := blk_frozen BK246.out 0; have hfz22_1 := blk_frozen BK246.out 1))
        go_loopg [5] kj1 (fun kq v5 w' => ∃ (x5_2 : Int) (x247001_2 : List Int) (u247001 : Value), v5 = .int .i64 x5_2 ∧ Aside0 (spec_DualContext.l0 kq x5_2 a0_0 l0_1 (l0_1.length : Int) x247001_2 = some (r1, r2, r3)) ∧ Aside0 (kq ≤ kj1) ∧ Aside0 (Kd.R (Kd.int .i64) 3 w' w.heap.size (fun _ => True) u247001 x247001_2) ∧ Aside0 (w'.heap[gb243]? = some (.cells #[.int .i64 a0_0, (.slice A0_1 l0_1.length c0_1)] 26 (0, 0))) ∧ Aside0 (w'.heap[gb244]? = some (.cells #[.int .i64 0, (.slice none 0 0)] 26 (0, 0))) ∧ Aside0 (w'.heap[gb246]? = some (.cells #[.int .i64 (l0_1.length : Int), u247001] 26 (0, 0))) ∧ Aside0 (Below w.heap.size w w'))
        case atStart => exact ⟨(0), (([] : List Int)), (.slice none 0 0), (by first | rfl | (simp; done) | (simp [*]; done)), H', ⟨Nat.le_refl _⟩, ⟨by first | exact Kd.R_nil _ _ _ _ _ | exact Kd.N_nil _ _ _ _ _ | exact Kd.V_nil _ _ _ _ _ | exact Kd.Q_nil _ _ _ _ _ | exact Kd.S_nil _ _ _ _ _⟩, (qF NB243_246 (qF NB243_246 BK243)), (qF NB244_246 (qF NB244_246 BK244)), (qP (qP BK246)), ⟨hB_⟩⟩
        case round =>
          clear H'
          try clear c1
          try clear c2
          try clear p2
          try clear c6
          try clear c7
          try clear c11
          try clear c14
          try clear c15
          try clear c17
          try clear c20
          try clear c21
          try clear hcz10_0
          try clear hcz10_1
          try clear hcz12_0
          try clear hcz12_1
          try clear hcz16_0
          try clear hcz16_1
          try clear hcz18_0
          try clear hcz18_1
          try clear hcz22_0
          try clear hcz22_1
          try clear hcz8_0
          try clear hcz8_1
          try clear hfz10_0
          try clear hfz10_1
          try clear hfz12_0
          try clear hfz12_1
          try clear hfz16_0
          try clear hfz16_1
          try clear hfz18_0
          try clear hfz18_1
          try clear hfz22_0
          try clear hfz22_1
          try clear hfz8_0
          try clear hfz8_1
          try clear p2
          obtain ⟨x5_2, x247001_2, u247001, rfl, HA, HK2, HO_247001, BK243, BK244, BK246, HB⟩ := hrel
          cases gk with
          | zero => exact absurd HA.out (by simp [spec_DualContext.l0])
          | succ k2 =>
            have H := HA.out
            clear HA
            simp only [spec_DualContext.l0] at H
            by_cases c23 : x5_2 < a0_0
            · rw [if_pos c23] at H
              have c23b0 : decide (x5_2 < a0_0) = true := decide_eq_true c23
              clear c23
              replace H := aB H
              obtain ⟨t247, A24, H⟩ := H
              by_cases c25 : x247001_2.length < 17592186044416
              · rw [if_pos c25] at H
                have LMc25 := Aside0.mk c25
                clear c25
                obtain ⟨y248, hy248⟩ : ∃ y_ : List Int, y_ = (x247001_2 ++ [t247]) := ⟨_, rfl⟩
                replace H : (spec_DualContext.l0 k2 (wrap64 (x5_2 + 1)) a0_0 l0_1 (l0_1.length : Int) y248) = some (r1, r2, r3) := by first | (rw [hy248]; with_reducible exact H) | (have H2_ := (Option.bind_some _ _).symm.trans H; rw [hy248]; with_reducible exact H2_) | (have H2_ := (Option.bind_some _ _).symm.trans H; with_reducible exact H2_) | with_reducible exact H | (rw [hy248]; exact H) | exact H
                have Ny248 := Aside0.mk hy248
                clear hy248
                have H' := Aside0.mk H
                clear H
                have hnb26 := NB243_244.out
                have hnc26 := NB244_243.out
                have hnb27 := NB243_246.out
                have hnc27 := NB246_243.out
                have hcz28_0 : wr.cell? ⟨gb243, 0, none⟩ = some (.int .i64 a0_0) := (blk_cell BK243.out 0).trans rfl
                have hcz28_1 : wr.cell? ⟨gb243, 1, none⟩ = some (.slice A0_1 l0_1.length c0_1) := (blk_cell BK243.out 1).trans rfl
                have hfz28_0 := blk_frozen BK243.out 0
                have hfz28_1 := blk_frozen BK243.out 1
                try go_wp2
                replace HO_247001 := Aside0.mk (Kd.R_drew HO_247001.out)
                replace BK243 := Aside0.mk (blk_drew BK243.out)
                replace BK244 := Aside0.mk (blk_drew BK244.out)
                replace BK246 := Aside0.mk (blk_drew BK246.out)
                replace HB := Aside0.mk (below_drew1 HB.out)
                refine start_ (n := 9) (S := fun w' => w'.cell? ⟨gb246, 0, none⟩ = some (.int .i64 (l0_1.length : Int)) ∧ w'.cell? ⟨gb246, 1, none⟩ = some (u247001) ∧ w'.cell? ⟨gb243, 0, none⟩ = some (.int .i64 a0_0) ∧ w'.cell? ⟨gb243, 1, none⟩ = some (.slice A0_1 l0_1.length c0_1)) (ds := [8]) #[false, false, false, false, false, false, false, false, false] (by kernel_rfl) rfl rfl ⟨(blk_cell BK246.out 0).trans rfl, (blk_cell BK246.out 1).trans rfl, (blk_cell BK243.out 0).trans rfl, (blk_cell BK243.out 1).trans rfl⟩ (fun hHeld => ?_); refine with_tabW spec_DualContext.tab7 spec_DualContext.bits7 (fun HT_ HW_ => ?_)
                generalize wr.drew = w29 at HO_247001 BK243 BK244 BK246 HB hHeld ⊢
                refine pure_ (i := 0) (N := some 26) (v := ?_) (a' := ?_) (nb 9 1) rfl rfl (any_of HT_.out (by kernel_rfl)) (fun _ _ _ h => h) (Or.inl ⟨by rfl, ?_⟩) ?_ ?_
                rotate_left
                · intro w'
                  go_simp
                  with_reducible rfl
                rotate_left
                · simp only [Act.put, List.setIfInBounds_toArray, List.set_cons_zero, List.set_cons_succ, i64_w, i32_w]
                  rfl
                refine pure_ (i := 3) (N := some 29) (v := ?_) (a' := ?_) (nb 9 9) rfl rfl (any_of HT_.out (by kernel_rfl)) (fun _ _ _ h => h) (Or.inl ⟨by rfl, ?_⟩) ?_ ?_
                rotate_left
                · intro w'
                  go_simp
                  with_reducible rfl
                rotate_left
                · simp only [Act.put, List.setIfInBounds_toArray, List.set_cons_zero, List.set_cons_succ, i64_w, i32_w]
                  rfl
                refine take_ (i := 1) (N := some 27) (v := ?_) (a' := ?_) (nb 9 11) rfl rfl (take_ofW HT_.out HW_.out (by kernel_rfl)) (fun _ _ _ h => h) (Or.inl ⟨by rfl, ?_⟩) hHeld ?_ ?_
                rotate_left
                · rintro w' ⟨s0, s1, s2, s3⟩
                  go_simp
                  with_reducible rfl
                rotate_left
                · simp only [Act.put, List.setIfInBounds_toArray, List.set_cons_zero, List.set_cons_succ, i64_w, i32_w]
                  rfl
                refine take_ (i := 2) (N := some 28) (v := ?_) (a' := ?_) (nb 9 15) rfl rfl (take_ofW HT_.out HW_.out (by kernel_rfl)) (fun _ _ _ h => h) (Or.inl ⟨by rfl, ?_⟩) hHeld ?_ ?_
                rotate_left
                · rintro w' ⟨s0, s1, s2, s3⟩
                  go_simp
                  with_reducible rfl
                rotate_left
                · simp only [Act.put, List.setIfInBounds_toArray, List.set_cons_zero, List.set_cons_succ, i64_w, i32_w]
                  rfl
                refine one_ (i := 4) (N := some 30) (nb 9 31) rfl rfl (one_of HT_.out (by kernel_rfl)) (by decide) (fun K hK => ?_)
                refine goes_ Tryz.func28 (by kernel_rfl) rfl #[.agg #[.int .i64 a0_0, .slice A0_1 l0_1.length c0_1], .int .i64 x5_2] (by rfl) rfl rfl gL_ ?_
                with_reducible refine (spec_l3Column.calls k2 a0_0 _ _ l0_1 x5_2 t247 _ ?side1 ?side2 A24.out).mono ?_
                (case side1 => exact cW (Kd.C_below HR0_1.out HB.out))
                (case side2 => exact HC0_1.out)
                rintro e w30 ⟨rfl, hb⟩
                refine ⟨_, rfl, ?_⟩
                replace HO_247001 := kR HO_247001 hb
                replace BK243 := kB BK243 hb
                replace BK244 := kB BK244 hb
                replace BK246 := kB BK246 hb
                replace HB := kH HB hb
                (try clear hb)
                (try clear hb2)
                (try clear hk)
                (try clear hi)
                refine hK.out _ _ ⟨(blk_cell BK246.out 0).trans rfl, (blk_cell BK246.out 1).trans rfl, (blk_cell BK243.out 0).trans rfl, (blk_cell BK243.out 1).trans rfl⟩ (fun hHeld => ?_)
                clear hK K
                refine norm_ (a' := ?_) ?_ ?_
                rotate_left
                · show Act.put _ (some 30) _ = _
                  simp only [Act.put, List.setIfInBounds_toArray, List.set_cons_zero, List.set_cons_succ, i64_w, i32_w]
                  rfl
                refine one_ (i := 5) (N := some 31) (nb 9 63) rfl rfl (one_of HT_.out (by kernel_rfl)) (by decide) (fun K hK => ?_)
                refine value_ (w1 := ?_) (v := ?_) (by rfl) rfl ?_ ?_
                rotate_left 2
                · go_simp
                  constructor
                  · rfl
                  · rfl
                refine hK.out _ _ ⟨(blk_cell (blk_alloc BK246.out _) 0).trans rfl, (blk_cell (blk_alloc BK246.out _) 1).trans rfl, (blk_cell (blk_alloc BK243.out _) 0).trans rfl, (blk_cell (blk_alloc BK243.out _) 1).trans rfl⟩ (fun hHeld => ?_)
                clear hK K
                refine norm_ (a' := ?_) ?_ ?_
                rotate_left
                · show Act.put _ (some 31) _ = _
                  simp only [Act.put, List.setIfInBounds_toArray, List.set_cons_zero, List.set_cons_succ, i64_w, i32_w]
                  rfl
                refine one_ (i := 6) (N := some 32) (nb 9 127) rfl rfl (one_of HT_.out (by kernel_rfl)) (by decide) (fun K hK => ?_)
                refine Kd.R_append_step (Kd.int .i64) (w0 := w) w.heap.size (by rfl) (.tmp 27) (.tmp 31) 24 3 (.int .i64 0) 8 rfl Tryz.underlying24 info3 rfl (by decide) (by omega) u247001 x247001_2 t247 [.int .i64 t247] (fun _ => True) (fun _ => False) rfl rfl ?aP (fun _ hk => hk.elim) ?aF ?aO ?aB ?aS ?aL ?_
                (case aP => exact rfl)
                (case aB => exact hB_)
                (case aF => exact (fun _ _ => trivial))
                (case aO => exact (rW HO_247001.out))
                (case aS => exact (below_size hB_))
                (case aL => have := LMc25.out; omega)
                intro v249 w31 ho hb hg hat
                rw [← Ny248.out] at ho
                replace BK243 := Aside0.mk (blk_grown (bW BK243) hg (Kd.R_ne HO_247001.out BK243.out (by decide)))
                replace BK244 := Aside0.mk (blk_grown (bW BK244) hg (Kd.R_ne HO_247001.out BK244.out (by decide)))
                replace BK246 := Aside0.mk (blk_grown (bW BK246) hg (Kd.R_ne HO_247001.out BK246.out (by decide)))
                replace HB := Aside0.mk (hb)
                have HO250 := Aside0.mk (ho)
                clear HO_247001
                clear ho hb hg hat
                obtain ⟨Ao32, co32, eo32⟩ := Kd.R_slice HO250.out
                (first | subst eo32 | (injection eo32 with f1_ f2_ f3_; have f4_ := f1_.symm; have f5_ := f3_.symm; clear f1_ f2_ f3_; subst f4_; subst f5_))
                refine hK.out _ _ ⟨(blk_cell BK246.out 0).trans rfl, (blk_cell BK246.out 1).trans rfl, (blk_cell BK243.out 0).trans rfl, (blk_cell BK243.out 1).trans rfl⟩ (fun hHeld => ?_)
                clear hK K
                refine norm_ (a' := ?_) ?_ ?_
                rotate_left
                · show Act.put _ (some 32) _ = _
                  simp only [Act.put, List.setIfInBounds_toArray, List.set_cons_zero, List.set_cons_succ, i64_w, i32_w]
                  rfl
                refine pure_ (i := 7) (N := some 33) (v := ?_) (a' := ?_) (nb 9 255) rfl rfl (any_of HT_.out (by kernel_rfl)) (fun _ _ _ h => h) (Or.inl ⟨by rfl, ?_⟩) ?_ ?_
                rotate_left
                · intro w'
                  go_simp
                  with_reducible rfl
                rotate_left
                · simp only [Act.put, List.setIfInBounds_toArray, List.set_cons_zero, List.set_cons_succ, i64_w, i32_w]
                  rfl
                refine last_ (i := 8) (N := none) (nb 9 511) rfl rfl (one_of HT_.out (by kernel_rfl)) (by decide) (fun K hK => ?_)
                have hs33 : w31.cell? ⟨gb246, 1, none⟩ = some (u247001) := (blk_cell BK246.out 1).trans rfl
                have hfs33 := blk_frozen BK246.out 1
                have hns33_0 := NB243_246.out
                have hns33_1 := NB244_246.out
                have hms33_0 := NB246_243.out
                have hms33_1 := NB246_244.out
                refine skip_ (w1 := ?_) (by rfl) rfl ?_ ?_
                rotate_left
                · go_simp
                  rfl
                refine hK.out _ _ ?_
                clear hK K
                refine done_ (done_of HT_.out (by kernel_rfl)) ?_
                try go_wp2
                go_roundg k2
                case measure => have := HJ1.out; have := HK2.out; omega
                case rel => exact ⟨(wrap64 (x5_2 + 1)), (y248), (.slice Ao32 y248.length co32), (by first | rfl | (simp; done) | (simp [*]; done)), H', ⟨by have := HJ1.out; have := HK2.out; omega⟩, ⟨by (with_reducible repeat (first | apply Kd.R_alloc | apply Kd.R_drewN | apply Kd.R_drew)); exact Kd.R_mono (Kd.R_far (p := ⟨gb246, 1, none⟩) (Kd.R_types HO250.out BK246.out (by decide)) (fun _ hk => hk.2) (.slice Ao32 y248.length co32)) (fun _ hk => trivial)⟩, (qF NB243_246 BK243), (qF NB244_246 BK244), (qP BK246), ⟨hB_⟩⟩
              · rw [if_neg c25] at H
                exact absurd H (by simp)
            · rw [if_neg c23] at H
              have c23b0 : decide (x5_2 < a0_0) = false := decide_eq_false c23
              clear c23
              simp only [Option.some.injEq, Prod.mk.injEq] at H
              obtain ⟨rfl, rfl, rfl⟩ := H
              have hnb34 := NB243_244.out
              have hnc34 := NB244_243.out
              have hnb35 := NB243_246.out
              have hnc35 := NB246_243.out
              have hcz36_0 : wr.cell? ⟨gb243, 0, none⟩ = some (.int .i64 a0_0) := (blk_cell BK243.out 0).trans rfl
              have hcz36_1 : wr.cell? ⟨gb243, 1, none⟩ = some (.slice A0_1 l0_1.length c0_1) := (blk_cell BK243.out 1).trans rfl
              have hfz36_0 := blk_frozen BK243.out 0
              have hfz36_1 := blk_frozen BK243.out 1
              have hnb37 := NB246_244.out
              have hnc37 := NB244_246.out
              have hcz38_0 : wr.cell? ⟨gb246, 0, none⟩ = some (.int .i64 (l0_1.length : Int)) := (blk_cell BK246.out 0).trans rfl
              have hcz38_1 : wr.cell? ⟨gb246, 1, none⟩ = some (u247001) := (blk_cell BK246.out 1).trans rfl
              have hfz38_0 := blk_frozen BK246.out 0
              have hfz38_1 := blk_frozen BK246.out 1
              have hcz39_0 : wr.cell? ⟨gb244, 0, none⟩ = some (.int .i64 0) := (blk_cell BK244.out 0).trans rfl
              have hcz39_1 : wr.cell? ⟨gb244, 1, none⟩ = some (.slice none 0 0) := (blk_cell BK244.out 1).trans rfl
              have hfz39_0 := blk_frozen BK244.out 0
              have hfz39_1 := blk_frozen BK244.out 1
              obtain ⟨Ao40, co40, eo40⟩ := Kd.R_slice HO_247001.out
              subst eo40
              go_wp2
              refine bodyPost_ret (results_ct rfl _ _ gb244 26 #[.int .i64 (l0_1.length : Int), .slice Ao40 x247001_2.length co40] (0, 0) _ rfl (qP (qP BK244)).out Tryz.underlying26 rfl (by kernel_rfl)) rfl ?_
              exact ⟨_, eR_, by (with_reducible repeat (first | apply Kd.R_alloc | apply Kd.R_drewN | apply Kd.R_drew)); exact Kd.R_mono (Kd.R_far (p := ⟨gb244, 1, none⟩) (Kd.R_far (p := ⟨gb244, 0, none⟩) (Kd.R_types HO_247001.out BK244.out (by decide)) (fun _ hk => hk.2) (.int .i64 (l0_1.length : Int))) (fun _ hk => hk.2) (.slice Ao40 x247001_2.length co40)) (fun _ hk => trivial), hB_⟩

/-! ### spec_DrawColumnOf: function 8 -/
def spec_DrawColumnOf.f (k : Nat) (l0 : List Int) : Option (Int × List Int × Int) := (spec_l1New.f k l0).bind fun bt252 => ((spec_l3Bent.f k bt252.1 bt252.2.1 bt252.2.2).bind fun bt256 => ((spec_l1Below.f bt252.1 bt256.2.2.1 bt256.2.2.2 8).bind fun bt263 => (some (bt256.1, bt256.2.1, wrap64 (bt263.1 - 1)))))
theorem spec_DrawColumnOf.mono : ∀ a0 k, LeO (spec_DrawColumnOf.f k a0) (spec_DrawColumnOf.f (k + 1) a0) := by
  intro a0 k
  unfold spec_DrawColumnOf.f
  repeat' first
      | (with_reducible exact spec_l1New.mono _ _)
      | (with_reducible exact spec_l3Bent.mono _ _ _ _)
      | (with_reducible exact LeO.refl _)
      | (with_reducible exact LeO.none _)
      | (with_reducible refine LeO.ite ?_ ?_)
      | (with_reducible refine LeO.bind ?_ (fun _ => ?_))
      | exact spec_l1New.mono _ _
      | exact spec_l3Bent.mono _ _ _ _
      | exact LeO.none _
      | refine LeO.ite ?_ ?_
      | refine LeO.bind ?_ (fun _ => ?_)
set_option maxHeartbeats 8000000 in
set_option maxRecDepth 100000 in
theorem spec_DrawColumnOf.calls (k : Nat) (A0 : Option Addr) (c0 : Nat) (l0 : List Int) (r1 : Int) (r2 : List Int) (r3 : Int) (w : World) (hr0 : Kd.C (Kd.int .u8) w A0 l0.length l0) (hc0 : l0.length ≤ c0) (h : spec_DrawColumnOf.f k l0 = some (r1, r2, r3)) :
    Calls Tryz.prog 8 #[.slice A0 l0.length c0] w fun e w' => ∃ v1_ : Value, e = .returned (.tuple #[.agg #[.int .i64 r1, v1_], .int .i64 r3]) ∧ Kd.R (Kd.int .i64) 3 w' w.heap.size (fun _ => True) v1_ r2 ∧ Below w.heap.size w w' := by
  have hu26 := Tryz.underlying26
  have HR0 := Aside0.mk hr0
  have HC0 := Aside0.mk hc0
  clear hr0 hc0
  have HB := Aside0.mk (Below.refl w.heap.size w)
  have H : ((spec_l1New.f k l0).bind fun bt252 => ((spec_l3Bent.f k bt252.1 bt252.2.1 bt252.2.2).bind fun bt256 => ((spec_l1Below.f bt252.1 bt256.2.2.1 bt256.2.2.2 8).bind fun bt263 => (some (bt256.1, bt256.2.1, wrap64 (bt263.1 - 1)))))) = some (r1, r2, r3) := h
  clear h
  replace H := aB H
  obtain ⟨⟨t252, t253, t254⟩, A2, H⟩ := H
  dsimp only at H
  replace H := aB H
  obtain ⟨⟨t256, t257, t260, t261⟩, A3, H⟩ := H
  dsimp only at H
  replace H := aB H
  obtain ⟨⟨t263, t264, t265⟩, A4, H⟩ := H
  dsimp only at H
  simp only [Option.some.injEq, Prod.mk.injEq] at H
  obtain ⟨rfl, rfl, rfl⟩ := H
  go_enter Tryz.func8, Tryz.ntmps8
  try go_wp2_with (first | ((with_reducible refine gate_dst (N := 2) rfl ?_); refine box_event ?hg (N := 2) ?hd (cs := #[.int .i64 0, .slice none 0 0]) (t := 26) ?hr ?_; (case hd => rfl); (case hg => rfl); (case hr => first | (go_simp; done) | (go_simp; rfl)); intro gb251 hg w5 hbox hb; have BK251 := Aside0.mk (hbox); have GW251 := kG HB hg; have GE251 := kG HB hg; replace HB := kH HB hb; clear hb hbox hg) | ((with_reducible refine gate_callee (f := 26) rfl ?_); refine goesL_ (some 7) rfl rfl Tryz.func26 (by kernel_rfl) rfl #[.slice A0 l0.length c0] rfl gL_ ?_; (with_reducible refine (spec_l1New.calls k _ _ l0 t252 t253 t254 w _ ?side1 ?side2 ?side3 A2.out).mono ?_); (case side1 => exact hB_); (case side2 => exact HR0.out); (case side3 => exact HC0.out); rintro e w6 ⟨g255, rfl, hi, hb, hb2⟩; refine ⟨_, rfl, ?_⟩; replace HB := Aside0.mk (hb); have HI255 := Aside0.mk (hi); have NB255_251 := Aside0.mk (IsS69.ne_blk hi (blk_below (g := gb251) (o := .cells #[.int .i64 0, .slice none 0 0] 26 (0, 0)) (bW BK251) hb2) (by decide)); have NB251_255 := Aside0.mk (Ne.symm (IsS69.ne_blk hi (blk_below (g := gb251) (o := .cells #[.int .i64 0, .slice none 0 0] 26 (0, 0)) (bW BK251) hb2) (by decide))); replace BK251 := Aside0.mk (blk_below (g := gb251) (o := .cells #[.int .i64 0, .slice none 0 0] 26 (0, 0)) (bW BK251) hb2); clear hb hb2 hi) | ((with_reducible refine gate_callee (f := 25) rfl ?_); refine goesL_ (some 9) rfl rfl Tryz.func25 (by kernel_rfl) rfl #[.pointer (some ⟨g255, 0, none⟩)] rfl gL_ ?_; (with_reducible refine (spec_l3Bent.calls k g255 t252 t253 t254 t256 t257 t260 t261 w _ ?side1 ?side2 A3.out).mono ?_); (case side1 => exact hI69_HI255); (case side2 => exact hC69_); rintro e w7 ⟨v258, rfl, ho0, hi, hb, hk⟩; refine ⟨_, rfl, ?_⟩; replace BK251 := kK hk BK251 NB251_255; have HO259 := Aside0.mk (Kd.R_lower ho0 (below_size hC69_)); replace HB := Aside0.mk (hb); replace HI255 := Aside0.mk (hi); clear hb hk hi ho0) | ((with_reducible refine gate_dst (N := 5) rfl ?_); refine box_event ?hg (N := 5) ?hd (cs := #[.int .i64 0, .slice none 0 0]) (t := 26) ?hr ?_; (case hd => rfl); (case hg => rfl); (case hr => first | (go_simp; done) | (go_simp; rfl)); intro gb262 hg w8 hbox hb; replace HO259 := kR HO259 hb; have BK262 := Aside0.mk (hbox); have GW262 := Aside0.mk ((by rw [hg]; exact (below_size hC69_) : w.heap.size ≤ gb262)); have GE262 := Aside0.mk ((by rw [hg]; exact (below_size hC69_) : w.heap.size ≤ gb262)); replace HB := Aside0.mk (below_step hC69_ hb); have NB251_262 := kN BK251 hg; have NB262_251 := kM BK251 hg; replace BK251 := kB BK251 hb; have NB255_262 := Aside0.mk ((by rw [hg]; exact Nat.ne_of_lt (IsS69.lt (show IsS69 w _ g255 t252 t260 t261 from hI69_HI255)) : g255 ≠ gb262)); have NB262_255 := Aside0.mk ((by rw [hg]; exact Nat.ne_of_gt (IsS69.lt (show IsS69 w _ g255 t252 t260 t261 from hI69_HI255)) : gb262 ≠ g255)); replace HI255 := Aside0.mk (IsS69.below hI69_HI255 hb); clear hb hbox hg; have hnb9 := NB262_251.out; have hnc9 := NB251_262.out; have hnb10 := NB262_255.out; have hnc10 := NB255_262.out; have hcz11_0 : w8.cell? ⟨gb262, 0, none⟩ = some (.int .i64 0) := (blk_cell BK262.out 0).trans rfl; have hcz11_1 : w8.cell? ⟨gb262, 1, none⟩ = some (.slice none 0 0) := (blk_cell BK262.out 1).trans rfl; have hfz11_0 := blk_frozen BK262.out 0; have hfz11_1 := blk_frozen BK262.out 1; obtain ⟨Ao12, co12, eo12⟩ := Kd.R_slice HO259.out; subst eo12))
  have n0_ : Aside0 (Kd.R (Kd.int .i64) 3 ((w8.setCell ⟨gb262, 0, none⟩ (.int .i64 t256)).setCell ⟨gb262, 1, none⟩ (.slice Ao12 t257.length co12)) w.heap.size (fun _ => True) (.slice Ao12 t257.length co12) t257) := (rM (kT HO259 BK262))
  have n1_ : Aside0 (((w8.setCell ⟨gb262, 0, none⟩ (.int .i64 t256)).setCell ⟨gb262, 1, none⟩ (.slice Ao12 t257.length co12)).heap[gb251]? = some (.cells #[.int .i64 0, .slice none 0 0] 26 (0, 0))) := (qF NB251_262 (qF NB251_262 BK251))
  have n2_ : Aside0 (((w8.setCell ⟨gb262, 0, none⟩ (.int .i64 t256)).setCell ⟨gb262, 1, none⟩ (.slice Ao12 t257.length co12)).heap[gb262]? = some (.cells #[.int .i64 t256, .slice Ao12 t257.length co12] 26 (0, 0))) := (qP (qP BK262))
  have n3_ : Aside0 (IsS69 w ((w8.setCell ⟨gb262, 0, none⟩ (.int .i64 t256)).setCell ⟨gb262, 1, none⟩ (.slice Ao12 t257.length co12)) g255 t252 t260 t261) := ⟨hI69_HI255⟩
  have n4_ : Aside0 (Below w.heap.size w ((w8.setCell ⟨gb262, 0, none⟩ (.int .i64 t256)).setCell ⟨gb262, 1, none⟩ (.slice Ao12 t257.length co12))) := ⟨hC69_⟩
  (try clear HO259)
  (try clear BK251)
  (try clear BK262)
  (try clear HI255)
  (try clear HB)
  generalize ((w8.setCell ⟨gb262, 0, none⟩ (.int .i64 t256)).setCell ⟨gb262, 1, none⟩ (.slice Ao12 t257.length co12)) = w13 at n0_ n1_ n2_ n3_ n4_ ⊢
  have HO259 := n0_
  have BK251 := n1_
  have BK262 := n2_
  have HI255 := n3_
  have HB := n4_
  clear n0_ n1_ n2_ n3_ n4_
  replace HO259 := Aside0.mk (Kd.R_drew HO259.out)
  replace BK251 := Aside0.mk (blk_drew BK251.out)
  replace BK262 := Aside0.mk (blk_drew BK262.out)
  replace HI255 := Aside0.mk (IsS69.drew HI255.out)
  replace HB := Aside0.mk (below_drew1 HB.out)
  refine start_ (n := 6) (S := fun w' => w'.cell? ⟨gb262, 0, none⟩ = some (.int .i64 t256) ∧ w'.cell? ⟨gb262, 1, none⟩ = some (.slice Ao12 t257.length co12)) (ds := []) #[false, false, false, false, false, false] (by kernel_rfl) rfl rfl ⟨(blk_cell BK262.out 0).trans rfl, (blk_cell BK262.out 1).trans rfl⟩ (fun hHeld => ?_)
  generalize w13.drew = w14 at HO259 BK251 BK262 HI255 HB hHeld ⊢
  refine pure_ (i := 1) (N := some 11) (v := ?_) (a' := ?_) #[false, true, false, false, false, false] rfl rfl (by kernel_rfl) (fun _ _ _ h => h) (Or.inl ⟨by rfl, ?_⟩) ?_ ?_
  rotate_left
  · intro w'
    go_simp
    with_reducible rfl
  rotate_left
  · simp only [Act.put, List.setIfInBounds_toArray, List.set_cons_zero, List.set_cons_succ, i64_w, i32_w]
    rfl
  refine take_ (i := 0) (N := some 10) (v := ?_) (a' := ?_) #[true, true, false, false, false, false] rfl rfl (by kernel_rfl) (fun _ _ _ h => h) (Or.inl ⟨by rfl, ?_⟩) hHeld ?_ ?_
  rotate_left
  · rintro w' ⟨s0, s1⟩
    go_simp
    with_reducible rfl
  rotate_left
  · simp only [Act.put, List.setIfInBounds_toArray, List.set_cons_zero, List.set_cons_succ, i64_w, i32_w]
    rfl
  refine one_ (i := 2) (N := some 12) #[true, true, true, false, false, false] rfl rfl (by kernel_rfl) (by decide) (fun K hK => ?_)
  refine goes_ Tryz.func29 (by kernel_rfl) rfl #[.pointer (some ⟨g255, 0, none⟩), .int .i64 8] (by rfl) rfl rfl gL_ ?_
  with_reducible refine (spec_l1Below.calls g255 t252 t260 t261 8 t263 t264 t265 w _ ?side1 ?side2 A4.out).mono ?_
  (case side1 => exact hI69_HI255)
  (case side2 => exact hC69_)
  rintro e w15 ⟨rfl, hi, hb, hk⟩
  refine ⟨_, rfl, ?_⟩
  replace BK251 := kK hk BK251 NB251_255
  replace HO259 := Aside0.mk (Kd.R_mono (Kd.R_keep (IsS69.apart (show IsS69 w _ g255 t252 t260 t261 from hI69_HI255) (rW HO259.out) (by decide)) hk (fun _ h => h.2)) (fun _ h => h.1))
  replace BK262 := kK hk BK262 NB262_255
  replace HB := Aside0.mk (hb)
  replace HI255 := Aside0.mk (hi)
  (try clear hb)
  (try clear hb2)
  (try clear hk)
  (try clear hi)
  refine hK.out _ _ ⟨(blk_cell BK262.out 0).trans rfl, (blk_cell BK262.out 1).trans rfl⟩ (fun hHeld => ?_)
  clear hK K
  refine norm_ (a' := ?_) ?_ ?_
  rotate_left
  · show Act.put _ (some 12) _ = _
    simp only [Act.put, List.setIfInBounds_toArray, List.set_cons_zero, List.set_cons_succ, i64_w, i32_w]
    rfl
  refine pure_ (i := 3) (N := some 13) (v := ?_) (a' := ?_) #[true, true, true, true, false, false] rfl rfl (by kernel_rfl) (fun _ _ _ h => h) (Or.inl ⟨by rfl, ?_⟩) ?_ ?_
  rotate_left
  · intro w'
    go_simp
    with_reducible rfl
  rotate_left
  · simp only [Act.put, List.setIfInBounds_toArray, List.set_cons_zero, List.set_cons_succ, i64_w, i32_w]
    rfl
  refine one_ (i := 4) (N := none) #[true, true, true, true, true, false] rfl rfl (by kernel_rfl) (by decide) (fun K hK => ?_)
  have hs16 : w15.cell? ⟨gb251, 0, none⟩ = some (.int .i64 0) := (blk_cell BK251.out 0).trans rfl
  have hfs16 := blk_frozen BK251.out 0
  have hns16_1 := NB262_251.out
  have hms16_1 := NB251_262.out
  have hs17 : w15.cell? ⟨gb251, 1, none⟩ = some (.slice none 0 0) := (blk_cell BK251.out 1).trans rfl
  have hfs17 := blk_frozen BK251.out 1
  have hns17_1 := NB262_251.out
  have hms17_1 := NB251_262.out
  refine skip_ (w1 := ?_) (by rfl) rfl ?_ ?_
  rotate_left
  · go_simp
    rfl
  refine hK.out _ _ ⟨((cell_far (p := ⟨gb251, _, none⟩) NB262_251.out _).trans (((cell_far (p := ⟨gb251, _, none⟩) NB262_251.out _).trans (hHeld.1)))), ((cell_far (p := ⟨gb251, _, none⟩) NB262_251.out _).trans (((cell_far (p := ⟨gb251, _, none⟩) NB262_251.out _).trans (hHeld.2))))⟩ (fun hHeld => ?_)
  clear hK K
  refine pure_ (i := 5) (N := some 3) (v := ?_) (a' := ?_) #[true, true, true, true, true, true] rfl rfl (by kernel_rfl) (fun _ _ _ h => h) (Or.inl ⟨by rfl, ?_⟩) ?_ ?_
  rotate_left
  · intro w'
    go_simp
    with_reducible rfl
  rotate_left
  · simp only [Act.put, List.setIfInBounds_toArray, List.set_cons_zero, List.set_cons_succ, i64_w, i32_w]
    rfl
  refine done_ (by kernel_rfl) ?_
  try go_wp2
  refine bodyPost_ret (results_ct rfl _ _ gb251 26 #[.int .i64 t256, .slice Ao12 t257.length co12] (0, 0) _ rfl (qP (qP BK251)).out Tryz.underlying26 rfl (by kernel_rfl)) rfl ?_
  exact ⟨_, eR_, by (with_reducible repeat (first | apply Kd.R_alloc | apply Kd.R_drewN | apply Kd.R_drew)); exact Kd.R_mono (Kd.R_far (p := ⟨gb251, 1, none⟩) (Kd.R_far (p := ⟨gb251, 0, none⟩) (Kd.R_types HO259.out BK251.out (by decide)) (fun _ hk => hk.2) (.int .i64 t256)) (fun _ hk => hk.2) (.slice Ao12 t257.length co12)) (fun _ hk => trivial), hC69_⟩

/-! ### spec_DrawComplementContext: function 9 -/
def spec_DrawComplementContext.f (k : Nat) (l0 : List Int) : Option (Int × List Int) := (spec_l1New.f k l0).bind fun bt267 => ((spec_l3Bent.f k bt267.1 bt267.2.1 bt267.2.2).bind fun bt271 => (some (bt271.1, bt271.2.1)))
theorem spec_DrawComplementContext.mono : ∀ a0 k, LeO (spec_DrawComplementContext.f k a0) (spec_DrawComplementContext.f (k + 1) a0) := by
  intro a0 k
  unfold spec_DrawComplementContext.f
  repeat' first
      | (with_reducible exact spec_l1New.mono _ _)
      | (with_reducible exact spec_l3Bent.mono _ _ _ _)
      | (with_reducible exact LeO.refl _)
      | (with_reducible exact LeO.none _)
      | (with_reducible refine LeO.ite ?_ ?_)
      | (with_reducible refine LeO.bind ?_ (fun _ => ?_))
      | exact spec_l1New.mono _ _
      | exact spec_l3Bent.mono _ _ _ _
      | exact LeO.none _
      | refine LeO.ite ?_ ?_
      | refine LeO.bind ?_ (fun _ => ?_)
set_option maxHeartbeats 8000000 in
set_option maxRecDepth 100000 in
theorem spec_DrawComplementContext.calls (k : Nat) (A0 : Option Addr) (c0 : Nat) (l0 : List Int) (r1 : Int) (r2 : List Int) (w : World) (hr0 : Kd.C (Kd.int .u8) w A0 l0.length l0) (hc0 : l0.length ≤ c0) (h : spec_DrawComplementContext.f k l0 = some (r1, r2)) :
    Calls Tryz.prog 9 #[.slice A0 l0.length c0] w fun e w' => ∃ v1_ : Value, e = .returned (.agg #[.int .i64 r1, v1_]) ∧ Kd.R (Kd.int .i64) 3 w' w.heap.size (fun _ => True) v1_ r2 ∧ Below w.heap.size w w' := by
  have hu26 := Tryz.underlying26
  have HR0 := Aside0.mk hr0
  have HC0 := Aside0.mk hc0
  clear hr0 hc0
  have HB := Aside0.mk (Below.refl w.heap.size w)
  have H : ((spec_l1New.f k l0).bind fun bt267 => ((spec_l3Bent.f k bt267.1 bt267.2.1 bt267.2.2).bind fun bt271 => (some (bt271.1, bt271.2.1)))) = some (r1, r2) := h
  clear h
  replace H := aB H
  obtain ⟨⟨t267, t268, t269⟩, A2, H⟩ := H
  dsimp only at H
  replace H := aB H
  obtain ⟨⟨t271, t272, t275, t276⟩, A3, H⟩ := H
  dsimp only at H
  simp only [Option.some.injEq, Prod.mk.injEq] at H
  obtain ⟨rfl, rfl⟩ := H
  go_enter Tryz.func9, Tryz.ntmps9
  go_wp2_with (first | ((with_reducible refine gate_dst (N := 2) rfl ?_); refine box_event ?hg (N := 2) ?hd (cs := #[.int .i64 0, .slice none 0 0]) (t := 26) ?hr ?_; (case hd => rfl); (case hg => rfl); (case hr => first | (go_simp; done) | (go_simp; rfl)); intro gb266 hg w4 hbox hb; have BK266 := Aside0.mk (hbox); have GW266 := kG HB hg; have GE266 := kG HB hg; replace HB := kH HB hb; clear hb hbox hg) | ((with_reducible refine gate_callee (f := 26) rfl ?_); refine goesL_ (some 4) rfl rfl Tryz.func26 (by kernel_rfl) rfl #[.slice A0 l0.length c0] rfl gL_ ?_; (with_reducible refine (spec_l1New.calls k _ _ l0 t267 t268 t269 w _ ?side1 ?side2 ?side3 A2.out).mono ?_); (case side1 => exact hB_); (case side2 => exact HR0.out); (case side3 => exact HC0.out); rintro e w5 ⟨g270, rfl, hi, hb, hb2⟩; refine ⟨_, rfl, ?_⟩; replace HB := Aside0.mk (hb); have HI270 := Aside0.mk (hi); have NB270_266 := Aside0.mk (IsS69.ne_blk hi (blk_below (g := gb266) (o := .cells #[.int .i64 0, .slice none 0 0] 26 (0, 0)) (bW BK266) hb2) (by decide)); have NB266_270 := Aside0.mk (Ne.symm (IsS69.ne_blk hi (blk_below (g := gb266) (o := .cells #[.int .i64 0, .slice none 0 0] 26 (0, 0)) (bW BK266) hb2) (by decide))); replace BK266 := Aside0.mk (blk_below (g := gb266) (o := .cells #[.int .i64 0, .slice none 0 0] 26 (0, 0)) (bW BK266) hb2); clear hb hb2 hi) | ((with_reducible refine gate_callee (f := 25) rfl ?_); refine goesL_ (some 5) rfl rfl Tryz.func25 (by kernel_rfl) rfl #[.pointer (some ⟨g270, 0, none⟩)] rfl gL_ ?_; (with_reducible refine (spec_l3Bent.calls k g270 t267 t268 t269 t271 t272 t275 t276 w _ ?side1 ?side2 A3.out).mono ?_); (case side1 => exact hI69_HI270); (case side2 => exact hC69_); rintro e w6 ⟨v273, rfl, ho0, hi, hb, hk⟩; refine ⟨_, rfl, ?_⟩; replace BK266 := kK hk BK266 NB266_270; have HO274 := Aside0.mk (Kd.R_lower ho0 (below_size hC69_)); replace HB := Aside0.mk (hb); replace HI270 := Aside0.mk (hi); clear hb hk hi ho0; have hnb7 := NB266_270.out; have hnc7 := NB270_266.out; have hcz8_0 : w6.cell? ⟨gb266, 0, none⟩ = some (.int .i64 0) := (blk_cell BK266.out 0).trans rfl; have hcz8_1 : w6.cell? ⟨gb266, 1, none⟩ = some (.slice none 0 0) := (blk_cell BK266.out 1).trans rfl; have hfz8_0 := blk_frozen BK266.out 0; have hfz8_1 := blk_frozen BK266.out 1; obtain ⟨Ao9, co9, eo9⟩ := Kd.R_slice HO274.out; subst eo9))
  refine bodyPost_ret (results_cell_row rfl _ _ gb266 26 #[.int .i64 t271, .slice Ao9 t272.length co9] (0, 0) _ rfl (qP (qP BK266)).out Tryz.underlying26 rfl (by kernel_rfl)) rfl ?_
  exact ⟨_, eR_, by (with_reducible repeat (first | apply Kd.R_alloc | apply Kd.R_drewN | apply Kd.R_drew)); exact Kd.R_mono (Kd.R_far (p := ⟨gb266, 1, none⟩) (Kd.R_far (p := ⟨gb266, 0, none⟩) (Kd.R_types HO274.out BK266.out (by decide)) (fun _ hk => hk.2) (.int .i64 t271)) (fun _ hk => hk.2) (.slice Ao9 t272.length co9)) (fun _ hk => trivial), hC69_⟩

/-! ### impl_FullSet: function 30 -/
def impl_FullSet.f (a0 : Int) : Option (Int) := (impl_within.f a0 0 8).bind fun t277 => (if t277 = true then (if 0 ≤ a0 then (some (wrap64 ((shl .i64 1 a0) - 1))) else (none)) else (some 0))
set_option maxHeartbeats 8000000 in
set_option maxRecDepth 100000 in
theorem impl_FullSet.calls (a0 : Int) (r : Int) (w : World) (h : impl_FullSet.f a0 = some r) :
    Calls Tryz.prog 30 #[.int .i64 a0] w fun e w' => e = .returned (.int .i64 r) ∧ Drawn0 w w' := by
  have H : ((impl_within.f a0 0 8).bind fun t277 => (if t277 = true then (if 0 ≤ a0 then (some (wrap64 ((shl .i64 1 a0) - 1))) else (none)) else (some 0))) = some r := h
  clear h
  replace H := aB H
  obtain ⟨t277, A2, H⟩ := H
  by_cases c3 : t277 = true
  · subst c3
    replace H := ifT H
    by_cases c4 : 0 ≤ a0
    · rw [if_pos c4] at H
      have c4b0 := eq_true c4
      have c4b1 : decide (0 ≤ a0) = true := decide_eq_true c4
      clear c4
      obtain ⟨ji5, hji5⟩ : ∃ j_ : Int, (shl .i64 1 a0) = j_ := ⟨_, rfl⟩
      replace H : (some (wrap64 ((ji5) - 1))) = some r := by first | (rw [hji5] at H; exact H) | (simp only [hji5] at H ⊢; exact H)
      (try rw [hji5] at A2)
      have hji5_ : (IntKind.i64.wrap (1 * 2 ^ min a0.toNat 64)) = ji5 := hji5
      have hji5z : a0 ≤ 64 → (IntKind.i64.wrap (1 * 2 ^ a0.toNat)) = ji5 := shl_small hji5
      have hji5u : (IntKind.i64.wrap (2 ^ min a0.toNat 64)) = ji5 := by have h_ := hji5_; rw [Int.one_mul] at h_; exact h_
      have hji5v : a0 ≤ 64 → (IntKind.i64.wrap (2 ^ a0.toNat)) = ji5 := fun hle_ => by have h_ := hji5z hle_; rw [Int.one_mul] at h_; exact h_
      have hji5y : (wrap64 (1 * 2 ^ min a0.toNat 64)) = ji5 := (i64_w _).symm.trans hji5_
      have hji5x : a0 ≤ 64 → (wrap64 (1 * 2 ^ a0.toNat)) = ji5 := fun h_ => (i64_w _).symm.trans (hji5z h_)
      obtain rfl := Option.some.inj H
      go_enter Tryz.func30, Tryz.ntmps30
      go_wp2_with (first | ((with_reducible refine gate_callee (f := 46) rfl ?_); refine goesL_ (some 4) rfl rfl Tryz.func46 (by kernel_rfl) rfl #[.int .i64 a0, .int .i64 0, .int .i64 8] rfl gL_ ?_; (with_reducible refine (impl_within.calls a0 0 8 true _ A2.out).mono ?_); rintro e w' ⟨rfl, ⟨nd, rfl⟩⟩; refine ⟨_, rfl, ?_⟩))
      go_ret
      exact ⟨by first | rfl | (simp; done) | (simp only [← hji5] <;> (first | rfl | simp)) | (simp [*]; done), by repeat (first | exact Drawn0.refl _ | apply Drawn0.step)⟩
    · rw [if_neg c4] at H
      exact absurd H (by simp)
  · replace c3 := Bool.eq_false_iff.mpr c3
    subst c3
    replace H := ifF H
    obtain rfl := Option.some.inj H
    go_enter Tryz.func30, Tryz.ntmps30
    go_wp2_with (first | ((with_reducible refine gate_callee (f := 46) rfl ?_); refine goesL_ (some 4) rfl rfl Tryz.func46 (by kernel_rfl) rfl #[.int .i64 a0, .int .i64 0, .int .i64 8] rfl gL_ ?_; (with_reducible refine (impl_within.calls a0 0 8 false _ A2.out).mono ?_); rintro e w' ⟨rfl, ⟨nd, rfl⟩⟩; refine ⟨_, rfl, ?_⟩))
    go_ret
    exact ⟨by first | rfl | (simp; done) | (simp [*]; done), by repeat (first | exact Drawn0.refl _ | apply Drawn0.step)⟩

end Go.Proofs.YtgmnmimaeklfeaaGreatDoor.PFnContexts
