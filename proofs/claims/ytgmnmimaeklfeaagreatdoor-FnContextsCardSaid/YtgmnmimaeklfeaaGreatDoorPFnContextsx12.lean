-- Written by a program of this session (wip/myprint.py), which runs the kit's print with contracts proved by hand; not the kit's own print. Lean checks it.
import Derived.Test.YtgmnmimaeklfeaaGreatDoorPFnContextsx0
import Derived.Test.YtgmnmimaeklfeaaGreatDoorPFnContextsx4
import Derived.Test.YtgmnmimaeklfeaaGreatDoorPFnContextsx5
import Derived.Test.YtgmnmimaeklfeaaGreatDoorPFnContextsx8
import Derived.Test.YtgmnmimaeklfeaaGreatDoorPFnContextsx10
import Derived.Test.YtgmnmimaeklfeaaGreatDoorPFnContextsx11
namespace Go.Proofs.YtgmnmimaeklfeaaGreatDoor.PFnContexts
open Go.RowKit Go.Proofs.YtgmnmimaeklfeaaGreatDoorW.PrintWords Go.Proofs.YtgmnmimaeklfeaaGreatDoorW.PrintLast Go.Proofs.YtgmnmimaeklfeaaGreatDoorW.PrintMore
attribute [local go_sem] max2_int min2_int max_two min_two max_three min_three max_four min_four   -- for this text's walks alone
set_option linter.unusedVariables false
set_option linter.unusedSimpArgs false

/-! ### spec_ParseContext: function 15 -/
mutual
def spec_ParseContext.l0 : Nat → ByteArray → List ByteArray → Bool → List ByteArray → Int → Int → List Int → Option (Int × List Int × Bool)
  | 0, _, _, _, _, _, _, _ => none
  | k + 1, x0, x4, x6, x8, x9, x478000, x478001 => if x9 < (x8.length : Int) then (if 1 < (x4.length : Int) then (spec_ParseContext.j1 k x0 x4 x6 x8 x9 ((rdOf ByteArray.empty x4 1).toList != ([110, 111, 110, 101] : List UInt8)) x478000 x478001) else (none)) else (spec_ParseContext.j1 k x0 x4 x6 x8 x9 false x478000 x478001)
def spec_ParseContext.j1 : Nat → ByteArray → List ByteArray → Bool → List ByteArray → Int → Bool → Int → List Int → Option (Int × List Int × Bool)
  | 0, _, _, _, _, _, _, _, _ => none
  | k + 1, x0, x4, x6, x8, x9, x40, x478000, x478001 => if x40 = true then (if 0 ≤ x9 then (if x9 < (x8.length : Int) then ((spec_ParseSet.f k (rdOf ByteArray.empty x8 x9)).bind fun bt484 => (if bt484.2 = true then (if x478001.length < 17592186044416 then (spec_ParseContext.l0 k x0 x4 x6 x8 (wrap64 (x9 + 1)) x478000 (x478001 ++ [bt484.1])) else (none)) else (some (0, ([] : List Int), false)))) else (none)) else (none)) else (if x6 = true then ((spec_ContextText.f k x478000 x478001).bind fun t489 => (if t489.toList = x0.toList then (some (x478000, x478001, true)) else (some (0, ([] : List Int), false)))) else (some (0, ([] : List Int), false)))
end
def spec_ParseContext.f (k : Nat) (a0 : ByteArray) : Option (Int × List Int × Bool) := (spec_SplitByte.f k a0 32).bind fun t471 => (if (t471.length : Int) = 2 then (if 0 < (t471.length : Int) then ((spec_ParseInt.f k (rdOf ByteArray.empty t471 0)).bind fun bt475 => (if 1 < (t471.length : Int) then ((spec_SplitByte.f k (rdOf ByteArray.empty t471 1) 44).bind fun t479 => (spec_ParseContext.l0 k a0 t471 bt475.2 t479 0 bt475.1 ([] : List Int))) else (none))) else (none)) else (some (0, ([] : List Int), false)))
theorem spec_ParseContext.mono_l : ∀ k, (∀ y0 y1 y2 y3 y4 y5 y6, LeO (spec_ParseContext.l0 k y0 y1 y2 y3 y4 y5 y6) (spec_ParseContext.l0 (k + 1) y0 y1 y2 y3 y4 y5 y6)) ∧ (∀ y0 y1 y2 y3 y4 y5 y6 y7, LeO (spec_ParseContext.j1 k y0 y1 y2 y3 y4 y5 y6 y7) (spec_ParseContext.j1 (k + 1) y0 y1 y2 y3 y4 y5 y6 y7))
  | 0 => ⟨fun _ _ _ _ _ _ _ r h => by simp [spec_ParseContext.l0] at h, fun _ _ _ _ _ _ _ _ r h => by simp [spec_ParseContext.j1] at h⟩
  | k + 1 => by
    obtain ⟨ih0, ih1⟩ := spec_ParseContext.mono_l k
    refine ⟨?_, ?_⟩
    · intro y0 y1 y2 y3 y4 y5 y6
      unfold spec_ParseContext.l0
      repeat' first
      | (with_reducible exact ih0 _ _ _ _ _ _ _)
      | (with_reducible exact ih1 _ _ _ _ _ _ _ _)
      | (with_reducible exact spec_ContextText.mono _ _ _)
      | (with_reducible exact spec_ParseInt.mono _ _)
      | (with_reducible exact spec_ParseSet.mono _ _)
      | (with_reducible exact spec_SplitByte.mono _ _ _)
      | (with_reducible exact LeO.refl _)
      | (with_reducible exact LeO.none _)
      | (with_reducible refine LeO.ite ?_ ?_)
      | (with_reducible refine LeO.bind ?_ (fun _ => ?_))
      | exact ih0 _ _ _ _ _ _ _
      | exact ih1 _ _ _ _ _ _ _ _
      | exact spec_ContextText.mono _ _ _
      | exact spec_ParseInt.mono _ _
      | exact spec_ParseSet.mono _ _
      | exact spec_SplitByte.mono _ _ _
      | exact LeO.none _
      | refine LeO.ite ?_ ?_
      | refine LeO.bind ?_ (fun _ => ?_)
    · intro y0 y1 y2 y3 y4 y5 y6 y7
      unfold spec_ParseContext.j1
      repeat' first
      | (with_reducible exact ih0 _ _ _ _ _ _ _)
      | (with_reducible exact ih1 _ _ _ _ _ _ _ _)
      | (with_reducible exact spec_ContextText.mono _ _ _)
      | (with_reducible exact spec_ParseInt.mono _ _)
      | (with_reducible exact spec_ParseSet.mono _ _)
      | (with_reducible exact spec_SplitByte.mono _ _ _)
      | (with_reducible exact LeO.refl _)
      | (with_reducible exact LeO.none _)
      | (with_reducible refine LeO.ite ?_ ?_)
      | (with_reducible refine LeO.bind ?_ (fun _ => ?_))
      | exact ih0 _ _ _ _ _ _ _
      | exact ih1 _ _ _ _ _ _ _ _
      | exact spec_ContextText.mono _ _ _
      | exact spec_ParseInt.mono _ _
      | exact spec_ParseSet.mono _ _
      | exact spec_SplitByte.mono _ _ _
      | exact LeO.none _
      | refine LeO.ite ?_ ?_
      | refine LeO.bind ?_ (fun _ => ?_)
theorem spec_ParseContext.mono : ∀ a0 k, LeO (spec_ParseContext.f k a0) (spec_ParseContext.f (k + 1) a0) := by
  intro a0 k
  obtain ⟨ih0, ih1⟩ := spec_ParseContext.mono_l k
  unfold spec_ParseContext.f
  repeat' first
      | (with_reducible exact ih0 _ _ _ _ _ _ _)
      | (with_reducible exact ih1 _ _ _ _ _ _ _ _)
      | (with_reducible exact spec_ContextText.mono _ _ _)
      | (with_reducible exact spec_ParseInt.mono _ _)
      | (with_reducible exact spec_ParseSet.mono _ _)
      | (with_reducible exact spec_SplitByte.mono _ _ _)
      | (with_reducible exact LeO.refl _)
      | (with_reducible exact LeO.none _)
      | (with_reducible refine LeO.ite ?_ ?_)
      | (with_reducible refine LeO.bind ?_ (fun _ => ?_))
      | exact ih0 _ _ _ _ _ _ _
      | exact ih1 _ _ _ _ _ _ _ _
      | exact spec_ContextText.mono _ _ _
      | exact spec_ParseInt.mono _ _
      | exact spec_ParseSet.mono _ _
      | exact spec_SplitByte.mono _ _ _
      | exact LeO.none _
      | refine LeO.ite ?_ ?_
      | refine LeO.bind ?_ (fun _ => ?_)
set_option maxHeartbeats 8000000 in
set_option maxRecDepth 100000 in
theorem spec_ParseContext.calls (k : Nat) (a0 : ByteArray) (r1 : Int) (r2 : List Int) (r3 : Bool) (w : World) (h : spec_ParseContext.f k a0 = some (r1, r2, r3)) :
    Calls Tryz.prog 15 #[.string a0] w fun e w' => ∃ v1_ : Value, e = .returned (.tuple #[.agg #[.int .i64 r1, v1_], .bool r3]) ∧ Kd.R (Kd.int .i64) 3 w' w.heap.size (fun _ => True) v1_ r2 ∧ Below w.heap.size w w' := by
  have hu26 := Tryz.underlying26
  have HB := Aside0.mk (Below.refl w.heap.size w)
  have H : ((spec_SplitByte.f k a0 32).bind fun t471 => (if (t471.length : Int) = 2 then (if 0 < (t471.length : Int) then ((spec_ParseInt.f k (rdOf ByteArray.empty t471 0)).bind fun bt475 => (if 1 < (t471.length : Int) then ((spec_SplitByte.f k (rdOf ByteArray.empty t471 1) 44).bind fun t479 => (spec_ParseContext.l0 k a0 t471 bt475.2 t479 0 bt475.1 ([] : List Int))) else (none))) else (none)) else (some (0, ([] : List Int), false)))) = some (r1, r2, r3) := h
  clear h
  replace H := aB H
  obtain ⟨t471, A2, H⟩ := H
  by_cases c3 : (t471.length : Int) = 2
  · rw [if_pos c3] at H
    have c3b0 : ((t471.length : Int) == 2) = true := beq_iff_eq.mpr c3
    have c3b1 : ((t471.length : Int) != 2) = false := bne_eq_false_iff_eq.mpr c3
    clear c3
    by_cases c4 : 0 < (t471.length : Int)
    · rw [if_pos c4] at H
      have c4b0 : decide (0 < (t471.length : Int)) = true := decide_eq_true c4
      have c4b1 : decide (0 < t471.length) = true := decide_eq_true (by omega)
      clear c4
      replace H := aB H
      obtain ⟨⟨t475, t476⟩, A5, H⟩ := H
      dsimp only at H
      by_cases c6 : 1 < (t471.length : Int)
      · rw [if_pos c6] at H
        have c6b0 : decide (1 < (t471.length : Int)) = true := decide_eq_true c6
        have c6b1 : decide (1 < t471.length) = true := decide_eq_true (by omega)
        clear c6
        replace H := aB H
        obtain ⟨t479, A7, H⟩ := H
        have H' := Aside0.mk H
        clear H
        go_enter Tryz.func15, Tryz.ntmps15
        go_wp2_with (first | ((with_reducible refine gate_dst (N := 2) rfl ?_); refine box_event ?hg (N := 2) ?hd (cs := #[.int .i64 0, .slice none 0 0]) (t := 26) ?hr ?_; (case hd => rfl); (case hg => rfl); (case hr => first | (go_simp; done) | (go_simp; rfl)); intro gb470 hg w8 hbox hb; have BK470 := Aside0.mk (hbox); have GW470 := kG HB hg; have GE470 := kG HB hg; replace HB := kH HB hb; clear hb hbox hg) | ((with_reducible refine gate_callee (f := 39) rfl ?_); refine goesL_ (some 13) rfl rfl Tryz.func39 (by kernel_rfl) rfl #[.string a0, .int .u8 32] rfl gL_ ?_; (with_reducible refine (spec_SplitByte.calls k a0 32 t471 _ A2.out).mono ?_); rintro e w9 ⟨v472, rfl, ho0, hb⟩; refine ⟨_, rfl, ?_⟩; have HO473 := Aside0.mk (Kd.R_lower ho0 (below_size hB_)); replace BK470 := kB BK470 hb; replace HB := kH HB hb; clear hb ho0; obtain ⟨Ao10, co10, eo10⟩ := Kd.R_slice HO473.out; subst eo10; have p474 : 0 ≤ (0 : Int) := (by omega); have q474 : 0 < (t471.length : Int) := of_decide_eq_true (by first | (with_reducible assumption) | assumption); obtain ⟨ad474, e474, hx474_0⟩ := Kd.at_string (Kd.R_reads' HO473.out).2.2 0 p474 q474; cases e474; have qi474 : (0 < t471.length) = True := eq_true (by omega); (try rw [show ((0 : Int)).toNat = 0 from rfl] at hx474_0); (try rw [Addr.add_zero'] at hx474_0); replace p474 := eq_true p474; replace q474 := eq_true q474) | ((with_reducible refine gate_callee (f := 40) rfl ?_); refine goesL_ (some 22) rfl rfl Tryz.func40 (by kernel_rfl) rfl #[.string (rdOf ByteArray.empty t471 0)] rfl gL_ ?_; (with_reducible refine (spec_ParseInt.calls k (rdOf ByteArray.empty t471 0) t475 t476 _ A5.out).mono ?_); rintro e w11 ⟨rfl, hb⟩; refine ⟨_, rfl, ?_⟩; replace HO473 := kR HO473 hb; replace BK470 := kB BK470 hb; replace HB := kH HB hb; clear hb) | ((with_reducible refine gate_dst (N := 7) rfl ?_); refine box_event ?hg (N := 7) ?hd (cs := #[.int .i64 0, .slice none 0 0]) (t := 26) ?hr ?_; (case hd => rfl); (case hg => rfl); (case hr => first | (go_simp; done) | (go_simp; rfl)); intro gb477 hg w12 hbox hb; replace HO473 := kR HO473 hb; have BK477 := Aside0.mk (hbox); have GW477 := kG HB hg; have GE477 := kG HB hg; replace HB := kH HB hb; have NB470_477 := kN BK470 hg; have NB477_470 := kM BK470 hg; replace BK470 := kB BK470 hb; clear hb hbox hg; have hnb13 := NB477_470.out; have hnc13 := NB470_477.out; have hcz14_0 : w12.cell? ⟨gb477, 0, none⟩ = some (.int .i64 0) := (blk_cell BK477.out 0).trans rfl; have hcz14_1 : w12.cell? ⟨gb477, 1, none⟩ = some (.slice none 0 0) := (blk_cell BK477.out 1).trans rfl; have hfz14_0 := blk_frozen BK477.out 0; have hfz14_1 := blk_frozen BK477.out 1; have p478 : 0 ≤ (1 : Int) := (by omega); have q478 : 1 < (t471.length : Int) := of_decide_eq_true (by first | (with_reducible assumption) | assumption); obtain ⟨ad478, e478, hx478_0⟩ := Kd.at_string (Kd.R_reads' HO473.out).2.2 1 p478 q478; obtain rfl : ad474 = ad478 := (by injection e478); (try simp only [show (1 : Int).toNat = 1 from rfl, Nat.reduceMul, Nat.reduceEqDiff, Go.Addr.add, ↓reduceIte] at hx478_0); have qi478 : (1 < t471.length) = True := eq_true (by omega); (try rw [show ((1 : Int)).toNat = 1 from rfl] at hx478_0); have hn478_0 : ad474.block ≠ gb477 := Kd.own_blk (Kd.R_ne HO473.out BK477.out (by decide)); have hn478_1 : ad474.block ≠ gb477 := Kd.own_blk (Kd.R_ne HO473.out BK477.out (by decide)); replace hx478_0 := (cell_far (p := ⟨gb477, 0, none⟩) (by first | (rw [add_block]; exact hn478_0) | (show (Addr.add _ _).block ≠ _; rw [add_block]; exact hn478_0) | exact hn478_0) (.int .i64 t475)).trans hx478_0; replace hx478_0 := (cell_far (p := ⟨gb477, 1, none⟩) (by first | (rw [add_block]; exact hn478_1) | (show (Addr.add _ _).block ≠ _; rw [add_block]; exact hn478_1) | exact hn478_1) (.slice none 0 0)).trans hx478_0; clear hn478_0; clear hn478_1; replace p478 := eq_true p478; replace q478 := eq_true q478) | ((with_reducible refine gate_callee (f := 39) rfl ?_); refine goesL_ (some 30) rfl rfl Tryz.func39 (by kernel_rfl) rfl #[.string (rdOf ByteArray.empty t471 1), .int .u8 44] rfl gL_ ?_; (with_reducible refine (spec_SplitByte.calls k (rdOf ByteArray.empty t471 1) 44 t479 _ A7.out).mono ?_); rintro e w15 ⟨v480, rfl, ho0, hb⟩; refine ⟨_, rfl, ?_⟩; have HO481 := Aside0.mk (Kd.R_lower (Kd.R_new' ho0 (Kd.R_lt (rW (kT HO473 BK477).out))) (below_size hB_)); replace HO473 := kE (kT HO473 BK477) ho0 hb; replace BK470 := kB (kF NB470_477 BK470) hb; replace BK477 := kB (kP BK477) hb; replace HB := kH HB hb; clear hb ho0))
        go_loopg [9] k (fun kq v9 w' => ∃ (x9_1 : Int) (x471000_1 : Int) (x478001_1 : List Int) (u478001 : Value), v9 = .int .i64 x9_1 ∧ Aside0 (spec_ParseContext.l0 kq a0 t471 t476 t479 x9_1 t475 x478001_1 = some (r1, r2, r3)) ∧ Aside0 (kq ≤ k) ∧ Aside0 (Kd.R Kd.string 9 w' w.heap.size (fun k_ => some k_ ≠ (v480 : Value).ownBlock) (.slice (some ad474) t471.length co10) t471) ∧ Aside0 (Kd.R Kd.string 9 w' w.heap.size (fun k_ => some k_ ≠ ((.slice (some ad474) t471.length co10) : Value).ownBlock) v480 t479) ∧ Aside0 (Kd.R (Kd.int .i64) 3 w' w.heap.size (fun _ => True) u478001 x478001_1) ∧ Aside0 (w'.heap[gb470]? = some (.cells #[.int .i64 x471000_1, (.slice none 0 0)] 26 (0, 0))) ∧ Aside0 (w'.heap[gb477]? = some (.cells #[.int .i64 t475, u478001] 26 (0, 0))) ∧ Aside0 (Below w.heap.size w w'))
        case atStart => exact ⟨(0), (0), (([] : List Int)), (.slice none 0 0), (by first | rfl | (simp; done) | (simp [*]; done)), H', ⟨Nat.le_refl _⟩, ⟨by (with_reducible repeat (first | apply Kd.R_alloc | apply Kd.R_drewN | apply Kd.R_drew)); exact Kd.R_mono HO473.out (fun _ hk => hk.2)⟩, ⟨by (with_reducible repeat (first | apply Kd.R_alloc | apply Kd.R_drewN | apply Kd.R_drew)); exact Kd.R_mono HO481.out (fun _ hk => hk.2)⟩, ⟨by first | exact Kd.R_nil _ _ _ _ _ | exact Kd.N_nil _ _ _ _ _ | exact Kd.V_nil _ _ _ _ _ | exact Kd.Q_nil _ _ _ _ _ | exact Kd.S_nil _ _ _ _ _⟩, ⟨bW BK470⟩, ⟨bW BK477⟩, ⟨hB_⟩⟩
        case round =>
          clear H'
          try clear c1
          try clear p2
          try clear c3
          try clear c3b0
          try clear c3b1
          try clear c4
          try clear c4b0
          try clear c4b1
          try clear p4
          try clear q4
          try clear hx4
          try clear qi4
          try clear c6
          try clear c6b0
          try clear c6b1
          try clear c13
          try clear c15
          try clear hcz14_0
          try clear hcz14_1
          try clear hfz14_0
          try clear hfz14_1
          try clear hx474_0
          try clear hx478_0
          try clear p474
          try clear p478
          try clear q474
          try clear q478
          obtain ⟨x9_1, x471000_1, x478001_1, u478001, rfl, HA, HK1, HO_4, HO_8, HO_478001, BK470, BK477, HB⟩ := hrel
          cases gk with
          | zero => exact absurd HA.out (by simp [spec_ParseContext.l0])
          | succ k1 =>
            have H := HA.out
            clear HA
            simp only [spec_ParseContext.l0] at H
            have HC16 := Aside0.mk H
            clear H
            go_upto_region 8 with (fail)
            go_cut [40] (fun v40 wc => ∃ (kq : Nat) (x40_15 : Bool), v40 = .bool x40_15 ∧ Aside0 (spec_ParseContext.j1 kq a0 t471 t476 t479 x9_1 x40_15 t475 x478001_1 = some (r1, r2, r3)) ∧ Aside0 (kq ≤ k1) ∧ Aside0 (Kd.R Kd.string 9 wc w.heap.size (fun k_ => some k_ ≠ (v480 : Value).ownBlock) (.slice (some ad474) t471.length co10) t471) ∧ Aside0 (Kd.R Kd.string 9 wc w.heap.size (fun k_ => some k_ ≠ ((.slice (some ad474) t471.length co10) : Value).ownBlock) v480 t479) ∧ Aside0 (Kd.R (Kd.int .i64) 3 wc w.heap.size (fun _ => True) u478001 x478001_1) ∧ Aside0 (wc.heap[gb470]? = some (.cells #[.int .i64 x471000_1, (.slice none 0 0)] 26 (0, 0))) ∧ Aside0 (wc.heap[gb477]? = some (.cells #[.int .i64 t475, u478001] 26 (0, 0))) ∧ Aside0 (Below w.heap.size w wc))
            case first =>
              have H := HC16.out
              clear HC16
              by_cases c17 : x9_1 < (t479.length : Int)
              · rw [if_pos c17] at H
                have c17b0 : decide (x9_1 < (t479.length : Int)) = true := decide_eq_true c17
                clear c17
                (first | rw [c17b0] | (simp only [i64_w, i32_w]; rw [c17b0]) | skip)
                by_cases c18 : 1 < (t471.length : Int)
                · rw [if_pos c18] at H
                  have c18b0 : decide (1 < (t471.length : Int)) = true := decide_eq_true c18
                  have c18b1 : decide (1 < t471.length) = true := decide_eq_true (by omega)
                  clear c18
                  have H' := Aside0.mk H
                  clear H
                  obtain ⟨Ao19, co19, eo19⟩ := Kd.R_slice HO_8.out
                  subst eo19
                  have p482 : 0 ≤ (1 : Int) := (by omega)
                  have q482 : 1 < (t471.length : Int) := of_decide_eq_true (by first | (with_reducible assumption) | assumption)
                  obtain ⟨ad482, e482, hx482_0⟩ := Kd.at_string (Kd.R_reads' HO_4.out).2.2 1 p482 q482
                  obtain rfl : ad474 = ad482 := (by injection e482)
                  (try simp only [show (1 : Int).toNat = 1 from rfl, Nat.reduceMul, Nat.reduceEqDiff, Go.Addr.add, ↓reduceIte] at hx482_0)
                  have qi482 : (1 < t471.length) = True := eq_true (by omega)
                  (try rw [show ((1 : Int)).toNat = 1 from rfl] at hx482_0)
                  replace p482 := eq_true p482
                  replace q482 := eq_true q482
                  go_wp2
                  go_meet
                  case rel => exact ⟨_, (((rdOf ByteArray.empty t471 1).toList != ([110, 111, 110, 101] : List UInt8))), (by first | rfl | (simp; done) | (simp [*]; done)), H', ⟨by have := HK1.out; first | omega | exact Nat.le_refl _⟩, ⟨by (with_reducible repeat (first | apply Kd.R_alloc | apply Kd.R_drewN | apply Kd.R_drew)); exact HO_4.out⟩, ⟨by (with_reducible repeat (first | apply Kd.R_alloc | apply Kd.R_drewN | apply Kd.R_drew)); exact HO_8.out⟩, ⟨by (with_reducible repeat (first | apply Kd.R_alloc | apply Kd.R_drewN | apply Kd.R_drew)); exact HO_478001.out⟩, ⟨bW BK470⟩, ⟨bW BK477⟩, ⟨hB_⟩⟩
                · rw [if_neg c18] at H
                  exact absurd H (by simp)
              · rw [if_neg c17] at H
                have c17b0 : decide (x9_1 < (t479.length : Int)) = false := decide_eq_false c17
                clear c17
                (first | rw [c17b0] | (simp only [i64_w, i32_w]; rw [c17b0]) | skip)
                have H' := Aside0.mk H
                clear H
                obtain ⟨Ao20, co20, eo20⟩ := Kd.R_slice HO_8.out
                subst eo20
                go_wp2
                go_meet
                case rel => exact ⟨_, (false), (by first | rfl | (simp; done) | (simp [*]; done)), H', ⟨by have := HK1.out; first | omega | exact Nat.le_refl _⟩, ⟨by (with_reducible repeat (first | apply Kd.R_alloc | apply Kd.R_drewN | apply Kd.R_drew)); exact HO_4.out⟩, ⟨by (with_reducible repeat (first | apply Kd.R_alloc | apply Kd.R_drewN | apply Kd.R_drew)); exact HO_8.out⟩, ⟨by (with_reducible repeat (first | apply Kd.R_alloc | apply Kd.R_drewN | apply Kd.R_drew)); exact HO_478001.out⟩, ⟨bW BK470⟩, ⟨bW BK477⟩, ⟨hB_⟩⟩
            case rest =>
              clear HC16
              try clear c1
              try clear p2
              try clear c3
              try clear c3b0
              try clear c3b1
              try clear c4
              try clear c4b0
              try clear c4b1
              try clear p4
              try clear q4
              try clear hx4
              try clear qi4
              try clear c6
              try clear c6b0
              try clear c6b1
              try clear c13
              try clear c15
              try clear c17
              try clear c17b0
              try clear c18
              try clear c18b0
              try clear c18b1
              try clear hcz14_0
              try clear hcz14_1
              try clear hfz14_0
              try clear hfz14_1
              try clear hx474_0
              try clear hx478_0
              try clear hx482_0
              try clear p2
              try clear p4
              try clear p474
              try clear p478
              try clear p482
              try clear q4
              try clear q474
              try clear q478
              try clear q482
              obtain ⟨kq, x40_15, rfl, HA, HJ15, HO_4, HO_8, HO_478001, BK470, BK477, HB⟩ := hcut
              cases kq with
              | zero => exact absurd HA.out (by simp [spec_ParseContext.j1])
              | succ kj15 =>
                have H := HA.out
                clear HA
                simp only [spec_ParseContext.j1] at H
                by_cases c21 : x40_15 = true
                · subst c21
                  replace H := ifT H
                  by_cases c22 : 0 ≤ x9_1
                  · rw [if_pos c22] at H
                    have c22b0 : decide (0 ≤ x9_1) = true := decide_eq_true c22
                    clear c22
                    by_cases c23 : x9_1 < (t479.length : Int)
                    · rw [if_pos c23] at H
                      have c23b0 : decide (x9_1 < (t479.length : Int)) = true := decide_eq_true c23
                      clear c23
                      replace H := aB H
                      obtain ⟨⟨t484, t485⟩, A24, H⟩ := H
                      dsimp only at H
                      by_cases c25 : t485 = true
                      · subst c25
                        replace H := ifT H
                        by_cases c26 : x478001_1.length < 17592186044416
                        · rw [if_pos c26] at H
                          have LMc26 := Aside0.mk c26
                          clear c26
                          obtain ⟨y486, hy486⟩ : ∃ y_ : List Int, y_ = (x478001_1 ++ [t484]) := ⟨_, rfl⟩
                          replace H : (spec_ParseContext.l0 kj15 a0 t471 t476 t479 (wrap64 (x9_1 + 1)) t475 y486) = some (r1, r2, r3) := by first | (rw [hy486]; with_reducible exact H) | (have H2_ := (Option.bind_some _ _).symm.trans H; rw [hy486]; with_reducible exact H2_) | (have H2_ := (Option.bind_some _ _).symm.trans H; with_reducible exact H2_) | with_reducible exact H | (rw [hy486]; exact H) | exact H
                          have Ny486 := Aside0.mk hy486
                          clear hy486
                          have H' := Aside0.mk H
                          clear H
                          obtain ⟨Ao27, co27, eo27⟩ := Kd.R_slice HO_8.out
                          subst eo27
                          have p483 : 0 ≤ (x9_1 : Int) := of_decide_eq_true (by first | (with_reducible assumption) | assumption)
                          have q483 : x9_1 < (t479.length : Int) := of_decide_eq_true (by first | (with_reducible assumption) | assumption)
                          obtain ⟨ad483, e483, hx483_0⟩ := Kd.at_string (Kd.R_reads' HO_8.out).2.2 x9_1 p483 q483
                          cases e483
                          replace p483 := eq_true p483
                          replace q483 := eq_true q483
                          go_wp2_with (first | ((with_reducible refine gate_callee (f := 41) rfl ?_); refine goesL_ (some 48) rfl rfl Tryz.func41 (by kernel_rfl) rfl #[.string (rdOf ByteArray.empty t479 x9_1)] rfl gL_ ?_; (with_reducible refine (spec_ParseSet.calls kj15 (rdOf ByteArray.empty t479 x9_1) t484 true _ A24.out).mono ?_); rintro e w28 ⟨rfl, hb⟩; refine ⟨_, rfl, ?_⟩; replace HO_4 := kR HO_4 hb; replace HO_8 := kR HO_8 hb; replace HO_478001 := kR HO_478001 hb; replace BK470 := kB BK470 hb; replace BK477 := kB BK477 hb; replace HB := kH HB hb; clear hb; have hnb29 := NB477_470.out; have hnc29 := NB470_477.out; have hcz30_0 : w28.cell? ⟨gb477, 0, none⟩ = some (.int .i64 t475) := (blk_cell BK477.out 0).trans rfl; have hcz30_1 : w28.cell? ⟨gb477, 1, none⟩ = some (u478001) := (blk_cell BK477.out 1).trans rfl; have hfz30_0 := blk_frozen BK477.out 0; have hfz30_1 := blk_frozen BK477.out 1) | ((with_reducible refine gate_builtin (b := .append) (xs := #[.tmp 55, .tmp 57]) rfl ?_); at_builtin; refine Kd.R_append (Kd.int .i64) (w0 := w) w.heap.size rfl (.tmp 55) (.tmp 57) 24 3 (.int .i64 0) 8 rfl Tryz.underlying24 info3 rfl (by decide) (by omega) u478001 x478001_1 t484 [.int .i64 t484] (fun _ => True) (fun _ => False) rfl rfl ?aP (fun _ hk => hk.elim) ?aF ?aO ?aB ?aS ?aL ?_; (case aP => exact rfl); (case aB => exact hB_); (case aF => exact (fun _ _ => trivial)); (case aO => exact (rW HO_478001.out)); (case aS => exact (below_size hB_)); (case aL => have := LMc26.out; omega); intro v487 w31 ho hb hg hat; rw [← Ny486.out] at ho; replace HO_4 := Aside0.mk (Kd.R_over' (rW HO_4.out) (Kd.R_typed (rW HO_478001.out)) (by decide) hg); replace HO_8 := Aside0.mk (Kd.R_over' (rW HO_8.out) (Kd.R_typed (rW HO_478001.out)) (by decide) hg); replace BK470 := Aside0.mk (blk_grown (bW BK470) hg (Kd.R_ne HO_478001.out BK470.out (by decide))); replace BK477 := Aside0.mk (blk_grown (bW BK477) hg (Kd.R_ne HO_478001.out BK477.out (by decide))); replace HB := Aside0.mk (hb); have HO488 := Aside0.mk (ho); clear HO_478001; clear ho hb hg hat; obtain ⟨Ao32, co32, eo32⟩ := Kd.R_slice HO488.out; subst eo32; have hcz33_0 : w31.cell? ⟨gb477, 0, none⟩ = some (.int .i64 t475) := (blk_cell BK477.out 0).trans rfl; have hcz33_1 : w31.cell? ⟨gb477, 1, none⟩ = some (u478001) := (blk_cell BK477.out 1).trans rfl; have hfz33_0 := blk_frozen BK477.out 0; have hfz33_1 := blk_frozen BK477.out 1))
                          go_roundg kj15
                          case measure => have := HK1.out; have := HJ15.out; omega
                          case rel => exact ⟨(wrap64 (x9_1 + 1)), (x471000_1), (y486), (.slice Ao32 y486.length co32), (by first | rfl | (simp; done) | (simp [*]; done)), H', ⟨by have := HK1.out; have := HJ15.out; omega⟩, ⟨by (with_reducible repeat (first | apply Kd.R_alloc | apply Kd.R_drewN | apply Kd.R_drew)); exact Kd.R_mono (Kd.R_far (p := ⟨gb477, 1, none⟩) (Kd.R_types HO_4.out BK477.out (by decide)) (fun _ hk => hk.2) (.slice Ao32 y486.length co32)) (fun _ hk => hk.1)⟩, ⟨by (with_reducible repeat (first | apply Kd.R_alloc | apply Kd.R_drewN | apply Kd.R_drew)); exact Kd.R_mono (Kd.R_far (p := ⟨gb477, 1, none⟩) (Kd.R_types HO_8.out BK477.out (by decide)) (fun _ hk => hk.2) (.slice Ao32 y486.length co32)) (fun _ hk => hk.1)⟩, ⟨by (with_reducible repeat (first | apply Kd.R_alloc | apply Kd.R_drewN | apply Kd.R_drew)); exact Kd.R_mono (Kd.R_far (p := ⟨gb477, 1, none⟩) (Kd.R_types HO488.out BK477.out (by decide)) (fun _ hk => hk.2) (.slice Ao32 y486.length co32)) (fun _ hk => trivial)⟩, (qF NB470_477 BK470), (qP BK477), ⟨hB_⟩⟩
                        · rw [if_neg c26] at H
                          exact absurd H (by simp)
                      · replace c25 := Bool.eq_false_iff.mpr c25
                        subst c25
                        replace H := ifF H
                        simp only [Option.some.injEq, Prod.mk.injEq] at H
                        obtain ⟨rfl, rfl, rfl⟩ := H
                        obtain ⟨Ao34, co34, eo34⟩ := Kd.R_slice HO_8.out
                        subst eo34
                        have p483 : 0 ≤ (x9_1 : Int) := of_decide_eq_true (by first | (with_reducible assumption) | assumption)
                        have q483 : x9_1 < (t479.length : Int) := of_decide_eq_true (by first | (with_reducible assumption) | assumption)
                        obtain ⟨ad483, e483, hx483_0⟩ := Kd.at_string (Kd.R_reads' HO_8.out).2.2 x9_1 p483 q483
                        cases e483
                        replace p483 := eq_true p483
                        replace q483 := eq_true q483
                        go_wp2_with (first | ((with_reducible refine gate_callee (f := 41) rfl ?_); refine goesL_ (some 48) rfl rfl Tryz.func41 (by kernel_rfl) rfl #[.string (rdOf ByteArray.empty t479 x9_1)] rfl gL_ ?_; (with_reducible refine (spec_ParseSet.calls kj15 (rdOf ByteArray.empty t479 x9_1) t484 false _ A24.out).mono ?_); rintro e w35 ⟨rfl, hb⟩; refine ⟨_, rfl, ?_⟩; replace HO_4 := kR HO_4 hb; replace HO_8 := kR HO_8 hb; replace HO_478001 := kR HO_478001 hb; replace BK470 := kB BK470 hb; replace BK477 := kB BK477 hb; replace HB := kH HB hb; clear hb; have hnb36 := NB470_477.out; have hnc36 := NB477_470.out; have hcz37_0 : w35.cell? ⟨gb470, 0, none⟩ = some (.int .i64 x471000_1) := (blk_cell BK470.out 0).trans rfl; have hcz37_1 : w35.cell? ⟨gb470, 1, none⟩ = some (.slice none 0 0) := (blk_cell BK470.out 1).trans rfl; have hfz37_0 := blk_frozen BK470.out 0; have hfz37_1 := blk_frozen BK470.out 1))
                        refine bodyPost_ret (results_ct rfl _ _ gb470 26 #[.int .i64 0, .slice none 0 0] (0, 0) _ rfl (qP (qP BK470)).out Tryz.underlying26 rfl (by kernel_rfl)) rfl ?_
                        exact ⟨_, eR_, by first | exact Kd.R_nil _ _ _ _ _ | exact Kd.N_nil _ _ _ _ _ | exact Kd.V_nil _ _ _ _ _ | exact Kd.Q_nil _ _ _ _ _ | exact Kd.S_nil _ _ _ _ _, hB_⟩
                    · rw [if_neg c23] at H
                      exact absurd H (by simp)
                  · rw [if_neg c22] at H
                    exact absurd H (by simp)
                · replace c21 := Bool.eq_false_iff.mpr c21
                  subst c21
                  replace H := ifF H
                  by_cases c38 : t476 = true
                  · subst c38
                    replace H := ifT H
                    replace H := aB H
                    obtain ⟨t489, A39, H⟩ := H
                    by_cases c40 : t489.toList = a0.toList
                    · rw [if_pos c40] at H
                      have c40b0 : (t489.toList == a0.toList) = true := beq_iff_eq.mpr c40
                      have c40b1 : (t489.toList != a0.toList) = false := bne_eq_false_iff_eq.mpr c40
                      clear c40
                      simp only [Option.some.injEq, Prod.mk.injEq] at H
                      obtain ⟨rfl, rfl, rfl⟩ := H
                      have hnb41 := NB477_470.out
                      have hnc41 := NB470_477.out
                      have hcz42_0 : wc.cell? ⟨gb477, 0, none⟩ = some (.int .i64 t475) := (blk_cell BK477.out 0).trans rfl
                      have hcz42_1 : wc.cell? ⟨gb477, 1, none⟩ = some (u478001) := (blk_cell BK477.out 1).trans rfl
                      have hfz42_0 := blk_frozen BK477.out 0
                      have hfz42_1 := blk_frozen BK477.out 1
                      obtain ⟨Ao43, co43, eo43⟩ := Kd.R_slice HO_478001.out
                      subst eo43
                      go_wp2_with (first | (go_at_call 24; (with_reducible refine (spec_ContextText.calls kj15 t475 _ _ x478001_1 t489 _ ?side1 ?side2 A39.out).mono ?_); (case side1 => exact rC HO_478001); (case side2 => exact (Kd.R_reads' HO_478001.out).2.1); rintro e w44 ⟨rfl, hb⟩; replace HO_4 := kR HO_4 hb; replace HO_8 := kR HO_8 hb; replace HO_478001 := kR HO_478001 hb; replace BK470 := kB BK470 hb; replace BK477 := kB BK477 hb; replace HB := kH HB hb; clear hb; have hcz45_0 : w44.cell? ⟨gb477, 0, none⟩ = some (.int .i64 t475) := (blk_cell BK477.out 0).trans rfl; have hcz45_1 : w44.cell? ⟨gb477, 1, none⟩ = some (.slice Ao43 x478001_1.length co43) := (blk_cell BK477.out 1).trans rfl; have hfz45_0 := blk_frozen BK477.out 0; have hfz45_1 := blk_frozen BK477.out 1; have hcz46_0 : w44.cell? ⟨gb470, 0, none⟩ = some (.int .i64 x471000_1) := (blk_cell BK470.out 0).trans rfl; have hcz46_1 : w44.cell? ⟨gb470, 1, none⟩ = some (.slice none 0 0) := (blk_cell BK470.out 1).trans rfl; have hfz46_0 := blk_frozen BK470.out 0; have hfz46_1 := blk_frozen BK470.out 1))
                      refine bodyPost_ret (results_ct rfl _ _ gb470 26 #[.int .i64 t475, .slice Ao43 x478001_1.length co43] (0, 0) _ rfl (qP (qP BK470)).out Tryz.underlying26 rfl (by kernel_rfl)) rfl ?_
                      exact ⟨_, eR_, by (with_reducible repeat (first | apply Kd.R_alloc | apply Kd.R_drewN | apply Kd.R_drew)); exact Kd.R_mono (Kd.R_far (p := ⟨gb470, 1, none⟩) (Kd.R_far (p := ⟨gb470, 0, none⟩) (Kd.R_types HO_478001.out BK470.out (by decide)) (fun _ hk => hk.2) (.int .i64 t475)) (fun _ hk => hk.2) (.slice Ao43 x478001_1.length co43)) (fun _ hk => trivial), hB_⟩
                    · rw [if_neg c40] at H
                      have c40b0 : (t489.toList == a0.toList) = false := beq_eq_false_iff_ne.mpr c40
                      have c40b1 : (t489.toList != a0.toList) = true := bne_iff_ne.mpr c40
                      simp only [Option.some.injEq, Prod.mk.injEq] at H
                      obtain ⟨rfl, rfl, rfl⟩ := H
                      have hnb47 := NB477_470.out
                      have hnc47 := NB470_477.out
                      have hcz48_0 : wc.cell? ⟨gb477, 0, none⟩ = some (.int .i64 t475) := (blk_cell BK477.out 0).trans rfl
                      have hcz48_1 : wc.cell? ⟨gb477, 1, none⟩ = some (u478001) := (blk_cell BK477.out 1).trans rfl
                      have hfz48_0 := blk_frozen BK477.out 0
                      have hfz48_1 := blk_frozen BK477.out 1
                      obtain ⟨Ao49, co49, eo49⟩ := Kd.R_slice HO_478001.out
                      subst eo49
                      go_wp2_with (first | (go_at_call 24; (with_reducible refine (spec_ContextText.calls kj15 t475 _ _ x478001_1 t489 _ ?side1 ?side2 A39.out).mono ?_); (case side1 => exact rC HO_478001); (case side2 => exact (Kd.R_reads' HO_478001.out).2.1); rintro e w50 ⟨rfl, hb⟩; replace HO_4 := kR HO_4 hb; replace HO_8 := kR HO_8 hb; replace HO_478001 := kR HO_478001 hb; replace BK470 := kB BK470 hb; replace BK477 := kB BK477 hb; replace HB := kH HB hb; clear hb; have hcz51_0 : w50.cell? ⟨gb470, 0, none⟩ = some (.int .i64 x471000_1) := (blk_cell BK470.out 0).trans rfl; have hcz51_1 : w50.cell? ⟨gb470, 1, none⟩ = some (.slice none 0 0) := (blk_cell BK470.out 1).trans rfl; have hfz51_0 := blk_frozen BK470.out 0; have hfz51_1 := blk_frozen BK470.out 1))
                      refine bodyPost_ret (results_ct rfl _ _ gb470 26 #[.int .i64 0, .slice none 0 0] (0, 0) _ rfl (qP (qP BK470)).out Tryz.underlying26 rfl (by kernel_rfl)) rfl ?_
                      exact ⟨_, eR_, by first | exact Kd.R_nil _ _ _ _ _ | exact Kd.N_nil _ _ _ _ _ | exact Kd.V_nil _ _ _ _ _ | exact Kd.Q_nil _ _ _ _ _ | exact Kd.S_nil _ _ _ _ _, hB_⟩
                  · replace c38 := Bool.eq_false_iff.mpr c38
                    subst c38
                    replace H := ifF H
                    simp only [Option.some.injEq, Prod.mk.injEq] at H
                    obtain ⟨rfl, rfl, rfl⟩ := H
                    have hnb52 := NB470_477.out
                    have hnc52 := NB477_470.out
                    have hcz53_0 : wc.cell? ⟨gb470, 0, none⟩ = some (.int .i64 x471000_1) := (blk_cell BK470.out 0).trans rfl
                    have hcz53_1 : wc.cell? ⟨gb470, 1, none⟩ = some (.slice none 0 0) := (blk_cell BK470.out 1).trans rfl
                    have hfz53_0 := blk_frozen BK470.out 0
                    have hfz53_1 := blk_frozen BK470.out 1
                    go_wp2
                    refine bodyPost_ret (results_ct rfl _ _ gb470 26 #[.int .i64 0, .slice none 0 0] (0, 0) _ rfl (qP (qP BK470)).out Tryz.underlying26 rfl (by kernel_rfl)) rfl ?_
                    exact ⟨_, eR_, by first | exact Kd.R_nil _ _ _ _ _ | exact Kd.N_nil _ _ _ _ _ | exact Kd.V_nil _ _ _ _ _ | exact Kd.Q_nil _ _ _ _ _ | exact Kd.S_nil _ _ _ _ _, hB_⟩
      · rw [if_neg c6] at H
        exact absurd H (by simp)
    · rw [if_neg c4] at H
      exact absurd H (by simp)
  · rw [if_neg c3] at H
    have c3b0 : ((t471.length : Int) == 2) = false := beq_eq_false_iff_ne.mpr c3
    have c3b1 : ((t471.length : Int) != 2) = true := bne_iff_ne.mpr c3
    simp only [Option.some.injEq, Prod.mk.injEq] at H
    obtain ⟨rfl, rfl, rfl⟩ := H
    go_enter Tryz.func15, Tryz.ntmps15
    go_wp2_with (first | ((with_reducible refine gate_dst (N := 2) rfl ?_); refine box_event ?hg (N := 2) ?hd (cs := #[.int .i64 0, .slice none 0 0]) (t := 26) ?hr ?_; (case hd => rfl); (case hg => rfl); (case hr => first | (go_simp; done) | (go_simp; rfl)); intro gb470 hg w54 hbox hb; have BK470 := Aside0.mk (hbox); have GW470 := kG HB hg; have GE470 := kG HB hg; replace HB := kH HB hb; clear hb hbox hg) | ((with_reducible refine gate_callee (f := 39) rfl ?_); refine goesL_ (some 13) rfl rfl Tryz.func39 (by kernel_rfl) rfl #[.string a0, .int .u8 32] rfl gL_ ?_; (with_reducible refine (spec_SplitByte.calls k a0 32 t471 _ A2.out).mono ?_); rintro e w55 ⟨v472, rfl, ho0, hb⟩; refine ⟨_, rfl, ?_⟩; have HO473 := Aside0.mk (Kd.R_lower ho0 (below_size hB_)); replace BK470 := kB BK470 hb; replace HB := kH HB hb; clear hb ho0; obtain ⟨Ao56, co56, eo56⟩ := Kd.R_slice HO473.out; subst eo56; have hcz57_0 : w55.cell? ⟨gb470, 0, none⟩ = some (.int .i64 0) := (blk_cell BK470.out 0).trans rfl; have hcz57_1 : w55.cell? ⟨gb470, 1, none⟩ = some (.slice none 0 0) := (blk_cell BK470.out 1).trans rfl; have hfz57_0 := blk_frozen BK470.out 0; have hfz57_1 := blk_frozen BK470.out 1))
    refine bodyPost_ret (results_ct rfl _ _ gb470 26 #[.int .i64 0, .slice none 0 0] (0, 0) _ rfl (qP (qP BK470)).out Tryz.underlying26 rfl (by kernel_rfl)) rfl ?_
    exact ⟨_, eR_, by first | exact Kd.R_nil _ _ _ _ _ | exact Kd.N_nil _ _ _ _ _ | exact Kd.V_nil _ _ _ _ _ | exact Kd.Q_nil _ _ _ _ _ | exact Kd.S_nil _ _ _ _ _, hB_⟩

/-! ### spec_l2Same: function 42 -/
def spec_l2Same.l0 : Nat → List Int → List Int → Int → Option (Bool)
  | 0, _, _, _ => none
  | k + 1, x0, x1, x5 => if x5 < (x0.length : Int) then (if 0 ≤ x5 then (if x5 < (x1.length : Int) then (if (rd x0 x5) = (rd x1 x5) then (spec_l2Same.l0 k x0 x1 (wrap64 (x5 + 1))) else (some false)) else (none)) else (none)) else (some true)
def spec_l2Same.f (k : Nat) (l0 : List Int) (l1 : List Int) : Option (Bool) := if (l0.length : Int) = (l1.length : Int) then (spec_l2Same.l0 k l0 l1 0) else (some false)
theorem spec_l2Same.mono_l : ∀ k, (∀ y0 y1 y2, LeO (spec_l2Same.l0 k y0 y1 y2) (spec_l2Same.l0 (k + 1) y0 y1 y2))
  | 0 => fun _ _ _ r h => by simp [spec_l2Same.l0] at h
  | k + 1 => by
    have ih0 := spec_l2Same.mono_l k
    · intro y0 y1 y2
      unfold spec_l2Same.l0
      repeat' first
      | (with_reducible exact ih0 _ _ _)
      | (with_reducible exact LeO.refl _)
      | (with_reducible exact LeO.none _)
      | (with_reducible refine LeO.ite ?_ ?_)
      | (with_reducible refine LeO.bind ?_ (fun _ => ?_))
      | exact ih0 _ _ _
      | exact LeO.none _
      | refine LeO.ite ?_ ?_
      | refine LeO.bind ?_ (fun _ => ?_)
theorem spec_l2Same.mono : ∀ a0 a1 k, LeO (spec_l2Same.f k a0 a1) (spec_l2Same.f (k + 1) a0 a1) := by
  intro a0 a1 k
  have ih0 := spec_l2Same.mono_l k
  unfold spec_l2Same.f
  repeat' first
      | (with_reducible exact ih0 _ _ _)
      | (with_reducible exact LeO.refl _)
      | (with_reducible exact LeO.none _)
      | (with_reducible refine LeO.ite ?_ ?_)
      | (with_reducible refine LeO.bind ?_ (fun _ => ?_))
      | exact ih0 _ _ _
      | exact LeO.none _
      | refine LeO.ite ?_ ?_
      | refine LeO.bind ?_ (fun _ => ?_)
set_option maxHeartbeats 8000000 in
set_option maxRecDepth 100000 in
theorem spec_l2Same.calls (k : Nat) (A0 : Option Addr) (c0 : Nat) (l0 : List Int) (A1 : Option Addr) (c1 : Nat) (l1 : List Int) (r : Bool) (w : World) (hr0 : Kd.C (Kd.int .i64) w A0 l0.length l0) (hc0 : l0.length ≤ c0) (hr1 : Kd.C (Kd.int .i64) w A1 l1.length l1) (hc1 : l1.length ≤ c1) (h : spec_l2Same.f k l0 l1 = some r) :
    Calls Tryz.prog 42 #[.slice A0 l0.length c0, .slice A1 l1.length c1] w fun e w' => e = .returned (.bool r) ∧ Drawn0 w w' := by
  have HR0 := Aside0.mk hr0
  have HC0 := Aside0.mk hc0
  clear hr0 hc0
  have HR1 := Aside0.mk hr1
  have HC1 := Aside0.mk hc1
  clear hr1 hc1
  have H : (if (l0.length : Int) = (l1.length : Int) then (spec_l2Same.l0 k l0 l1 0) else (some false)) = some r := h
  clear h
  by_cases c3 : (l0.length : Int) = (l1.length : Int)
  · rw [if_pos c3] at H
    have c3b0 : ((l0.length : Int) == (l1.length : Int)) = true := beq_iff_eq.mpr c3
    have c3b1 : ((l0.length : Int) != (l1.length : Int)) = false := bne_eq_false_iff_eq.mpr c3
    have c3b2 : (l0.length == l1.length) = true := by first | simpa using c3 | (simp at c3 ⊢; omega)
    clear c3
    have H' := Aside0.mk H
    clear H
    go_enter Tryz.func42, Tryz.ntmps42
    go_wp2
    repeat (go_quiet (fail); try go_wp2)
    go_loopg [5] k (fun kq v5 w' => ∃ (x5_1 : Int), v5 = .int .i64 x5_1 ∧ Aside0 (spec_l2Same.l0 kq l0 l1 x5_1 = some r) ∧ Aside0 (kq ≤ k) ∧ Drawn0 w w')
    case atStart => exact ⟨(0), (by first | rfl | (simp; done) | (simp [*]; done)), H', ⟨Nat.le_refl _⟩, by repeat (first | exact Drawn0.refl _ | apply Drawn0.step)⟩
    case round =>
      clear H'
      try clear c1
      try clear p2
      try clear c3
      try clear c3b0
      try clear c3b1
      try clear c3b2
      obtain ⟨x5_1, rfl, HA, HK1, ⟨m1, rfl⟩⟩ := hrel
      cases gk with
      | zero => exact absurd HA.out (by simp [spec_l2Same.l0])
      | succ k1 =>
        have H := HA.out
        clear HA
        simp only [spec_l2Same.l0] at H
        by_cases c4 : x5_1 < (l0.length : Int)
        · rw [if_pos c4] at H
          have c4b0 : decide (x5_1 < (l0.length : Int)) = true := decide_eq_true c4
          clear c4
          by_cases c5 : 0 ≤ x5_1
          · rw [if_pos c5] at H
            have c5b0 : decide (0 ≤ x5_1) = true := decide_eq_true c5
            clear c5
            by_cases c6 : x5_1 < (l1.length : Int)
            · rw [if_pos c6] at H
              have c6b0 : decide (x5_1 < (l1.length : Int)) = true := decide_eq_true c6
              clear c6
              by_cases c7 : (rd l0 x5_1) = (rd l1 x5_1)
              · rw [if_pos c7] at H
                have c7b0 : ((rd l0 x5_1) == (rd l1 x5_1)) = true := beq_iff_eq.mpr c7
                have c7b1 : ((rd l0 x5_1) != (rd l1 x5_1)) = false := bne_eq_false_iff_eq.mpr c7
                clear c7
                have H' := Aside0.mk H
                clear H
                have p490 : 0 ≤ (x5_1 : Int) := of_decide_eq_true (by first | (with_reducible assumption) | assumption)
                have q490 : x5_1 < (l0.length : Int) := of_decide_eq_true (by first | (with_reducible assumption) | assumption)
                obtain ⟨ad490, e490, hx490_0⟩ := Kd.at_int HR0.out x5_1 p490 q490
                cases e490
                replace p490 := eq_true p490
                replace q490 := eq_true q490
                have p491 : 0 ≤ (x5_1 : Int) := of_decide_eq_true (by first | (with_reducible assumption) | assumption)
                have q491 : x5_1 < (l1.length : Int) := of_decide_eq_true (by first | (with_reducible assumption) | assumption)
                obtain ⟨ad491, e491, hx491_0⟩ := Kd.at_int HR1.out x5_1 p491 q491
                cases e491
                replace p491 := eq_true p491
                replace q491 := eq_true q491
                go_wp2
                repeat (go_quiet (fail); try go_wp2)
                go_roundg k1
                case measure => have := HK1.out; omega
                case rel => exact ⟨(wrap64 (x5_1 + 1)), (by first | rfl | (simp; done) | (simp [*]; done)), H', ⟨by have := HK1.out; omega⟩, by repeat (first | exact Drawn0.refl _ | apply Drawn0.step)⟩
              · rw [if_neg c7] at H
                have c7b0 : ((rd l0 x5_1) == (rd l1 x5_1)) = false := beq_eq_false_iff_ne.mpr c7
                have c7b1 : ((rd l0 x5_1) != (rd l1 x5_1)) = true := bne_iff_ne.mpr c7
                obtain rfl := Option.some.inj H
                have p490 : 0 ≤ (x5_1 : Int) := of_decide_eq_true (by first | (with_reducible assumption) | assumption)
                have q490 : x5_1 < (l0.length : Int) := of_decide_eq_true (by first | (with_reducible assumption) | assumption)
                obtain ⟨ad490, e490, hx490_0⟩ := Kd.at_int HR0.out x5_1 p490 q490
                cases e490
                replace p490 := eq_true p490
                replace q490 := eq_true q490
                have p491 : 0 ≤ (x5_1 : Int) := of_decide_eq_true (by first | (with_reducible assumption) | assumption)
                have q491 : x5_1 < (l1.length : Int) := of_decide_eq_true (by first | (with_reducible assumption) | assumption)
                obtain ⟨ad491, e491, hx491_0⟩ := Kd.at_int HR1.out x5_1 p491 q491
                cases e491
                replace p491 := eq_true p491
                replace q491 := eq_true q491
                go_wp2
                repeat (go_quiet (fail); try go_wp2)
                go_ret
                exact ⟨by first | rfl | (simp; done) | (simp [*]; done), by repeat (first | exact Drawn0.refl _ | apply Drawn0.step)⟩
            · rw [if_neg c6] at H
              exact absurd H (by simp)
          · rw [if_neg c5] at H
            exact absurd H (by simp)
        · rw [if_neg c4] at H
          have c4b0 : decide (x5_1 < (l0.length : Int)) = false := decide_eq_false c4
          clear c4
          obtain rfl := Option.some.inj H
          go_wp2
          repeat (go_quiet (fail); try go_wp2)
          go_ret
          exact ⟨by first | rfl | (simp; done) | (simp [*]; done), by repeat (first | exact Drawn0.refl _ | apply Drawn0.step)⟩
  · rw [if_neg c3] at H
    have c3b0 : ((l0.length : Int) == (l1.length : Int)) = false := beq_eq_false_iff_ne.mpr c3
    have c3b1 : ((l0.length : Int) != (l1.length : Int)) = true := bne_iff_ne.mpr c3
    have c3b2 : (l0.length == l1.length) = false := by first | simpa using c3 | (simp at c3 ⊢; omega)
    obtain rfl := Option.some.inj H
    go_enter Tryz.func42, Tryz.ntmps42
    go_wp2
    repeat (go_quiet (fail); try go_wp2)
    go_ret
    exact ⟨by first | rfl | (simp; done) | (simp [*]; done), by repeat (first | exact Drawn0.refl _ | apply Drawn0.step)⟩

/-! ### spec_EqualContext: function 16 -/
def spec_EqualContext.f (k : Nat) (a0_0 : Int) (l0_1 : List Int) (a1_0 : Int) (l1_1 : List Int) : Option (Bool) := if a0_0 = a1_0 then ((spec_l2Same.f k l0_1 l1_1).bind fun t494 => (some t494)) else (some false)
theorem spec_EqualContext.mono : ∀ a0 a1 a2 a3 k, LeO (spec_EqualContext.f k a0 a1 a2 a3) (spec_EqualContext.f (k + 1) a0 a1 a2 a3) := by
  intro a0 a1 a2 a3 k
  unfold spec_EqualContext.f
  repeat' first
      | (with_reducible exact spec_l2Same.mono _ _ _)
      | (with_reducible exact LeO.refl _)
      | (with_reducible exact LeO.none _)
      | (with_reducible refine LeO.ite ?_ ?_)
      | (with_reducible refine LeO.bind ?_ (fun _ => ?_))
      | exact spec_l2Same.mono _ _ _
      | exact LeO.none _
      | refine LeO.ite ?_ ?_
      | refine LeO.bind ?_ (fun _ => ?_)
set_option maxHeartbeats 8000000 in
set_option maxRecDepth 100000 in
theorem spec_EqualContext.calls (k : Nat) (a0_0 : Int) (A0_1 : Option Addr) (c0_1 : Nat) (l0_1 : List Int) (a1_0 : Int) (A1_1 : Option Addr) (c1_1 : Nat) (l1_1 : List Int) (r : Bool) (w : World) (hr0_1 : Kd.C (Kd.int .i64) w A0_1 l0_1.length l0_1) (hc0_1 : l0_1.length ≤ c0_1) (hr1_1 : Kd.C (Kd.int .i64) w A1_1 l1_1.length l1_1) (hc1_1 : l1_1.length ≤ c1_1) (h : spec_EqualContext.f k a0_0 l0_1 a1_0 l1_1 = some r) :
    Calls Tryz.prog 16 #[.agg #[.int .i64 a0_0, .slice A0_1 l0_1.length c0_1], .agg #[.int .i64 a1_0, .slice A1_1 l1_1.length c1_1]] w fun e w' => e = .returned (.bool r) ∧ Below w.heap.size w w' := by
  have hu26 := Tryz.underlying26
  have HR0_1 := Aside0.mk hr0_1
  have HC0_1 := Aside0.mk hc0_1
  clear hr0_1 hc0_1
  have HR1_1 := Aside0.mk hr1_1
  have HC1_1 := Aside0.mk hc1_1
  clear hr1_1 hc1_1
  have HB := Aside0.mk (Below.refl w.heap.size w)
  have H : (if a0_0 = a1_0 then ((spec_l2Same.f k l0_1 l1_1).bind fun t494 => (some t494)) else (some false)) = some r := h
  clear h
  by_cases c3 : a0_0 = a1_0
  · rw [if_pos c3] at H
    have c3b0 : (a0_0 == a1_0) = true := beq_iff_eq.mpr c3
    have c3b1 : (a0_0 != a1_0) = false := bne_eq_false_iff_eq.mpr c3
    clear c3
    replace H := aB H
    obtain ⟨t494, A4, H⟩ := H
    obtain rfl := Option.some.inj H
    go_enter Tryz.func16, Tryz.ntmps16
    go_wp2_with (first | ((with_reducible refine gate_dst (N := 2) rfl ?_); refine box_event ?hg (N := 2) ?hd (cs := #[.int .i64 a0_0, .slice A0_1 l0_1.length c0_1]) (t := 26) ?hr ?_; (case hd => rfl); (case hg => rfl); (case hr => first | (go_simp; done) | (go_simp; rfl)); intro gb492 hg w5 hbox hb; have BK492 := Aside0.mk (hbox); have GW492 := kG HB hg; have GE492 := kG HB hg; replace HB := kH HB hb; clear hb hbox hg) | ((with_reducible refine gate_dst (N := 3) rfl ?_); refine box_event ?hg (N := 3) ?hd (cs := #[.int .i64 a1_0, .slice A1_1 l1_1.length c1_1]) (t := 26) ?hr ?_; (case hd => rfl); (case hg => rfl); (case hr => first | (go_simp; done) | (go_simp; rfl)); intro gb493 hg w6 hbox hb; have BK493 := Aside0.mk (hbox); have GW493 := kG HB hg; have GE493 := kG HB hg; replace HB := kH HB hb; have NB492_493 := kN BK492 hg; have NB493_492 := kM BK492 hg; replace BK492 := kB BK492 hb; clear hb hbox hg; have hnb7 := NB492_493.out; have hnc7 := NB493_492.out; have hcz8_0 : w6.cell? ⟨gb492, 0, none⟩ = some (.int .i64 a0_0) := (blk_cell BK492.out 0).trans rfl; have hcz8_1 : w6.cell? ⟨gb492, 1, none⟩ = some (.slice A0_1 l0_1.length c0_1) := (blk_cell BK492.out 1).trans rfl; have hfz8_0 := blk_frozen BK492.out 0; have hfz8_1 := blk_frozen BK492.out 1; have hcz9_0 : w6.cell? ⟨gb493, 0, none⟩ = some (.int .i64 a1_0) := (blk_cell BK493.out 0).trans rfl; have hcz9_1 : w6.cell? ⟨gb493, 1, none⟩ = some (.slice A1_1 l1_1.length c1_1) := (blk_cell BK493.out 1).trans rfl; have hfz9_0 := blk_frozen BK493.out 0; have hfz9_1 := blk_frozen BK493.out 1) | (go_at_call 42; (with_reducible refine (spec_l2Same.calls k _ _ l0_1 _ _ l1_1 t494 _ ?side1 ?side2 ?side3 ?side4 A4.out).mono ?_); (case side1 => exact cW (Kd.C_below HR0_1.out HB.out)); (case side2 => exact HC0_1.out); (case side3 => exact cW (Kd.C_below HR1_1.out HB.out)); (case side4 => exact HC1_1.out); rintro e w' ⟨rfl, ⟨nd, rfl⟩⟩))
    go_ret
    exact ⟨eR_, hB_⟩
  · rw [if_neg c3] at H
    have c3b0 : (a0_0 == a1_0) = false := beq_eq_false_iff_ne.mpr c3
    have c3b1 : (a0_0 != a1_0) = true := bne_iff_ne.mpr c3
    obtain rfl := Option.some.inj H
    go_enter Tryz.func16, Tryz.ntmps16
    go_wp2_with (first | ((with_reducible refine gate_dst (N := 2) rfl ?_); refine box_event ?hg (N := 2) ?hd (cs := #[.int .i64 a0_0, .slice A0_1 l0_1.length c0_1]) (t := 26) ?hr ?_; (case hd => rfl); (case hg => rfl); (case hr => first | (go_simp; done) | (go_simp; rfl)); intro gb492 hg w10 hbox hb; have BK492 := Aside0.mk (hbox); have GW492 := kG HB hg; have GE492 := kG HB hg; replace HB := kH HB hb; clear hb hbox hg) | ((with_reducible refine gate_dst (N := 3) rfl ?_); refine box_event ?hg (N := 3) ?hd (cs := #[.int .i64 a1_0, .slice A1_1 l1_1.length c1_1]) (t := 26) ?hr ?_; (case hd => rfl); (case hg => rfl); (case hr => first | (go_simp; done) | (go_simp; rfl)); intro gb493 hg w11 hbox hb; have BK493 := Aside0.mk (hbox); have GW493 := kG HB hg; have GE493 := kG HB hg; replace HB := kH HB hb; have NB492_493 := kN BK492 hg; have NB493_492 := kM BK492 hg; replace BK492 := kB BK492 hb; clear hb hbox hg; have hnb12 := NB492_493.out; have hnc12 := NB493_492.out; have hcz13_0 : w11.cell? ⟨gb492, 0, none⟩ = some (.int .i64 a0_0) := (blk_cell BK492.out 0).trans rfl; have hcz13_1 : w11.cell? ⟨gb492, 1, none⟩ = some (.slice A0_1 l0_1.length c0_1) := (blk_cell BK492.out 1).trans rfl; have hfz13_0 := blk_frozen BK492.out 0; have hfz13_1 := blk_frozen BK492.out 1; have hcz14_0 : w11.cell? ⟨gb493, 0, none⟩ = some (.int .i64 a1_0) := (blk_cell BK493.out 0).trans rfl; have hcz14_1 : w11.cell? ⟨gb493, 1, none⟩ = some (.slice A1_1 l1_1.length c1_1) := (blk_cell BK493.out 1).trans rfl; have hfz14_0 := blk_frozen BK493.out 0; have hfz14_1 := blk_frozen BK493.out 1))
    go_ret
    exact ⟨eR_, hB_⟩

/-! ### spec_ColumnOf: function 18 -/
def spec_ColumnOf.f (k : Nat) (a0_0 : Int) (l0_1 : List Int) (a1 : Int) : Option (Int) := (spec_IsContext.f k a0_0 l0_1).bind fun t496 => (if t496 = true then ((spec_l1In.f a1 0 (wrap64 (a0_0 - 1))).bind fun t497 => (if t497 = true then ((spec_l3Column.f k a0_0 l0_1 a1).bind fun t498 => (some t498)) else (some 0))) else (some 0))
theorem spec_ColumnOf.mono : ∀ a0 a1 a2 k, LeO (spec_ColumnOf.f k a0 a1 a2) (spec_ColumnOf.f (k + 1) a0 a1 a2) := by
  intro a0 a1 a2 k
  unfold spec_ColumnOf.f
  repeat' first
      | (with_reducible exact spec_IsContext.mono _ _ _)
      | (with_reducible exact spec_l3Column.mono _ _ _ _)
      | (with_reducible exact LeO.refl _)
      | (with_reducible exact LeO.none _)
      | (with_reducible refine LeO.ite ?_ ?_)
      | (with_reducible refine LeO.bind ?_ (fun _ => ?_))
      | exact spec_IsContext.mono _ _ _
      | exact spec_l3Column.mono _ _ _ _
      | exact LeO.none _
      | refine LeO.ite ?_ ?_
      | refine LeO.bind ?_ (fun _ => ?_)
set_option maxHeartbeats 8000000 in
set_option maxRecDepth 100000 in
theorem spec_ColumnOf.calls (k : Nat) (a0_0 : Int) (A0_1 : Option Addr) (c0_1 : Nat) (l0_1 : List Int) (a1 : Int) (r : Int) (w : World) (hr0_1 : Kd.C (Kd.int .i64) w A0_1 l0_1.length l0_1) (hc0_1 : l0_1.length ≤ c0_1) (h : spec_ColumnOf.f k a0_0 l0_1 a1 = some r) :
    Calls Tryz.prog 18 #[.agg #[.int .i64 a0_0, .slice A0_1 l0_1.length c0_1], .int .i64 a1] w fun e w' => e = .returned (.int .i64 r) ∧ Below w.heap.size w w' := by
  have hu26 := Tryz.underlying26
  have HR0_1 := Aside0.mk hr0_1
  have HC0_1 := Aside0.mk hc0_1
  clear hr0_1 hc0_1
  have HB := Aside0.mk (Below.refl w.heap.size w)
  have H : ((spec_IsContext.f k a0_0 l0_1).bind fun t496 => (if t496 = true then ((spec_l1In.f a1 0 (wrap64 (a0_0 - 1))).bind fun t497 => (if t497 = true then ((spec_l3Column.f k a0_0 l0_1 a1).bind fun t498 => (some t498)) else (some 0))) else (some 0))) = some r := h
  clear h
  replace H := aB H
  obtain ⟨t496, A3, H⟩ := H
  by_cases c4 : t496 = true
  · subst c4
    replace H := ifT H
    replace H := aB H
    obtain ⟨t497, A5, H⟩ := H
    by_cases c6 : t497 = true
    · subst c6
      replace H := ifT H
      replace H := aB H
      obtain ⟨t498, A7, H⟩ := H
      obtain rfl := Option.some.inj H
      go_enter Tryz.func18, Tryz.ntmps18
      go_wp2_with (first | ((with_reducible refine gate_dst (N := 2) rfl ?_); refine box_event ?hg (N := 2) ?hd (cs := #[.int .i64 a0_0, .slice A0_1 l0_1.length c0_1]) (t := 26) ?hr ?_; (case hd => rfl); (case hg => rfl); (case hr => first | (go_simp; done) | (go_simp; rfl)); intro gb495 hg w8 hbox hb; have BK495 := Aside0.mk (hbox); have GW495 := kG HB hg; have GE495 := kG HB hg; replace HB := kH HB hb; clear hb hbox hg; have hcz9_0 : w8.cell? ⟨gb495, 0, none⟩ = some (.int .i64 a0_0) := (blk_cell BK495.out 0).trans rfl; have hcz9_1 : w8.cell? ⟨gb495, 1, none⟩ = some (.slice A0_1 l0_1.length c0_1) := (blk_cell BK495.out 1).trans rfl; have hfz9_0 := blk_frozen BK495.out 0; have hfz9_1 := blk_frozen BK495.out 1) | ((with_reducible refine gate_callee (f := 21) rfl ?_); refine goesL_ (some 6) rfl rfl Tryz.func21 (by kernel_rfl) rfl #[.agg #[.int .i64 a0_0, .slice A0_1 l0_1.length c0_1]] rfl gL_ ?_; (with_reducible refine (spec_IsContext.calls k a0_0 _ _ l0_1 true _ ?side1 ?side2 A3.out).mono ?_); (case side1 => exact cW (Kd.C_below HR0_1.out HB.out)); (case side2 => exact HC0_1.out); rintro e w10 ⟨rfl, hb⟩; refine ⟨_, rfl, ?_⟩; replace BK495 := kB BK495 hb; replace HB := kH HB hb; clear hb; have hcz11_0 : w10.cell? ⟨gb495, 0, none⟩ = some (.int .i64 a0_0) := (blk_cell BK495.out 0).trans rfl; have hcz11_1 : w10.cell? ⟨gb495, 1, none⟩ = some (.slice A0_1 l0_1.length c0_1) := (blk_cell BK495.out 1).trans rfl; have hfz11_0 := blk_frozen BK495.out 0; have hfz11_1 := blk_frozen BK495.out 1) | (go_at_call 44; (with_reducible refine (spec_l1In.calls a1 0 (wrap64 (a0_0 - 1)) true _ A5.out).mono ?_); rintro e w' ⟨rfl, ⟨nd, rfl⟩⟩) | ((with_reducible refine gate_callee (f := 28) rfl ?_); refine goesL_ (some 18) rfl rfl Tryz.func28 (by kernel_rfl) rfl #[.agg #[.int .i64 a0_0, .slice A0_1 l0_1.length c0_1], .int .i64 a1] rfl gL_ ?_; (with_reducible refine (spec_l3Column.calls k a0_0 _ _ l0_1 a1 t498 _ ?side1 ?side2 A7.out).mono ?_); (case side1 => exact cW (Kd.C_below HR0_1.out hB_)); (case side2 => exact HC0_1.out); rintro e w12 ⟨rfl, hb⟩; refine ⟨_, rfl, ?_⟩; replace BK495 := kB BK495 hb; replace HB := kH HB hb; clear hb))
      go_ret
      exact ⟨eR_, hB_⟩
    · replace c6 := Bool.eq_false_iff.mpr c6
      subst c6
      replace H := ifF H
      obtain rfl := Option.some.inj H
      go_enter Tryz.func18, Tryz.ntmps18
      go_wp2_with (first | ((with_reducible refine gate_dst (N := 2) rfl ?_); refine box_event ?hg (N := 2) ?hd (cs := #[.int .i64 a0_0, .slice A0_1 l0_1.length c0_1]) (t := 26) ?hr ?_; (case hd => rfl); (case hg => rfl); (case hr => first | (go_simp; done) | (go_simp; rfl)); intro gb495 hg w13 hbox hb; have BK495 := Aside0.mk (hbox); have GW495 := kG HB hg; have GE495 := kG HB hg; replace HB := kH HB hb; clear hb hbox hg; have hcz14_0 : w13.cell? ⟨gb495, 0, none⟩ = some (.int .i64 a0_0) := (blk_cell BK495.out 0).trans rfl; have hcz14_1 : w13.cell? ⟨gb495, 1, none⟩ = some (.slice A0_1 l0_1.length c0_1) := (blk_cell BK495.out 1).trans rfl; have hfz14_0 := blk_frozen BK495.out 0; have hfz14_1 := blk_frozen BK495.out 1) | ((with_reducible refine gate_callee (f := 21) rfl ?_); refine goesL_ (some 6) rfl rfl Tryz.func21 (by kernel_rfl) rfl #[.agg #[.int .i64 a0_0, .slice A0_1 l0_1.length c0_1]] rfl gL_ ?_; (with_reducible refine (spec_IsContext.calls k a0_0 _ _ l0_1 true _ ?side1 ?side2 A3.out).mono ?_); (case side1 => exact cW (Kd.C_below HR0_1.out HB.out)); (case side2 => exact HC0_1.out); rintro e w15 ⟨rfl, hb⟩; refine ⟨_, rfl, ?_⟩; replace BK495 := kB BK495 hb; replace HB := kH HB hb; clear hb; have hcz16_0 : w15.cell? ⟨gb495, 0, none⟩ = some (.int .i64 a0_0) := (blk_cell BK495.out 0).trans rfl; have hcz16_1 : w15.cell? ⟨gb495, 1, none⟩ = some (.slice A0_1 l0_1.length c0_1) := (blk_cell BK495.out 1).trans rfl; have hfz16_0 := blk_frozen BK495.out 0; have hfz16_1 := blk_frozen BK495.out 1) | (go_at_call 44; (with_reducible refine (spec_l1In.calls a1 0 (wrap64 (a0_0 - 1)) false _ A5.out).mono ?_); rintro e w' ⟨rfl, ⟨nd, rfl⟩⟩))
      go_ret
      exact ⟨eR_, hB_⟩
  · replace c4 := Bool.eq_false_iff.mpr c4
    subst c4
    replace H := ifF H
    obtain rfl := Option.some.inj H
    go_enter Tryz.func18, Tryz.ntmps18
    go_wp2_with (first | ((with_reducible refine gate_dst (N := 2) rfl ?_); refine box_event ?hg (N := 2) ?hd (cs := #[.int .i64 a0_0, .slice A0_1 l0_1.length c0_1]) (t := 26) ?hr ?_; (case hd => rfl); (case hg => rfl); (case hr => first | (go_simp; done) | (go_simp; rfl)); intro gb495 hg w17 hbox hb; have BK495 := Aside0.mk (hbox); have GW495 := kG HB hg; have GE495 := kG HB hg; replace HB := kH HB hb; clear hb hbox hg; have hcz18_0 : w17.cell? ⟨gb495, 0, none⟩ = some (.int .i64 a0_0) := (blk_cell BK495.out 0).trans rfl; have hcz18_1 : w17.cell? ⟨gb495, 1, none⟩ = some (.slice A0_1 l0_1.length c0_1) := (blk_cell BK495.out 1).trans rfl; have hfz18_0 := blk_frozen BK495.out 0; have hfz18_1 := blk_frozen BK495.out 1) | ((with_reducible refine gate_callee (f := 21) rfl ?_); refine goesL_ (some 6) rfl rfl Tryz.func21 (by kernel_rfl) rfl #[.agg #[.int .i64 a0_0, .slice A0_1 l0_1.length c0_1]] rfl gL_ ?_; (with_reducible refine (spec_IsContext.calls k a0_0 _ _ l0_1 false _ ?side1 ?side2 A3.out).mono ?_); (case side1 => exact cW (Kd.C_below HR0_1.out HB.out)); (case side2 => exact HC0_1.out); rintro e w19 ⟨rfl, hb⟩; refine ⟨_, rfl, ?_⟩; replace BK495 := kB BK495 hb; replace HB := kH HB hb; clear hb))
    go_ret
    exact ⟨eR_, hB_⟩

/-! ### slices_Equal_int_int: function 45 -/
def slices_Equal_int_int.l0 : Nat → List Int → List Int → Int → Int → Option (Bool)
  | 0, _, _, _, _ => none
  | k + 1, x0, x1, x12, x13 => if x13 < x12 then (if 0 ≤ x13 then (if x13 < (x0.length : Int) then (if x13 < (x1.length : Int) then (if (rd x0 x13) = (rd x1 x13) then (slices_Equal_int_int.l0 k x0 x1 x12 (wrap64 (x13 + 1))) else (some false)) else (none)) else (none)) else (none)) else (some true)
def slices_Equal_int_int.f (k : Nat) (l0 : List Int) (l1 : List Int) : Option (Bool) := if (l0.length : Int) = (l1.length : Int) then (slices_Equal_int_int.l0 k l0 l1 (l0.length : Int) 0) else (some false)
theorem slices_Equal_int_int.mono_l : ∀ k, (∀ y0 y1 y2 y3, LeO (slices_Equal_int_int.l0 k y0 y1 y2 y3) (slices_Equal_int_int.l0 (k + 1) y0 y1 y2 y3))
  | 0 => fun _ _ _ _ r h => by simp [slices_Equal_int_int.l0] at h
  | k + 1 => by
    have ih0 := slices_Equal_int_int.mono_l k
    · intro y0 y1 y2 y3
      unfold slices_Equal_int_int.l0
      repeat' first
      | (with_reducible exact ih0 _ _ _ _)
      | (with_reducible exact LeO.refl _)
      | (with_reducible exact LeO.none _)
      | (with_reducible refine LeO.ite ?_ ?_)
      | (with_reducible refine LeO.bind ?_ (fun _ => ?_))
      | exact ih0 _ _ _ _
      | exact LeO.none _
      | refine LeO.ite ?_ ?_
      | refine LeO.bind ?_ (fun _ => ?_)
theorem slices_Equal_int_int.mono : ∀ a0 a1 k, LeO (slices_Equal_int_int.f k a0 a1) (slices_Equal_int_int.f (k + 1) a0 a1) := by
  intro a0 a1 k
  have ih0 := slices_Equal_int_int.mono_l k
  unfold slices_Equal_int_int.f
  repeat' first
      | (with_reducible exact ih0 _ _ _ _)
      | (with_reducible exact LeO.refl _)
      | (with_reducible exact LeO.none _)
      | (with_reducible refine LeO.ite ?_ ?_)
      | (with_reducible refine LeO.bind ?_ (fun _ => ?_))
      | exact ih0 _ _ _ _
      | exact LeO.none _
      | refine LeO.ite ?_ ?_
      | refine LeO.bind ?_ (fun _ => ?_)
set_option maxHeartbeats 8000000 in
set_option maxRecDepth 100000 in
theorem slices_Equal_int_int.calls (k : Nat) (A0 : Option Addr) (c0 : Nat) (l0 : List Int) (A1 : Option Addr) (c1 : Nat) (l1 : List Int) (r : Bool) (w : World) (hr0 : Kd.C (Kd.int .i64) w A0 l0.length l0) (hc0 : l0.length ≤ c0) (hr1 : Kd.C (Kd.int .i64) w A1 l1.length l1) (hc1 : l1.length ≤ c1) (h : slices_Equal_int_int.f k l0 l1 = some r) :
    Calls Tryz.prog 45 #[.slice A0 l0.length c0, .slice A1 l1.length c1] w fun e w' => e = .returned (.bool r) ∧ Drawn0 w w' := by
  have HR0 := Aside0.mk hr0
  have HC0 := Aside0.mk hc0
  clear hr0 hc0
  have HR1 := Aside0.mk hr1
  have HC1 := Aside0.mk hc1
  clear hr1 hc1
  have H : (if (l0.length : Int) = (l1.length : Int) then (slices_Equal_int_int.l0 k l0 l1 (l0.length : Int) 0) else (some false)) = some r := h
  clear h
  by_cases c3 : (l0.length : Int) = (l1.length : Int)
  · rw [if_pos c3] at H
    have c3b0 : ((l0.length : Int) == (l1.length : Int)) = true := beq_iff_eq.mpr c3
    have c3b1 : ((l0.length : Int) != (l1.length : Int)) = false := bne_eq_false_iff_eq.mpr c3
    have c3b2 : (l0.length == l1.length) = true := by first | simpa using c3 | (simp at c3 ⊢; omega)
    clear c3
    have H' := Aside0.mk H
    clear H
    go_enter Tryz.func45, Tryz.ntmps45
    go_wp2
    repeat (go_quiet (fail); try go_wp2)
    go_loopg [13] k (fun kq v13 w' => ∃ (x13_1 : Int), v13 = .int .i64 x13_1 ∧ Aside0 (slices_Equal_int_int.l0 kq l0 l1 (l0.length : Int) x13_1 = some r) ∧ Aside0 (kq ≤ k) ∧ Drawn0 w w')
    case atStart => exact ⟨(0), (by first | rfl | (simp; done) | (simp [*]; done)), H', ⟨Nat.le_refl _⟩, by repeat (first | exact Drawn0.refl _ | apply Drawn0.step)⟩
    case round =>
      clear H'
      try clear c1
      try clear p2
      try clear c3
      try clear c3b0
      try clear c3b1
      try clear c3b2
      obtain ⟨x13_1, rfl, HA, HK1, ⟨m1, rfl⟩⟩ := hrel
      cases gk with
      | zero => exact absurd HA.out (by simp [slices_Equal_int_int.l0])
      | succ k1 =>
        have H := HA.out
        clear HA
        simp only [slices_Equal_int_int.l0] at H
        by_cases c4 : x13_1 < (l0.length : Int)
        · rw [if_pos c4] at H
          have c4b0 : decide (x13_1 < (l0.length : Int)) = true := decide_eq_true c4
          clear c4
          by_cases c5 : 0 ≤ x13_1
          · rw [if_pos c5] at H
            have c5b0 : decide (0 ≤ x13_1) = true := decide_eq_true c5
            clear c5
            by_cases c6 : x13_1 < (l0.length : Int)
            · rw [if_pos c6] at H
              have c6b0 : decide (x13_1 < (l0.length : Int)) = true := decide_eq_true c6
              clear c6
              by_cases c7 : x13_1 < (l1.length : Int)
              · rw [if_pos c7] at H
                have c7b0 : decide (x13_1 < (l1.length : Int)) = true := decide_eq_true c7
                clear c7
                by_cases c8 : (rd l0 x13_1) = (rd l1 x13_1)
                · rw [if_pos c8] at H
                  have c8b0 : ((rd l0 x13_1) == (rd l1 x13_1)) = true := beq_iff_eq.mpr c8
                  have c8b1 : ((rd l0 x13_1) != (rd l1 x13_1)) = false := bne_eq_false_iff_eq.mpr c8
                  clear c8
                  have H' := Aside0.mk H
                  clear H
                  have p499 : 0 ≤ (x13_1 : Int) := of_decide_eq_true (by first | (with_reducible assumption) | assumption)
                  have q499 : x13_1 < (l0.length : Int) := of_decide_eq_true (by first | (with_reducible assumption) | assumption)
                  obtain ⟨ad499, e499, hx499_0⟩ := Kd.at_int HR0.out x13_1 p499 q499
                  cases e499
                  replace p499 := eq_true p499
                  replace q499 := eq_true q499
                  have p500 : 0 ≤ (x13_1 : Int) := of_decide_eq_true (by first | (with_reducible assumption) | assumption)
                  have q500 : x13_1 < (l1.length : Int) := of_decide_eq_true (by first | (with_reducible assumption) | assumption)
                  obtain ⟨ad500, e500, hx500_0⟩ := Kd.at_int HR1.out x13_1 p500 q500
                  cases e500
                  replace p500 := eq_true p500
                  replace q500 := eq_true q500
                  go_wp2
                  repeat (go_quiet (fail); try go_wp2)
                  go_roundg k1
                  case measure => have := HK1.out; omega
                  case rel => exact ⟨(wrap64 (x13_1 + 1)), (by first | rfl | (simp; done) | (simp [*]; done)), H', ⟨by have := HK1.out; omega⟩, by repeat (first | exact Drawn0.refl _ | apply Drawn0.step)⟩
                · rw [if_neg c8] at H
                  have c8b0 : ((rd l0 x13_1) == (rd l1 x13_1)) = false := beq_eq_false_iff_ne.mpr c8
                  have c8b1 : ((rd l0 x13_1) != (rd l1 x13_1)) = true := bne_iff_ne.mpr c8
                  obtain rfl := Option.some.inj H
                  have p499 : 0 ≤ (x13_1 : Int) := of_decide_eq_true (by first | (with_reducible assumption) | assumption)
                  have q499 : x13_1 < (l0.length : Int) := of_decide_eq_true (by first | (with_reducible assumption) | assumption)
                  obtain ⟨ad499, e499, hx499_0⟩ := Kd.at_int HR0.out x13_1 p499 q499
                  cases e499
                  replace p499 := eq_true p499
                  replace q499 := eq_true q499
                  have p500 : 0 ≤ (x13_1 : Int) := of_decide_eq_true (by first | (with_reducible assumption) | assumption)
                  have q500 : x13_1 < (l1.length : Int) := of_decide_eq_true (by first | (with_reducible assumption) | assumption)
                  obtain ⟨ad500, e500, hx500_0⟩ := Kd.at_int HR1.out x13_1 p500 q500
                  cases e500
                  replace p500 := eq_true p500
                  replace q500 := eq_true q500
                  go_wp2
                  repeat (go_quiet (fail); try go_wp2)
                  go_ret
                  exact ⟨by first | rfl | (simp; done) | (simp [*]; done), by repeat (first | exact Drawn0.refl _ | apply Drawn0.step)⟩
              · rw [if_neg c7] at H
                exact absurd H (by simp)
            · rw [if_neg c6] at H
              exact absurd H (by simp)
          · rw [if_neg c5] at H
            exact absurd H (by simp)
        · rw [if_neg c4] at H
          have c4b0 : decide (x13_1 < (l0.length : Int)) = false := decide_eq_false c4
          clear c4
          obtain rfl := Option.some.inj H
          go_wp2
          repeat (go_quiet (fail); try go_wp2)
          go_ret
          exact ⟨by first | rfl | (simp; done) | (simp [*]; done), by repeat (first | exact Drawn0.refl _ | apply Drawn0.step)⟩
  · rw [if_neg c3] at H
    have c3b0 : ((l0.length : Int) == (l1.length : Int)) = false := beq_eq_false_iff_ne.mpr c3
    have c3b1 : ((l0.length : Int) != (l1.length : Int)) = true := bne_iff_ne.mpr c3
    have c3b2 : (l0.length == l1.length) = false := by first | simpa using c3 | (simp at c3 ⊢; omega)
    obtain rfl := Option.some.inj H
    go_enter Tryz.func45, Tryz.ntmps45
    go_wp2
    repeat (go_quiet (fail); try go_wp2)
    go_ret
    exact ⟨by first | rfl | (simp; done) | (simp [*]; done), by repeat (first | exact Drawn0.refl _ | apply Drawn0.step)⟩

end Go.Proofs.YtgmnmimaeklfeaaGreatDoor.PFnContexts
