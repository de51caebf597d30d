-- Written by a program of this session (wip/myprint.py), which runs the kit's print with contracts proved by hand; not the kit's own print. Lean checks it.
import Derived.Test.YtgmnmimaeklfeaaGreatDoorPFnContextsx0
import Derived.Test.YtgmnmimaeklfeaaGreatDoorPFnContextsx3
import Derived.Test.YtgmnmimaeklfeaaGreatDoorPFnContextsx9
import Derived.Test.YtgmnmimaeklfeaaGreatDoorPFnContextsx10
import Derived.Test.YtgmnmimaeklfeaaGreatDoorPFnContextsx12
namespace Go.Proofs.YtgmnmimaeklfeaaGreatDoor.PFnContexts
open Go.RowKit Go.Proofs.YtgmnmimaeklfeaaGreatDoorW.PrintWords Go.Proofs.YtgmnmimaeklfeaaGreatDoorW.PrintLast Go.Proofs.YtgmnmimaeklfeaaGreatDoorW.PrintMore
attribute [local go_sem] max2_int min2_int max_two min_two max_three min_three max_four min_four   -- for this text's walks alone
set_option linter.unusedVariables false
set_option linter.unusedSimpArgs false

/-! ### impl_EqualContext: function 19 -/
def impl_EqualContext.f (k : Nat) (a0_0 : Int) (l0_1 : List Int) (a1_0 : Int) (l1_1 : List Int) : Option (Bool) := if a0_0 = a1_0 then ((slices_Equal_int_int.f k l0_1 l1_1).bind fun t503 => (some t503)) else (some false)
theorem impl_EqualContext.mono : ∀ a0 a1 a2 a3 k, LeO (impl_EqualContext.f k a0 a1 a2 a3) (impl_EqualContext.f (k + 1) a0 a1 a2 a3) := by
  intro a0 a1 a2 a3 k
  unfold impl_EqualContext.f
  repeat' first
      | (with_reducible exact slices_Equal_int_int.mono _ _ _)
      | (with_reducible exact LeO.refl _)
      | (with_reducible exact LeO.none _)
      | (with_reducible refine LeO.ite ?_ ?_)
      | (with_reducible refine LeO.bind ?_ (fun _ => ?_))
      | exact slices_Equal_int_int.mono _ _ _
      | exact LeO.none _
      | refine LeO.ite ?_ ?_
      | refine LeO.bind ?_ (fun _ => ?_)
set_option maxHeartbeats 8000000 in
set_option maxRecDepth 100000 in
theorem impl_EqualContext.calls (k : Nat) (a0_0 : Int) (A0_1 : Option Addr) (c0_1 : Nat) (l0_1 : List Int) (a1_0 : Int) (A1_1 : Option Addr) (c1_1 : Nat) (l1_1 : List Int) (r : Bool) (w : World) (hr0_1 : Kd.C (Kd.int .i64) w A0_1 l0_1.length l0_1) (hc0_1 : l0_1.length ≤ c0_1) (hr1_1 : Kd.C (Kd.int .i64) w A1_1 l1_1.length l1_1) (hc1_1 : l1_1.length ≤ c1_1) (h : impl_EqualContext.f k a0_0 l0_1 a1_0 l1_1 = some r) :
    Calls Tryz.prog 19 #[.agg #[.int .i64 a0_0, .slice A0_1 l0_1.length c0_1], .agg #[.int .i64 a1_0, .slice A1_1 l1_1.length c1_1]] w fun e w' => e = .returned (.bool r) ∧ Below w.heap.size w w' := by
  have hu26 := Tryz.underlying26
  have HR0_1 := Aside0.mk hr0_1
  have HC0_1 := Aside0.mk hc0_1
  clear hr0_1 hc0_1
  have HR1_1 := Aside0.mk hr1_1
  have HC1_1 := Aside0.mk hc1_1
  clear hr1_1 hc1_1
  have HB := Aside0.mk (Below.refl w.heap.size w)
  have H : (if a0_0 = a1_0 then ((slices_Equal_int_int.f k l0_1 l1_1).bind fun t503 => (some t503)) else (some false)) = some r := h
  clear h
  by_cases c3 : a0_0 = a1_0
  · rw [if_pos c3] at H
    have c3b0 : (a0_0 == a1_0) = true := beq_iff_eq.mpr c3
    have c3b1 : (a0_0 != a1_0) = false := bne_eq_false_iff_eq.mpr c3
    clear c3
    replace H := aB H
    obtain ⟨t503, A4, H⟩ := H
    obtain rfl := Option.some.inj H
    go_enter Tryz.func19, Tryz.ntmps19
    go_wp2_with (first | ((with_reducible refine gate_dst (N := 2) rfl ?_); refine box_event ?hg (N := 2) ?hd (cs := #[.int .i64 a0_0, .slice A0_1 l0_1.length c0_1]) (t := 26) ?hr ?_; (case hd => rfl); (case hg => rfl); (case hr => first | (go_simp; done) | (go_simp; rfl)); intro gb501 hg w5 hbox hb; have BK501 := Aside0.mk (hbox); have GW501 := kG HB hg; have GE501 := kG HB hg; replace HB := kH HB hb; clear hb hbox hg) | ((with_reducible refine gate_dst (N := 3) rfl ?_); refine box_event ?hg (N := 3) ?hd (cs := #[.int .i64 a1_0, .slice A1_1 l1_1.length c1_1]) (t := 26) ?hr ?_; (case hd => rfl); (case hg => rfl); (case hr => first | (go_simp; done) | (go_simp; rfl)); intro gb502 hg w6 hbox hb; have BK502 := Aside0.mk (hbox); have GW502 := kG HB hg; have GE502 := kG HB hg; replace HB := kH HB hb; have NB501_502 := kN BK501 hg; have NB502_501 := kM BK501 hg; replace BK501 := kB BK501 hb; clear hb hbox hg; have hnb7 := NB501_502.out; have hnc7 := NB502_501.out; have hcz8_0 : w6.cell? ⟨gb501, 0, none⟩ = some (.int .i64 a0_0) := (blk_cell BK501.out 0).trans rfl; have hcz8_1 : w6.cell? ⟨gb501, 1, none⟩ = some (.slice A0_1 l0_1.length c0_1) := (blk_cell BK501.out 1).trans rfl; have hfz8_0 := blk_frozen BK501.out 0; have hfz8_1 := blk_frozen BK501.out 1; have hcz9_0 : w6.cell? ⟨gb502, 0, none⟩ = some (.int .i64 a1_0) := (blk_cell BK502.out 0).trans rfl; have hcz9_1 : w6.cell? ⟨gb502, 1, none⟩ = some (.slice A1_1 l1_1.length c1_1) := (blk_cell BK502.out 1).trans rfl; have hfz9_0 := blk_frozen BK502.out 0; have hfz9_1 := blk_frozen BK502.out 1) | (go_at_call 45; (with_reducible refine (slices_Equal_int_int.calls k _ _ l0_1 _ _ l1_1 t503 _ ?side1 ?side2 ?side3 ?side4 A4.out).mono ?_); (case side1 => exact cW (Kd.C_below HR0_1.out HB.out)); (case side2 => exact HC0_1.out); (case side3 => exact cW (Kd.C_below HR1_1.out HB.out)); (case side4 => exact HC1_1.out); rintro e w' ⟨rfl, ⟨nd, rfl⟩⟩))
    go_ret
    exact ⟨eR_, hB_⟩
  · rw [if_neg c3] at H
    have c3b0 : (a0_0 == a1_0) = false := beq_eq_false_iff_ne.mpr c3
    have c3b1 : (a0_0 != a1_0) = true := bne_iff_ne.mpr c3
    obtain rfl := Option.some.inj H
    go_enter Tryz.func19, Tryz.ntmps19
    go_wp2_with (first | ((with_reducible refine gate_dst (N := 2) rfl ?_); refine box_event ?hg (N := 2) ?hd (cs := #[.int .i64 a0_0, .slice A0_1 l0_1.length c0_1]) (t := 26) ?hr ?_; (case hd => rfl); (case hg => rfl); (case hr => first | (go_simp; done) | (go_simp; rfl)); intro gb501 hg w10 hbox hb; have BK501 := Aside0.mk (hbox); have GW501 := kG HB hg; have GE501 := kG HB hg; replace HB := kH HB hb; clear hb hbox hg) | ((with_reducible refine gate_dst (N := 3) rfl ?_); refine box_event ?hg (N := 3) ?hd (cs := #[.int .i64 a1_0, .slice A1_1 l1_1.length c1_1]) (t := 26) ?hr ?_; (case hd => rfl); (case hg => rfl); (case hr => first | (go_simp; done) | (go_simp; rfl)); intro gb502 hg w11 hbox hb; have BK502 := Aside0.mk (hbox); have GW502 := kG HB hg; have GE502 := kG HB hg; replace HB := kH HB hb; have NB501_502 := kN BK501 hg; have NB502_501 := kM BK501 hg; replace BK501 := kB BK501 hb; clear hb hbox hg; have hnb12 := NB501_502.out; have hnc12 := NB502_501.out; have hcz13_0 : w11.cell? ⟨gb501, 0, none⟩ = some (.int .i64 a0_0) := (blk_cell BK501.out 0).trans rfl; have hcz13_1 : w11.cell? ⟨gb501, 1, none⟩ = some (.slice A0_1 l0_1.length c0_1) := (blk_cell BK501.out 1).trans rfl; have hfz13_0 := blk_frozen BK501.out 0; have hfz13_1 := blk_frozen BK501.out 1; have hcz14_0 : w11.cell? ⟨gb502, 0, none⟩ = some (.int .i64 a1_0) := (blk_cell BK502.out 0).trans rfl; have hcz14_1 : w11.cell? ⟨gb502, 1, none⟩ = some (.slice A1_1 l1_1.length c1_1) := (blk_cell BK502.out 1).trans rfl; have hfz14_0 := blk_frozen BK502.out 0; have hfz14_1 := blk_frozen BK502.out 1))
    go_ret
    exact ⟨eR_, hB_⟩

/-! ### impl_ObjectCount: function 22 -/
def impl_ObjectCount.f (a0_0 : Int) (l0_1 : List Int) : Option (Int) := some (l0_1.length : Int)
set_option maxHeartbeats 8000000 in
set_option maxRecDepth 100000 in
theorem impl_ObjectCount.calls (a0_0 : Int) (A0_1 : Option Addr) (c0_1 : Nat) (l0_1 : List Int) (r : Int) (w : World) (hr0_1 : Kd.C (Kd.int .i64) w A0_1 l0_1.length l0_1) (hc0_1 : l0_1.length ≤ c0_1) (h : impl_ObjectCount.f a0_0 l0_1 = some r) :
    Calls Tryz.prog 22 #[.agg #[.int .i64 a0_0, .slice A0_1 l0_1.length c0_1]] w fun e w' => e = .returned (.int .i64 r) ∧ Below w.heap.size w w' := by
  have hu26 := Tryz.underlying26
  have HR0_1 := Aside0.mk hr0_1
  have HC0_1 := Aside0.mk hc0_1
  clear hr0_1 hc0_1
  have HB := Aside0.mk (Below.refl w.heap.size w)
  have H : (some (l0_1.length : Int)) = some r := h
  clear h
  obtain rfl := Option.some.inj H
  go_enter Tryz.func22, Tryz.ntmps22
  go_wp2_with (first | ((with_reducible refine gate_dst (N := 1) rfl ?_); refine box_event ?hg (N := 1) ?hd (cs := #[.int .i64 a0_0, .slice A0_1 l0_1.length c0_1]) (t := 26) ?hr ?_; (case hd => rfl); (case hg => rfl); (case hr => first | (go_simp; done) | (go_simp; rfl)); intro gb504 hg w2 hbox hb; have BK504 := Aside0.mk (hbox); have GW504 := kG HB hg; have GE504 := kG HB hg; replace HB := kH HB hb; clear hb hbox hg; have hcz3_0 : w2.cell? ⟨gb504, 0, none⟩ = some (.int .i64 a0_0) := (blk_cell BK504.out 0).trans rfl; have hcz3_1 : w2.cell? ⟨gb504, 1, none⟩ = some (.slice A0_1 l0_1.length c0_1) := (blk_cell BK504.out 1).trans rfl; have hfz3_0 := blk_frozen BK504.out 0; have hfz3_1 := blk_frozen BK504.out 1))
  go_ret
  exact ⟨eR_, hB_⟩

/-! ### strings_Join: function 80: the shelf's contract -/
def joinB (l : List ByteArray) (s : ByteArray) : List UInt8 := Go.Lib.join (l.map (·.data.toList)) s.data.toList
def strings_Join.f (l0 : List ByteArray) (a1 : ByteArray) : Option ByteArray := if l0.length ≤ 140737488355328 ∧ (joinB l0 a1).length ≤ 140737488355328 then some ⟨(joinB l0 a1).toArray⟩ else none
theorem strings_Join.plain {w : World} {A : Option Addr} {l : List ByteArray} (hr : Kd.C Kd.string w A l.length l) (hl : 0 < l.length) : ∃ b off, A = some ⟨b, off, none⟩ ∧ b < w.heap.size := by
  obtain ⟨ad, e1, hx⟩ := Kd.at_string hr 0 (by omega) (by omega)
  obtain ⟨b, off, spot⟩ := ad
  cases spot with
  | none => exact ⟨b, off, e1, World.block_lt_of_cell? w _ hx⟩
  | some s =>
    have e : (⟨b, off, some s⟩ : Addr).add (0 : Int).toNat = ⟨b, off, some s⟩ := rfl
    rw [e] at hx
    unfold World.cell? at hx
    cases hh : w.heap[b]? with
    | none => simp [hh] at hx
    | some o => cases o <;> simp [hh] at hx
theorem strings_Join.calls (A0 : Option Addr) (c0 : Nat) (l0 : List ByteArray) (a1 : ByteArray) (r : ByteArray) (w : World) (hr0 : Kd.C Kd.string w A0 l0.length l0) (hc0 : l0.length ≤ c0) (h : strings_Join.f l0 a1 = some r) :
    Calls Tryz.prog 80 #[.slice A0 l0.length c0, .string a1] w fun e w' => e = .returned (.string r) ∧ Below w.heap.size w w' := by
  unfold strings_Join.f at h
  by_cases hc : l0.length ≤ 140737488355328 ∧ (joinB l0 a1).length ≤ 140737488355328
  case neg => rw [if_neg hc] at h; cases h
  rw [if_pos hc] at h
  obtain rfl := Option.some.inj h
  by_cases hn : l0.length = 0
  · have he : l0 = [] := List.eq_nil_of_length_eq_zero hn
    subst he
    exact (Tryz.strings_Join_none A0 c0 a1 w).mono fun e w' ⟨h1, h2⟩ => ⟨h1, by rw [h2]; exact Below.refl _ _⟩
  · obtain ⟨b, off, rfl, hb⟩ := strings_Join.plain hr0 (by omega)
    refine Tryz.strings_Join b off c0 l0 a1 w (fun j x hx => ?_) hb hc.1 hc0 hc.2
    have hj := (List.getElem?_eq_some_iff.1 hx)
    obtain ⟨hj, hxe⟩ := hj
    obtain ⟨ad, e1, hcell⟩ := Kd.at_string hr0 (j : Int) (by omega) (by omega)
    obtain rfl := Option.some.inj e1
    rw [Int.toNat_natCast, add_at] at hcell
    rw [hcell]
    unfold rdOf
    rw [Int.toNat_natCast, List.getD_eq_getElem?_getD, hx]; rfl

/-! ### impl_Join: function 71 -/
def impl_Join.l0 : Nat → List ByteArray → ByteArray → Int → List ByteArray → Int → Int → Option (ByteArray)
  | 0, _, _, _, _, _, _ => none
  | k + 1, x0, x1, x5, x15, x16, x17 => if x17 < x16 then (if 0 ≤ x17 then (if x17 < (x15.length : Int) then (impl_Join.l0 k x0 x1 (wrap64 (x5 + ((rdOf ByteArray.empty x15 x17).size : Int))) x15 x16 (wrap64 (x17 + 1))) else (none)) else (none)) else (if x5 > 1048576 then (some (⟨#[]⟩ : ByteArray)) else ((strings_Join.f x0 x1).bind fun t506 => (some t506)))
def impl_Join.f (k : Nat) (l0 : List ByteArray) (a1 : ByteArray) : Option (ByteArray) := impl_Join.l0 k l0 a1 (wrap64 ((mx (wrap64 ((l0.length : Int) - 1)) 0) * (a1.size : Int))) l0 (l0.length : Int) 0
theorem impl_Join.mono_l : ∀ k, (∀ y0 y1 y2 y3 y4 y5, LeO (impl_Join.l0 k y0 y1 y2 y3 y4 y5) (impl_Join.l0 (k + 1) y0 y1 y2 y3 y4 y5))
  | 0 => fun _ _ _ _ _ _ r h => by simp [impl_Join.l0] at h
  | k + 1 => by
    have ih0 := impl_Join.mono_l k
    · intro y0 y1 y2 y3 y4 y5
      unfold impl_Join.l0
      repeat' first
      | (with_reducible exact ih0 _ _ _ _ _ _)
      | (with_reducible exact LeO.refl _)
      | (with_reducible exact LeO.none _)
      | (with_reducible refine LeO.ite ?_ ?_)
      | (with_reducible refine LeO.bind ?_ (fun _ => ?_))
      | exact ih0 _ _ _ _ _ _
      | exact LeO.none _
      | refine LeO.ite ?_ ?_
      | refine LeO.bind ?_ (fun _ => ?_)
theorem impl_Join.mono : ∀ a0 a1 k, LeO (impl_Join.f k a0 a1) (impl_Join.f (k + 1) a0 a1) := by
  intro a0 a1 k
  have ih0 := impl_Join.mono_l k
  unfold impl_Join.f
  repeat' first
      | (with_reducible exact ih0 _ _ _ _ _ _)
      | (with_reducible exact LeO.refl _)
      | (with_reducible exact LeO.none _)
      | (with_reducible refine LeO.ite ?_ ?_)
      | (with_reducible refine LeO.bind ?_ (fun _ => ?_))
      | exact ih0 _ _ _ _ _ _
      | exact LeO.none _
      | refine LeO.ite ?_ ?_
      | refine LeO.bind ?_ (fun _ => ?_)
set_option maxHeartbeats 8000000 in
set_option maxRecDepth 100000 in
theorem impl_Join.calls (k : Nat) (A0 : Option Addr) (c0 : Nat) (l0 : List ByteArray) (a1 : ByteArray) (r : ByteArray) (w : World) (hr0 : Kd.C Kd.string w A0 l0.length l0) (hc0 : l0.length ≤ c0) (h : impl_Join.f k l0 a1 = some r) :
    Calls Tryz.prog 71 #[.slice A0 l0.length c0, .string a1] w fun e w' => e = .returned (.string r) ∧ Below w.heap.size w w' := by
  have HR0 := Aside0.mk hr0
  have HC0 := Aside0.mk hc0
  clear hr0 hc0
  have HB := Aside0.mk (Below.refl w.heap.size w)
  have H : (impl_Join.l0 k l0 a1 (wrap64 ((mx (wrap64 ((l0.length : Int) - 1)) 0) * (a1.size : Int))) l0 (l0.length : Int) 0) = some r := h
  clear h
  obtain ⟨ji3, hji3⟩ : ∃ j_ : Int, (mx (wrap64 ((l0.length : Int) - 1)) 0) = j_ := ⟨_, rfl⟩
  replace H : (impl_Join.l0 k l0 a1 (wrap64 ((ji3) * (a1.size : Int))) l0 (l0.length : Int) 0) = some r := by first | (rw [hji3] at H; exact H) | (simp only [hji3] at H ⊢; exact H)
  (try (have hji3l : 0 ≤ ji3 := by (rw [← hji3]; unfold mx; (repeat' split) <;> omega)))
  (try (have hji3m : 0 ≤ ji3 := by omega))
  have hji3_ : (if (wrap64 ((l0.length : Int) - 1)) < 0 then 0 else (wrap64 ((l0.length : Int) - 1))) = ji3 := hji3
  have H' := Aside0.mk H
  clear H
  go_enter Tryz.func71, Tryz.ntmps71
  go_wp2
  go_loopg [5, 17] k (fun kq v5 v17 w' => ∃ (x5_1 : Int) (x17_1 : Int), v5 = .int .i64 x5_1 ∧ v17 = .int .i64 x17_1 ∧ Aside0 (impl_Join.l0 kq l0 a1 x5_1 l0 (l0.length : Int) x17_1 = some r) ∧ Aside0 (kq ≤ k) ∧ Aside0 (Below w.heap.size w w'))
  case atStart => exact ⟨(wrap64 ((ji3) * (a1.size : Int))), (0), (by first | rfl | (simp; done) | (simp only [← hji3] <;> (first | rfl | simp)) | (simp [*]; done)), (by first | rfl | (simp; done) | (simp [*]; done)), H', ⟨Nat.le_refl _⟩, ⟨hB_⟩⟩
  case round =>
    clear H'
    try clear p2
    obtain ⟨x5_1, x17_1, rfl, rfl, HA, HK1, HB⟩ := hrel
    cases gk with
    | zero => exact absurd HA.out (by simp [impl_Join.l0])
    | succ k1 =>
      have H := HA.out
      clear HA
      simp only [impl_Join.l0] at H
      by_cases c4 : x17_1 < (l0.length : Int)
      · rw [if_pos c4] at H
        have c4b0 : decide (x17_1 < (l0.length : Int)) = true := decide_eq_true c4
        clear c4
        by_cases c5 : 0 ≤ x17_1
        · rw [if_pos c5] at H
          have c5b0 : decide (0 ≤ x17_1) = true := decide_eq_true c5
          clear c5
          by_cases c6 : x17_1 < (l0.length : Int)
          · rw [if_pos c6] at H
            have c6b0 : decide (x17_1 < (l0.length : Int)) = true := decide_eq_true c6
            clear c6
            have H' := Aside0.mk H
            clear H
            have p505 : 0 ≤ (x17_1 : Int) := of_decide_eq_true (by first | (with_reducible assumption) | assumption)
            have q505 : x17_1 < (l0.length : Int) := of_decide_eq_true (by first | (with_reducible assumption) | assumption)
            obtain ⟨ad505, e505, hx505_0⟩ := Kd.at_string HR0.out x17_1 p505 q505
            cases e505
            replace hx505_0 := (HB.out.cell (World.block_lt_of_cell? w _ hx505_0)).trans hx505_0
            replace p505 := eq_true p505
            replace q505 := eq_true q505
            go_wp2
            go_roundg k1
            case measure => have := HK1.out; omega
            case rel => exact ⟨(wrap64 (x5_1 + ((rdOf ByteArray.empty l0 x17_1).size : Int))), (wrap64 (x17_1 + 1)), (by first | rfl | (simp; done) | (simp [*]; done)), (by first | rfl | (simp; done) | (simp [*]; done)), H', ⟨by have := HK1.out; omega⟩, ⟨hB_⟩⟩
          · rw [if_neg c6] at H
            exact absurd H (by simp)
        · rw [if_neg c5] at H
          exact absurd H (by simp)
      · rw [if_neg c4] at H
        have c4b0 : decide (x17_1 < (l0.length : Int)) = false := decide_eq_false c4
        clear c4
        by_cases c7 : x5_1 > 1048576
        · rw [if_pos c7] at H
          have c7b0 : decide (1048576 < x5_1) = true := decide_eq_true c7
          clear c7
          obtain rfl := Option.some.inj H
          go_wp2
          go_ret
          exact ⟨by first | rfl | (simp [errW_none, errW_some] <;> rfl) | (simp only [← hji3]; first | rfl | (simp [errW_none, errW_some] <;> rfl)) | (simp [*, errW_none, errW_some] <;> rfl), hB_⟩
        · rw [if_neg c7] at H
          have c7b0 : decide (1048576 < x5_1) = false := decide_eq_false c7
          clear c7
          replace H := aB H
          obtain ⟨t506, A8, H⟩ := H
          obtain rfl := Option.some.inj H
          go_wp2_with (first | ((with_reducible refine gate_callee (f := 80) rfl ?_); refine goesL_ (some 30) rfl rfl Tryz.func80 (by kernel_rfl) rfl #[.slice A0 l0.length c0, .string a1] rfl gL_ ?_; (with_reducible refine (strings_Join.calls _ _ l0 a1 t506 _ ?side1 ?side2 A8.out).mono ?_); (case side1 => exact cW (Kd.C_below HR0.out HB.out)); (case side2 => exact HC0.out); rintro e w9 ⟨rfl, hb⟩; refine ⟨_, rfl, ?_⟩; replace HB := kH HB hb; clear hb))
          go_ret
          exact ⟨by first | rfl | (simp [errW_none, errW_some] <;> rfl) | (simp only [← hji3]; first | rfl | (simp [errW_none, errW_some] <;> rfl)) | (simp [*, errW_none, errW_some] <;> rfl), hB_⟩

/-! ### impl_SetsText: function 52 -/
def impl_SetsText.l0 : Nat → List ByteArray → List Int → Int → Int → Option (ByteArray)
  | 0, _, _, _, _ => none
  | k + 1, x3, x10, x11, x12 => if x12 < x11 then (if 0 ≤ x12 then (if x12 < (x10.length : Int) then ((impl_isAnySet.f (rd x10 x12)).bind fun t512 => (if t512 = true then ((impl_SetText.f k (rd x10 x12)).bind fun t513 => (if x3.length < 8796093022208 then (impl_SetsText.l0 k (x3 ++ [t513]) x10 x11 (wrap64 (x12 + 1))) else (none))) else (some (⟨#[]⟩ : ByteArray)))) else (none)) else (none)) else ((impl_Join.f k x3 (⟨#[44]⟩ : ByteArray)).bind fun t510 => (some t510))
def impl_SetsText.f (k : Nat) (l0 : List Int) : Option (ByteArray) := if (l0.length : Int) = 0 then (some (⟨#[110, 111, 110, 101]⟩ : ByteArray)) else (impl_SetsText.l0 k (([] : List ByteArray)) l0 (l0.length : Int) 0)
theorem impl_SetsText.mono_l : ∀ k, (∀ y0 y1 y2 y3, LeO (impl_SetsText.l0 k y0 y1 y2 y3) (impl_SetsText.l0 (k + 1) y0 y1 y2 y3))
  | 0 => fun _ _ _ _ r h => by simp [impl_SetsText.l0] at h
  | k + 1 => by
    have ih0 := impl_SetsText.mono_l k
    · intro y0 y1 y2 y3
      unfold impl_SetsText.l0
      repeat' first
      | (with_reducible exact ih0 _ _ _ _)
      | (with_reducible exact impl_Join.mono _ _ _)
      | (with_reducible exact impl_SetText.mono _ _)
      | (with_reducible exact LeO.refl _)
      | (with_reducible exact LeO.none _)
      | (with_reducible refine LeO.ite ?_ ?_)
      | (with_reducible refine LeO.bind ?_ (fun _ => ?_))
      | exact ih0 _ _ _ _
      | exact impl_Join.mono _ _ _
      | exact impl_SetText.mono _ _
      | exact LeO.none _
      | refine LeO.ite ?_ ?_
      | refine LeO.bind ?_ (fun _ => ?_)
theorem impl_SetsText.mono : ∀ a0 k, LeO (impl_SetsText.f k a0) (impl_SetsText.f (k + 1) a0) := by
  intro a0 k
  have ih0 := impl_SetsText.mono_l k
  unfold impl_SetsText.f
  repeat' first
      | (with_reducible exact ih0 _ _ _ _)
      | (with_reducible exact impl_Join.mono _ _ _)
      | (with_reducible exact impl_SetText.mono _ _)
      | (with_reducible exact LeO.refl _)
      | (with_reducible exact LeO.none _)
      | (with_reducible refine LeO.ite ?_ ?_)
      | (with_reducible refine LeO.bind ?_ (fun _ => ?_))
      | exact ih0 _ _ _ _
      | exact impl_Join.mono _ _ _
      | exact impl_SetText.mono _ _
      | exact LeO.none _
      | refine LeO.ite ?_ ?_
      | refine LeO.bind ?_ (fun _ => ?_)
set_option maxHeartbeats 8000000 in
set_option maxRecDepth 100000 in
theorem impl_SetsText.calls (k : Nat) (A0 : Option Addr) (c0 : Nat) (l0 : List Int) (r : ByteArray) (w : World) (hr0 : Kd.C (Kd.int .i64) w A0 l0.length l0) (hc0 : l0.length ≤ c0) (h : impl_SetsText.f k l0 = some r) :
    Calls Tryz.prog 52 #[.slice A0 l0.length c0] w fun e w' => e = .returned (.string r) ∧ Below w.heap.size w w' := by
  have HR0 := Aside0.mk hr0
  have HC0 := Aside0.mk hc0
  clear hr0 hc0
  have HB := Aside0.mk (Below.refl w.heap.size w)
  have H : (if (l0.length : Int) = 0 then (some (⟨#[110, 111, 110, 101]⟩ : ByteArray)) else (impl_SetsText.l0 k (([] : List ByteArray)) l0 (l0.length : Int) 0)) = some r := h
  clear h
  by_cases c2 : (l0.length : Int) = 0
  · rw [if_pos c2] at H
    have c2b0 : ((l0.length : Int) == 0) = true := beq_iff_eq.mpr c2
    have c2b1 : ((l0.length : Int) != 0) = false := bne_eq_false_iff_eq.mpr c2
    clear c2
    obtain rfl := Option.some.inj H
    go_enter Tryz.func52, Tryz.ntmps52
    go_wp2
    go_ret
    exact ⟨eR_, hB_⟩
  · rw [if_neg c2] at H
    have c2b0 : ((l0.length : Int) == 0) = false := beq_eq_false_iff_ne.mpr c2
    have c2b1 : ((l0.length : Int) != 0) = true := bne_iff_ne.mpr c2
    have c2b2 : ¬ (l0 = []) := fun h_ => c2 (by rw [h_]; rfl)
    obtain ⟨y507, hy507⟩ : ∃ y_ : List ByteArray, y_ = (([] : List ByteArray)) := ⟨_, rfl⟩
    replace H : (impl_SetsText.l0 k y507 l0 (l0.length : Int) 0) = some r := by first | (rw [hy507]; with_reducible exact H) | (have H2_ := (Option.bind_some _ _).symm.trans H; rw [hy507]; with_reducible exact H2_) | (have H2_ := (Option.bind_some _ _).symm.trans H; with_reducible exact H2_) | with_reducible exact H | (rw [hy507]; exact H) | exact H
    have Ny507 := Aside0.mk hy507
    clear hy507
    have H' := Aside0.mk H
    clear H
    go_enter Tryz.func52, Tryz.ntmps52
    go_wp2_with (first | ((with_reducible refine gate_dst (N := 9) rfl ?_); refine Kd.R_lit Kd.string _ 9 ?hg (N := 9) ?hd (xs := ([] : List ByteArray)) (inner := []) (ok := fun _ => True) (okp := fun _ => True) ?hr ?hp (fun _ hk => hk) trivial (Below.refl _ _) (Nat.le_refl _) (by simp) ?_; (case hd => rfl); (case hg => rfl); (case hr => first | (go_simp; done) | (go_simp; rfl)); (case hp => exact (Reps.none _ _)); intro v508 w3 ho4 hb hg_ hnew_; clear hg_ hnew_; (first | rw [← Ny507.out] at ho4 | (simp only [Int.reduceToNat] at ho4; rw [← Ny507.out] at ho4)); have HO509 := Aside0.mk (Kd.R_lower ho4 (below_size hB_)); replace HB := kH HB hb; clear hb ho4))
    go_loopg [3, 12] k (fun kq v3 v12 w' => ∃ (x3_1 : List ByteArray) (x12_1 : Int), v12 = .int .i64 x12_1 ∧ Aside0 (impl_SetsText.l0 kq x3_1 l0 (l0.length : Int) x12_1 = some r) ∧ Aside0 (kq ≤ k) ∧ Aside0 (Kd.R Kd.string 9 w' w.heap.size (fun _ => True) v3 x3_1) ∧ Aside0 (Below w.heap.size w w'))
    case atStart => exact ⟨(y507), (0), (by first | rfl | (simp; done) | (simp [*]; done)), H', ⟨Nat.le_refl _⟩, ⟨by (with_reducible repeat (first | apply Kd.R_alloc | apply Kd.R_drewN | apply Kd.R_drew)); exact HO509.out⟩, ⟨hB_⟩⟩
    case round =>
      clear H'
      try clear c2
      try clear c2b0
      try clear c2b1
      try clear c2b2
      try clear p2
      obtain ⟨x3_1, x12_1, rfl, HA, HK1, HO_3, HB⟩ := hrel
      cases gk with
      | zero => exact absurd HA.out (by simp [impl_SetsText.l0])
      | succ k1 =>
        have H := HA.out
        clear HA
        simp only [impl_SetsText.l0] at H
        by_cases c5 : x12_1 < (l0.length : Int)
        · rw [if_pos c5] at H
          have c5b0 : decide (x12_1 < (l0.length : Int)) = true := decide_eq_true c5
          clear c5
          by_cases c6 : 0 ≤ x12_1
          · rw [if_pos c6] at H
            have c6b0 : decide (0 ≤ x12_1) = true := decide_eq_true c6
            clear c6
            by_cases c7 : x12_1 < (l0.length : Int)
            · rw [if_pos c7] at H
              have c7b0 : decide (x12_1 < (l0.length : Int)) = true := decide_eq_true c7
              clear c7
              replace H := aB H
              obtain ⟨t512, A8, H⟩ := H
              by_cases c9 : t512 = true
              · subst c9
                replace H := ifT H
                replace H := aB H
                obtain ⟨t513, A10, H⟩ := H
                by_cases c11 : x3_1.length < 8796093022208
                · rw [if_pos c11] at H
                  have LMc11 := Aside0.mk c11
                  clear c11
                  obtain ⟨y514, hy514⟩ : ∃ y_ : List ByteArray, y_ = (x3_1 ++ [t513]) := ⟨_, rfl⟩
                  replace H : (impl_SetsText.l0 k1 y514 l0 (l0.length : Int) (wrap64 (x12_1 + 1))) = some r := by first | (rw [hy514]; with_reducible exact H) | (have H2_ := (Option.bind_some _ _).symm.trans H; rw [hy514]; with_reducible exact H2_) | (have H2_ := (Option.bind_some _ _).symm.trans H; with_reducible exact H2_) | with_reducible exact H | (rw [hy514]; exact H) | exact H
                  have Ny514 := Aside0.mk hy514
                  clear hy514
                  have H' := Aside0.mk H
                  clear H
                  have p511 : 0 ≤ (x12_1 : Int) := of_decide_eq_true (by first | (with_reducible assumption) | assumption)
                  have q511 : x12_1 < (l0.length : Int) := of_decide_eq_true (by first | (with_reducible assumption) | assumption)
                  obtain ⟨ad511, e511, hx511_0⟩ := Kd.at_int HR0.out x12_1 p511 q511
                  cases e511
                  replace hx511_0 := (HB.out.cell (World.block_lt_of_cell? w _ hx511_0)).trans hx511_0
                  replace p511 := eq_true p511
                  replace q511 := eq_true q511
                  go_wp2_with (first | ((with_reducible refine gate_callee (f := 69) rfl ?_); refine goesL_ (some 17) rfl rfl Tryz.func69 (by kernel_rfl) rfl #[.int .i64 (rd l0 x12_1)] rfl gL_ ?_; (with_reducible refine (impl_isAnySet.calls (rd l0 x12_1) true _ A8.out).mono ?_); rintro e w' ⟨rfl, ⟨nd, rfl⟩⟩; refine ⟨_, rfl, ?_⟩) | ((with_reducible refine gate_callee (f := 70) rfl ?_); refine goesL_ (some 21) rfl rfl Tryz.func70 (by kernel_rfl) rfl #[.int .i64 (rd l0 x12_1)] rfl gL_ ?_; (with_reducible refine (impl_SetText.calls k1 (rd l0 x12_1) t513 _ A10.out).mono ?_); rintro e w12 ⟨rfl, hb⟩; refine ⟨_, rfl, ?_⟩; replace HO_3 := kR HO_3 hb; replace HB := kH HB hb; clear hb) | ((with_reducible refine gate_builtin (b := .append) (xs := #[.tmp 19, .tmp 22]) rfl ?_); at_builtin; refine Kd.R_append Kd.string (w0 := w) w.heap.size rfl (.tmp 19) (.tmp 22) 50 9 (.string ⟨#[]⟩) 16 rfl Tryz.underlying50 info9 rfl (by decide) (by omega) u3 x3_1 t513 [.string t513] (fun _ => True) (fun _ => False) rfl rfl ?aP (fun _ hk => hk.elim) ?aF ?aO ?aB ?aS ?aL ?_; (case aP => exact rfl); (case aB => exact hB_); (case aF => exact (fun _ _ => trivial)); (case aO => exact (rW HO_3.out)); (case aS => exact (below_size hB_)); (case aL => have := LMc11.out; omega); intro v515 w13 ho hb hg hat; rw [← Ny514.out] at ho; replace HB := Aside0.mk (hb); have HO516 := Aside0.mk (ho); clear HO_3; clear ho hb hg hat))
                  go_roundg k1
                  case measure => have := HK1.out; omega
                  case rel => exact ⟨(y514), (wrap64 (x12_1 + 1)), (by first | rfl | (simp; done) | (simp [*]; done)), H', ⟨by have := HK1.out; omega⟩, ⟨by (with_reducible repeat (first | apply Kd.R_alloc | apply Kd.R_drewN | apply Kd.R_drew)); exact HO516.out⟩, ⟨hB_⟩⟩
                · rw [if_neg c11] at H
                  exact absurd H (by simp)
              · replace c9 := Bool.eq_false_iff.mpr c9
                subst c9
                replace H := ifF H
                obtain rfl := Option.some.inj H
                have p511 : 0 ≤ (x12_1 : Int) := of_decide_eq_true (by first | (with_reducible assumption) | assumption)
                have q511 : x12_1 < (l0.length : Int) := of_decide_eq_true (by first | (with_reducible assumption) | assumption)
                obtain ⟨ad511, e511, hx511_0⟩ := Kd.at_int HR0.out x12_1 p511 q511
                cases e511
                replace hx511_0 := (HB.out.cell (World.block_lt_of_cell? w _ hx511_0)).trans hx511_0
                replace p511 := eq_true p511
                replace q511 := eq_true q511
                go_wp2_with (first | ((with_reducible refine gate_callee (f := 69) rfl ?_); refine goesL_ (some 17) rfl rfl Tryz.func69 (by kernel_rfl) rfl #[.int .i64 (rd l0 x12_1)] rfl gL_ ?_; (with_reducible refine (impl_isAnySet.calls (rd l0 x12_1) false _ A8.out).mono ?_); rintro e w' ⟨rfl, ⟨nd, rfl⟩⟩; refine ⟨_, rfl, ?_⟩))
                go_ret
                exact ⟨eR_, hB_⟩
            · rw [if_neg c7] at H
              exact absurd H (by simp)
          · rw [if_neg c6] at H
            exact absurd H (by simp)
        · rw [if_neg c5] at H
          have c5b0 : decide (x12_1 < (l0.length : Int)) = false := decide_eq_false c5
          clear c5
          replace H := aB H
          obtain ⟨t510, A14, H⟩ := H
          obtain rfl := Option.some.inj H
          obtain ⟨Ao15, co15, eo15⟩ := Kd.R_slice HO_3.out
          subst eo15
          go_wp2_with (first | ((with_reducible refine gate_callee (f := 71) rfl ?_); refine goesL_ (some 26) rfl rfl Tryz.func71 (by kernel_rfl) rfl #[.slice Ao15 x3_1.length co15, .string (⟨#[44]⟩ : ByteArray)] rfl gL_ ?_; (with_reducible refine (impl_Join.calls k1 _ _ x3_1 (⟨#[44]⟩ : ByteArray) t510 _ ?side1 ?side2 A14.out).mono ?_); (case side1 => exact rC HO_3); (case side2 => exact (Kd.R_reads' HO_3.out).2.1); rintro e w16 ⟨rfl, hb⟩; refine ⟨_, rfl, ?_⟩; replace HO_3 := kR HO_3 hb; replace HB := kH HB hb; clear hb))
          go_ret
          exact ⟨eR_, hB_⟩

/-! ### impl_ContextText: function 23 -/
def impl_ContextText.f (k : Nat) (a0_0 : Int) (l0_1 : List Int) : Option (ByteArray) := (impl_IsContext.f a0_0 l0_1).bind fun t518 => (if t518 = true then ((impl_FormatInt.f a0_0).bind fun t519 => (if t519.size + 1 ≤ 9223372036854775807 then ((impl_SetsText.f k l0_1).bind fun t520 => (if t519.size + 1 + t520.size ≤ 9223372036854775807 then (some ((t519 ++ (⟨#[32]⟩ : ByteArray)) ++ t520)) else (none))) else (none))) else (some (⟨#[]⟩ : ByteArray)))
theorem impl_ContextText.mono : ∀ a0 a1 k, LeO (impl_ContextText.f k a0 a1) (impl_ContextText.f (k + 1) a0 a1) := by
  intro a0 a1 k
  unfold impl_ContextText.f
  repeat' first
      | (with_reducible exact impl_SetsText.mono _ _)
      | (with_reducible exact LeO.refl _)
      | (with_reducible exact LeO.none _)
      | (with_reducible refine LeO.ite ?_ ?_)
      | (with_reducible refine LeO.bind ?_ (fun _ => ?_))
      | exact impl_SetsText.mono _ _
      | exact LeO.none _
      | refine LeO.ite ?_ ?_
      | refine LeO.bind ?_ (fun _ => ?_)
def impl_ContextText.T3 : Bool × List (List Nat × List Nat) := (true, [([], []), ([0], [0]), ([1], [1]), ([2], [2]), ([], []), ([4], [4]), ([5, 2], [5]), ([3, 6], [3, 6]), ([7, 6, 0, 1, 2, 3, 4, 5, 6, 7], [7])])
def impl_ContextText.B3 : List Nat := [0, 1, 3, 7, 0, 16, 55, 127, 255]
theorem impl_ContextText.tab3 : rtab .any (opsOf Tryz.f23 3) = impl_ContextText.T3 := by kernel_rfl
theorem impl_ContextText.bits3 : waitsOk impl_ContextText.T3.2 impl_ContextText.B3 = true := by kernel_rfl
set_option maxHeartbeats 8000000 in
set_option maxRecDepth 100000 in
theorem impl_ContextText.calls (k : Nat) (a0_0 : Int) (A0_1 : Option Addr) (c0_1 : Nat) (l0_1 : List Int) (r : ByteArray) (w : World) (hr0_1 : Kd.C (Kd.int .i64) w A0_1 l0_1.length l0_1) (hc0_1 : l0_1.length ≤ c0_1) (hrT : TabW w) (h : impl_ContextText.f k a0_0 l0_1 = some r) :
    Calls Tryz.prog 23 #[.agg #[.int .i64 a0_0, .slice A0_1 l0_1.length c0_1]] w fun e w' => e = .returned (.string r) ∧ Below w.heap.size w w' := by
  have HRT := Aside0.mk hrT
  clear hrT
  have hu26 := Tryz.underlying26
  have HR0_1 := Aside0.mk hr0_1
  have HC0_1 := Aside0.mk hc0_1
  clear hr0_1 hc0_1
  have HB := Aside0.mk (Below.refl w.heap.size w)
  have H : ((impl_IsContext.f a0_0 l0_1).bind fun t518 => (if t518 = true then ((impl_FormatInt.f a0_0).bind fun t519 => (if t519.size + 1 ≤ 9223372036854775807 then ((impl_SetsText.f k l0_1).bind fun t520 => (if t519.size + 1 + t520.size ≤ 9223372036854775807 then (some ((t519 ++ (⟨#[32]⟩ : ByteArray)) ++ t520)) else (none))) else (none))) else (some (⟨#[]⟩ : ByteArray)))) = some r := h
  clear h
  replace H := aB H
  obtain ⟨t518, A2, H⟩ := H
  by_cases c3 : t518 = true
  · subst c3
    replace H := ifT H
    replace H := aB H
    obtain ⟨t519, A4, H⟩ := H
    by_cases c5 : t519.size + 1 ≤ 9223372036854775807
    · rw [if_pos c5] at H
      have c5b0 := eq_true c5
      have c5b1 : decide (t519.size + 1 ≤ 9223372036854775807) = true := decide_eq_true c5
      try have c5b2 : (9223372036854775807 < t519.size + 1) = False := eq_false (Nat.not_lt.2 c5)
      replace H := aB H
      obtain ⟨t520, A6, H⟩ := H
      by_cases c7 : t519.size + 1 + t520.size ≤ 9223372036854775807
      · rw [if_pos c7] at H
        have c7b0 := eq_true c7
        have c7b1 : decide (t519.size + 1 + t520.size ≤ 9223372036854775807) = true := decide_eq_true c7
        try have c7b2 : (9223372036854775807 < t519.size + 1 + t520.size) = False := eq_false (Nat.not_lt.2 c7)
        obtain rfl := Option.some.inj H
        go_enter Tryz.func23, Tryz.ntmps23
        try go_wp2_with (first | ((with_reducible refine gate_dst (N := 1) rfl ?_); refine box_event ?hg (N := 1) ?hd (cs := #[.int .i64 a0_0, .slice A0_1 l0_1.length c0_1]) (t := 26) ?hr ?_; (case hd => rfl); (case hg => rfl); (case hr => first | (go_simp; done) | (go_simp; rfl)); intro gb517 hg w8 hbox hb; have BK517 := Aside0.mk (hbox); have GW517 := kG HB hg; have GE517 := kG HB hg; replace HB := kH HB hb; clear hb hbox hg; have hcz9_0 : w8.cell? ⟨gb517, 0, none⟩ = some (.int .i64 a0_0) := (blk_cell BK517.out 0).trans rfl; have hcz9_1 : w8.cell? ⟨gb517, 1, none⟩ = some (.slice A0_1 l0_1.length c0_1) := (blk_cell BK517.out 1).trans rfl; have hfz9_0 := blk_frozen BK517.out 0; have hfz9_1 := blk_frozen BK517.out 1) | ((with_reducible refine gate_callee (f := 20) rfl ?_); refine goesL_ (some 4) rfl rfl Tryz.func20 (by kernel_rfl) rfl #[.agg #[.int .i64 a0_0, .slice A0_1 l0_1.length c0_1]] rfl gL_ ?_; (with_reducible refine (impl_IsContext.calls a0_0 _ _ l0_1 true _ ?side1 ?side2 A2.out).mono ?_); (case side1 => exact cW (Kd.C_below HR0_1.out HB.out)); (case side2 => exact HC0_1.out); rintro e w10 ⟨rfl, hb⟩; refine ⟨_, rfl, ?_⟩; replace BK517 := kB BK517 hb; replace HB := kH HB hb; clear hb))
        replace BK517 := Aside0.mk (blk_drew BK517.out)
        replace HB := Aside0.mk (below_drew1 HB.out)
        refine start_ (n := 9) (S := fun w' => w'.cell? ⟨gb517, 0, none⟩ = some (.int .i64 a0_0) ∧ w'.cell? ⟨gb517, 1, none⟩ = some (.slice A0_1 l0_1.length c0_1)) (ds := []) #[false, false, false, false, false, false, false, false, false] (by kernel_rfl) rfl rfl ⟨(blk_cell BK517.out 0).trans rfl, (blk_cell BK517.out 1).trans rfl⟩ (fun hHeld => ?_); refine with_tabW impl_ContextText.tab3 impl_ContextText.bits3 (fun HT_ HW_ => ?_)
        generalize w10.drew = w11 at BK517 HB hHeld ⊢
        refine pure_ (i := 0) (N := some 6) (v := ?_) (a' := ?_) (nb 9 1) rfl rfl (any_of HT_.out (by kernel_rfl)) (fun _ _ _ h => h) (Or.inl ⟨by rfl, ?_⟩) ?_ ?_
        rotate_left
        · intro w'
          go_simp
          with_reducible rfl
        rotate_left
        · simp only [Act.put, List.setIfInBounds_toArray, List.set_cons_zero, List.set_cons_succ, i64_w, i32_w]
          rfl
        refine pure_ (i := 4) (N := some 10) (v := ?_) (a' := ?_) (nb 9 17) rfl rfl (any_of HT_.out (by kernel_rfl)) (fun _ _ _ h => h) (Or.inl ⟨by rfl, ?_⟩) ?_ ?_
        rotate_left
        · intro w'
          go_simp
          with_reducible rfl
        rotate_left
        · simp only [Act.put, List.setIfInBounds_toArray, List.set_cons_zero, List.set_cons_succ, i64_w, i32_w]
          rfl
        refine take_ (i := 1) (N := some 7) (v := ?_) (a' := ?_) (nb 9 19) rfl rfl (take_ofW HT_.out HW_.out (by kernel_rfl)) (fun _ _ _ h => h) (Or.inl ⟨by rfl, ?_⟩) hHeld ?_ ?_
        rotate_left
        · rintro w' ⟨s0, s1⟩
          go_simp
          with_reducible rfl
        rotate_left
        · simp only [Act.put, List.setIfInBounds_toArray, List.set_cons_zero, List.set_cons_succ, i64_w, i32_w]
          rfl
        refine take_ (i := 5) (N := some 11) (v := ?_) (a' := ?_) (nb 9 51) rfl rfl (take_ofW HT_.out HW_.out (by kernel_rfl)) (fun _ _ _ h => h) (Or.inl ⟨by rfl, ?_⟩) hHeld ?_ ?_
        rotate_left
        · rintro w' ⟨s0, s1⟩
          go_simp
          with_reducible rfl
        rotate_left
        · simp only [Act.put, List.setIfInBounds_toArray, List.set_cons_zero, List.set_cons_succ, i64_w, i32_w]
          rfl
        refine one_ (i := 2) (N := some 8) (nb 9 55) rfl rfl (one_of HT_.out (by kernel_rfl)) (by decide) (fun K hK => ?_)
        refine goes_ Tryz.func51 (by kernel_rfl) rfl #[.int .i64 a0_0] (by rfl) rfl rfl gL_ ?_
        with_reducible refine (impl_FormatInt.calls a0_0 t519 _ ?sideT A4.out).mono ?_
        case sideT => exact hT_
        rintro e w12 ⟨rfl, hb⟩
        refine ⟨_, rfl, ?_⟩
        replace BK517 := kB BK517 hb
        replace HB := kH HB hb
        (try clear hb)
        (try clear hb2)
        (try clear hk)
        (try clear hi)
        refine hK.out _ _ ⟨(blk_cell BK517.out 0).trans rfl, (blk_cell BK517.out 1).trans rfl⟩ (fun hHeld => ?_)
        clear hK K
        refine norm_ (a' := ?_) ?_ ?_
        rotate_left
        · show Act.put _ (some 8) _ = _
          simp only [Act.put, List.setIfInBounds_toArray, List.set_cons_zero, List.set_cons_succ, i64_w, i32_w]
          rfl
        refine pure_ (i := 3) (N := some 9) (v := ?_) (a' := ?_) (nb 9 63) rfl rfl (any_of HT_.out (by kernel_rfl)) (fun _ _ _ h => h) (Or.inl ⟨by rfl, ?_⟩) ?_ ?_
        rotate_left
        · intro w'
          go_simp
          with_reducible rfl
        rotate_left
        · simp only [Act.put, List.setIfInBounds_toArray, List.set_cons_zero, List.set_cons_succ, i64_w, i32_w]
          rfl
        refine one_ (i := 6) (N := some 12) (nb 9 127) rfl rfl (one_of HT_.out (by kernel_rfl)) (by decide) (fun K hK => ?_)
        refine goes_ Tryz.func52 (by kernel_rfl) rfl #[.slice A0_1 l0_1.length c0_1] (by rfl) rfl rfl gL_ ?_
        with_reducible refine (impl_SetsText.calls k _ _ l0_1 t520 _ ?side1 ?side2 A6.out).mono ?_
        (case side1 => exact cW (Kd.C_below HR0_1.out HB.out))
        (case side2 => exact HC0_1.out)
        rintro e w13 ⟨rfl, hb⟩
        refine ⟨_, rfl, ?_⟩
        replace BK517 := kB BK517 hb
        replace HB := kH HB hb
        (try clear hb)
        (try clear hb2)
        (try clear hk)
        (try clear hi)
        refine hK.out _ _ ⟨(blk_cell BK517.out 0).trans rfl, (blk_cell BK517.out 1).trans rfl⟩ (fun hHeld => ?_)
        clear hK K
        refine norm_ (a' := ?_) ?_ ?_
        rotate_left
        · show Act.put _ (some 12) _ = _
          simp only [Act.put, List.setIfInBounds_toArray, List.set_cons_zero, List.set_cons_succ, i64_w, i32_w]
          rfl
        refine pure_ (i := 7) (N := some 13) (v := ?_) (a' := ?_) (nb 9 255) rfl rfl (any_of HT_.out (by kernel_rfl)) (fun _ _ _ h => h) (Or.inl ⟨by rfl, ?_⟩) ?_ ?_
        rotate_left
        · intro w'
          go_simp
          with_reducible rfl
        rotate_left
        · simp only [Act.put, List.setIfInBounds_toArray, List.set_cons_zero, List.set_cons_succ, i64_w, i32_w]
          rfl
        refine pure_ (i := 8) (N := some 2) (v := ?_) (a' := ?_) (nb 9 511) rfl rfl (any_of HT_.out (by kernel_rfl)) (fun _ _ _ h => h) (Or.inl ⟨by rfl, ?_⟩) ?_ ?_
        rotate_left
        · intro w'
          go_simp
          with_reducible rfl
        rotate_left
        · simp only [Act.put, List.setIfInBounds_toArray, List.set_cons_zero, List.set_cons_succ, i64_w, i32_w]
          rfl
        refine done_ (done_of HT_.out (by kernel_rfl)) ?_
        try go_wp2
        go_ret
        exact ⟨eR_, hB_⟩
      · rw [if_neg c7] at H
        exact absurd H (by simp)
    · rw [if_neg c5] at H
      exact absurd H (by simp)
  · replace c3 := Bool.eq_false_iff.mpr c3
    subst c3
    replace H := ifF H
    obtain rfl := Option.some.inj H
    go_enter Tryz.func23, Tryz.ntmps23
    go_wp2_with (first | ((with_reducible refine gate_dst (N := 1) rfl ?_); refine box_event ?hg (N := 1) ?hd (cs := #[.int .i64 a0_0, .slice A0_1 l0_1.length c0_1]) (t := 26) ?hr ?_; (case hd => rfl); (case hg => rfl); (case hr => first | (go_simp; done) | (go_simp; rfl)); intro gb517 hg w14 hbox hb; have BK517 := Aside0.mk (hbox); have GW517 := kG HB hg; have GE517 := kG HB hg; replace HB := kH HB hb; clear hb hbox hg; have hcz15_0 : w14.cell? ⟨gb517, 0, none⟩ = some (.int .i64 a0_0) := (blk_cell BK517.out 0).trans rfl; have hcz15_1 : w14.cell? ⟨gb517, 1, none⟩ = some (.slice A0_1 l0_1.length c0_1) := (blk_cell BK517.out 1).trans rfl; have hfz15_0 := blk_frozen BK517.out 0; have hfz15_1 := blk_frozen BK517.out 1) | ((with_reducible refine gate_callee (f := 20) rfl ?_); refine goesL_ (some 4) rfl rfl Tryz.func20 (by kernel_rfl) rfl #[.agg #[.int .i64 a0_0, .slice A0_1 l0_1.length c0_1]] rfl gL_ ?_; (with_reducible refine (impl_IsContext.calls a0_0 _ _ l0_1 false _ ?side1 ?side2 A2.out).mono ?_); (case side1 => exact cW (Kd.C_below HR0_1.out HB.out)); (case side2 => exact HC0_1.out); rintro e w16 ⟨rfl, hb⟩; refine ⟨_, rfl, ?_⟩; replace BK517 := kB BK517 hb; replace HB := kH HB hb; clear hb))
    go_ret
    exact ⟨eR_, hB_⟩

end Go.Proofs.YtgmnmimaeklfeaaGreatDoor.PFnContexts
