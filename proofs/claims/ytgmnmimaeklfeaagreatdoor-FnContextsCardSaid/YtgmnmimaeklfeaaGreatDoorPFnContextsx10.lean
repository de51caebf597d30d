-- Written by a program of this session (wip/myprint.py), which runs the kit's print with contracts proved by hand; not the kit's own print. Lean checks it.
import Derived.Test.YtgmnmimaeklfeaaGreatDoorPFnContextsx0
import Derived.Test.YtgmnmimaeklfeaaGreatDoorPFnContextsx3
import Derived.Test.YtgmnmimaeklfeaaGreatDoorPFnContextsx9
namespace Go.Proofs.YtgmnmimaeklfeaaGreatDoor.PFnContexts
open Go.RowKit Go.Proofs.YtgmnmimaeklfeaaGreatDoorW.PrintWords Go.Proofs.YtgmnmimaeklfeaaGreatDoorW.PrintLast Go.Proofs.YtgmnmimaeklfeaaGreatDoorW.PrintMore
attribute [local go_sem] max2_int min2_int max_two min_two max_three min_three max_four min_four   -- for this text's walks alone
set_option linter.unusedVariables false
set_option linter.unusedSimpArgs false

/-! ### impl_SetText: function 70 -/
def impl_SetText.l0 : Nat → ByteArray → List Int → Int → Int → Option (ByteArray)
  | 0, _, _, _, _ => none
  | k + 1, x3, x14, x15, x16 => if x16 < x15 then (if 0 ≤ x16 then (if x16 < (x14.length : Int) then (if 0 ≤ (rd x14 x16) then (if (rd x14 x16) ≤ (wrap64 ((rd x14 x16) + 1)) then (if (wrap64 ((rd x14 x16) + 1)) ≤ 8 then (if x3.size + ((⟨#[97, 98, 99, 100, 101, 102, 103, 104]⟩ : ByteArray).extract ((rd x14 x16) : Int).toNat ((wrap64 ((rd x14 x16) + 1)) : Int).toNat).size ≤ 9223372036854775807 then (impl_SetText.l0 k (x3 ++ ((⟨#[97, 98, 99, 100, 101, 102, 103, 104]⟩ : ByteArray).extract ((rd x14 x16) : Int).toNat ((wrap64 ((rd x14 x16) + 1)) : Int).toNat)) x14 x15 (wrap64 (x16 + 1))) else (none)) else (none)) else (none)) else (none)) else (none)) else (none)) else (some x3)
def impl_SetText.f (k : Nat) (a0 : Int) : Option (ByteArray) := (impl_isAnySet.f a0).bind fun t426 => (if t426 = true then (if a0 = 0 then (some (⟨#[45]⟩ : ByteArray)) else ((impl_ElementsOf.f k a0).bind fun t427 => (impl_SetText.l0 k (⟨#[]⟩ : ByteArray) t427 (t427.length : Int) 0))) else (some (⟨#[]⟩ : ByteArray)))
theorem impl_SetText.mono_l : ∀ k, (∀ y0 y1 y2 y3, LeO (impl_SetText.l0 k y0 y1 y2 y3) (impl_SetText.l0 (k + 1) y0 y1 y2 y3))
  | 0 => fun _ _ _ _ r h => by simp [impl_SetText.l0] at h
  | k + 1 => by
    have ih0 := impl_SetText.mono_l k
    · intro y0 y1 y2 y3
      unfold impl_SetText.l0
      repeat' first
      | (with_reducible exact ih0 _ _ _ _)
      | (with_reducible exact impl_ElementsOf.mono _ _)
      | (with_reducible exact LeO.refl _)
      | (with_reducible exact LeO.none _)
      | (with_reducible refine LeO.ite ?_ ?_)
      | (with_reducible refine LeO.bind ?_ (fun _ => ?_))
      | exact ih0 _ _ _ _
      | exact impl_ElementsOf.mono _ _
      | exact LeO.none _
      | refine LeO.ite ?_ ?_
      | refine LeO.bind ?_ (fun _ => ?_)
theorem impl_SetText.mono : ∀ a0 k, LeO (impl_SetText.f k a0) (impl_SetText.f (k + 1) a0) := by
  intro a0 k
  have ih0 := impl_SetText.mono_l k
  unfold impl_SetText.f
  repeat' first
      | (with_reducible exact ih0 _ _ _ _)
      | (with_reducible exact impl_ElementsOf.mono _ _)
      | (with_reducible exact LeO.refl _)
      | (with_reducible exact LeO.none _)
      | (with_reducible refine LeO.ite ?_ ?_)
      | (with_reducible refine LeO.bind ?_ (fun _ => ?_))
      | exact ih0 _ _ _ _
      | exact impl_ElementsOf.mono _ _
      | exact LeO.none _
      | refine LeO.ite ?_ ?_
      | refine LeO.bind ?_ (fun _ => ?_)
set_option maxHeartbeats 8000000 in
set_option maxRecDepth 100000 in
theorem impl_SetText.calls (k : Nat) (a0 : Int) (r : ByteArray) (w : World) (h : impl_SetText.f k a0 = some r) :
    Calls Tryz.prog 70 #[.int .i64 a0] w fun e w' => e = .returned (.string r) ∧ Below w.heap.size w w' := by
  have HB := Aside0.mk (Below.refl w.heap.size w)
  have H : ((impl_isAnySet.f a0).bind fun t426 => (if t426 = true then (if a0 = 0 then (some (⟨#[45]⟩ : ByteArray)) else ((impl_ElementsOf.f k a0).bind fun t427 => (impl_SetText.l0 k (⟨#[]⟩ : ByteArray) t427 (t427.length : Int) 0))) else (some (⟨#[]⟩ : ByteArray)))) = some r := h
  clear h
  replace H := aB H
  obtain ⟨t426, A2, H⟩ := H
  by_cases c3 : t426 = true
  · subst c3
    replace H := ifT H
    by_cases c4 : a0 = 0
    · rw [if_pos c4] at H
      have c4b0 : (a0 == 0) = true := beq_iff_eq.mpr c4
      have c4b1 : (a0 != 0) = false := bne_eq_false_iff_eq.mpr c4
      clear c4
      obtain rfl := Option.some.inj H
      go_enter Tryz.func70, Tryz.ntmps70
      go_wp2_with (first | ((with_reducible refine gate_callee (f := 69) rfl ?_); refine goesL_ (some 8) rfl rfl Tryz.func69 (by kernel_rfl) rfl #[.int .i64 a0] rfl gL_ ?_; (with_reducible refine (impl_isAnySet.calls a0 true _ A2.out).mono ?_); rintro e w' ⟨rfl, ⟨nd, rfl⟩⟩; refine ⟨_, rfl, ?_⟩))
      go_ret
      exact ⟨eR_, hB_⟩
    · rw [if_neg c4] at H
      have c4b0 : (a0 == 0) = false := beq_eq_false_iff_ne.mpr c4
      have c4b1 : (a0 != 0) = true := bne_iff_ne.mpr c4
      replace H := aB H
      obtain ⟨t427, A5, H⟩ := H
      have H' := Aside0.mk H
      clear H
      go_enter Tryz.func70, Tryz.ntmps70
      go_wp2_with (first | ((with_reducible refine gate_callee (f := 69) rfl ?_); refine goesL_ (some 8) rfl rfl Tryz.func69 (by kernel_rfl) rfl #[.int .i64 a0] rfl gL_ ?_; (with_reducible refine (impl_isAnySet.calls a0 true _ A2.out).mono ?_); rintro e w' ⟨rfl, ⟨nd, rfl⟩⟩; refine ⟨_, rfl, ?_⟩) | ((with_reducible refine gate_callee (f := 79) rfl ?_); refine goesL_ (some 14) rfl rfl Tryz.func79 (by kernel_rfl) rfl #[.int .i64 a0] rfl gL_ ?_; (with_reducible refine (impl_ElementsOf.calls k a0 t427 _ A5.out).mono ?_); rintro e w6 ⟨v428, rfl, ho0, hb⟩; refine ⟨_, rfl, ?_⟩; have HO429 := Aside0.mk (Kd.R_lower ho0 (below_size hB_)); replace HB := kH HB hb; clear hb ho0; obtain ⟨Ao7, co7, eo7⟩ := Kd.R_slice HO429.out; subst eo7))
      go_loopg [3, 16] k (fun kq v3 v16 w' => ∃ (x3_1 : ByteArray) (x16_1 : Int), v3 = .string x3_1 ∧ v16 = .int .i64 x16_1 ∧ Aside0 (impl_SetText.l0 kq x3_1 t427 (t427.length : Int) x16_1 = some r) ∧ Aside0 (kq ≤ k) ∧ Aside0 (Kd.R (Kd.int .i64) 3 w' w.heap.size (fun _ => True) (.slice Ao7 t427.length co7) t427) ∧ Aside0 (Below w.heap.size w w'))
      case atStart => exact ⟨((⟨#[]⟩ : ByteArray)), (0), (by first | rfl | (simp; done) | (simp [*]; done)), (by first | rfl | (simp; done) | (simp [*]; done)), H', ⟨Nat.le_refl _⟩, ⟨by (with_reducible repeat (first | apply Kd.R_alloc | apply Kd.R_drewN | apply Kd.R_drew)); exact HO429.out⟩, ⟨hB_⟩⟩
      case round =>
        clear H'
        try clear p2
        try clear c3
        try clear c4
        try clear c4b0
        try clear c4b1
        try clear c6
        try clear c7
        obtain ⟨x3_1, x16_1, rfl, rfl, HA, HK1, HO_14, HB⟩ := hrel
        cases gk with
        | zero => exact absurd HA.out (by simp [impl_SetText.l0])
        | succ k1 =>
          have H := HA.out
          clear HA
          simp only [impl_SetText.l0] at H
          by_cases c8 : x16_1 < (t427.length : Int)
          · rw [if_pos c8] at H
            have c8b0 : decide (x16_1 < (t427.length : Int)) = true := decide_eq_true c8
            clear c8
            by_cases c9 : 0 ≤ x16_1
            · rw [if_pos c9] at H
              have c9b0 : decide (0 ≤ x16_1) = true := decide_eq_true c9
              clear c9
              by_cases c10 : x16_1 < (t427.length : Int)
              · rw [if_pos c10] at H
                have c10b0 : decide (x16_1 < (t427.length : Int)) = true := decide_eq_true c10
                clear c10
                by_cases c11 : 0 ≤ (rd t427 x16_1)
                · rw [if_pos c11] at H
                  have c11b0 := eq_true c11
                  have c11b1 : decide (0 ≤ (rd t427 x16_1)) = true := decide_eq_true c11
                  clear c11
                  by_cases c12 : (rd t427 x16_1) ≤ (wrap64 ((rd t427 x16_1) + 1))
                  · rw [if_pos c12] at H
                    have c12b0 := eq_true c12
                    have c12b1 : decide ((rd t427 x16_1) ≤ (wrap64 ((rd t427 x16_1) + 1))) = true := decide_eq_true c12
                    by_cases c13 : (wrap64 ((rd t427 x16_1) + 1)) ≤ 8
                    · rw [if_pos c13] at H
                      have c13b0 := eq_true c13
                      have c13b1 : decide ((wrap64 ((rd t427 x16_1) + 1)) ≤ 8) = true := decide_eq_true c13
                      by_cases c14 : x3_1.size + ((⟨#[97, 98, 99, 100, 101, 102, 103, 104]⟩ : ByteArray).extract ((rd t427 x16_1) : Int).toNat ((wrap64 ((rd t427 x16_1) + 1)) : Int).toNat).size ≤ 9223372036854775807
                      · rw [if_pos c14] at H
                        have c14b0 := eq_true c14
                        have c14b1 : decide (x3_1.size + ((⟨#[97, 98, 99, 100, 101, 102, 103, 104]⟩ : ByteArray).extract ((rd t427 x16_1) : Int).toNat ((wrap64 ((rd t427 x16_1) + 1)) : Int).toNat).size ≤ 9223372036854775807) = true := decide_eq_true c14
                        try have c14b2 : (9223372036854775807 < x3_1.size + ((⟨#[97, 98, 99, 100, 101, 102, 103, 104]⟩ : ByteArray).extract ((rd t427 x16_1) : Int).toNat ((wrap64 ((rd t427 x16_1) + 1)) : Int).toNat).size) = False := eq_false (Nat.not_lt.2 c14)
                        have H' := Aside0.mk H
                        clear H
                        have p430 : 0 ≤ (x16_1 : Int) := of_decide_eq_true (by first | (with_reducible assumption) | assumption)
                        have q430 : x16_1 < (t427.length : Int) := of_decide_eq_true (by first | (with_reducible assumption) | assumption)
                        obtain ⟨ad430, e430, hx430_0⟩ := Kd.at_int (Kd.R_reads' HO_14.out).2.2 x16_1 p430 q430
                        cases e430
                        replace p430 := eq_true p430
                        replace q430 := eq_true q430
                        go_wp2
                        go_roundg k1
                        case measure => have := HK1.out; omega
                        case rel => exact ⟨(x3_1 ++ ((⟨#[97, 98, 99, 100, 101, 102, 103, 104]⟩ : ByteArray).extract ((rd t427 x16_1) : Int).toNat ((wrap64 ((rd t427 x16_1) + 1)) : Int).toNat)), (wrap64 (x16_1 + 1)), (by first | rfl | (simp; done) | (simp [*]; done)), (by first | rfl | (simp; done) | (simp [*]; done)), H', ⟨by have := HK1.out; omega⟩, ⟨by (with_reducible repeat (first | apply Kd.R_alloc | apply Kd.R_drewN | apply Kd.R_drew)); exact HO_14.out⟩, ⟨hB_⟩⟩
                      · rw [if_neg c14] at H
                        exact absurd H (by simp)
                    · rw [if_neg c13] at H
                      exact absurd H (by simp)
                  · rw [if_neg c12] at H
                    exact absurd H (by simp)
                · rw [if_neg c11] at H
                  exact absurd H (by simp)
              · rw [if_neg c10] at H
                exact absurd H (by simp)
            · rw [if_neg c9] at H
              exact absurd H (by simp)
          · rw [if_neg c8] at H
            have c8b0 : decide (x16_1 < (t427.length : Int)) = false := decide_eq_false c8
            clear c8
            obtain rfl := Option.some.inj H
            go_wp2
            go_ret
            exact ⟨eR_, hB_⟩
  · replace c3 := Bool.eq_false_iff.mpr c3
    subst c3
    replace H := ifF H
    obtain rfl := Option.some.inj H
    go_enter Tryz.func70, Tryz.ntmps70
    go_wp2_with (first | ((with_reducible refine gate_callee (f := 69) rfl ?_); refine goesL_ (some 8) rfl rfl Tryz.func69 (by kernel_rfl) rfl #[.int .i64 a0] rfl gL_ ?_; (with_reducible refine (impl_isAnySet.calls a0 false _ A2.out).mono ?_); rintro e w' ⟨rfl, ⟨nd, rfl⟩⟩; refine ⟨_, rfl, ?_⟩))
    go_ret
    exact ⟨eR_, hB_⟩

/-! ### impl_ParseSet: function 64 -/
def impl_ParseSet.l0 : Nat → ByteArray → Int → Option (Int × Bool)
  | 0, _, _ => none
  | k + 1, x0, x5 => if x5 < 256 then ((impl_SetText.f k x5).bind fun t431 => (if t431.toList = x0.toList then (some (x5, true)) else (impl_ParseSet.l0 k x0 (wrap64 (x5 + 1))))) else (some (0, false))
def impl_ParseSet.f (k : Nat) (a0 : ByteArray) : Option (Int × Bool) := impl_ParseSet.l0 k a0 0
theorem impl_ParseSet.mono_l : ∀ k, (∀ y0 y1, LeO (impl_ParseSet.l0 k y0 y1) (impl_ParseSet.l0 (k + 1) y0 y1))
  | 0 => fun _ _ r h => by simp [impl_ParseSet.l0] at h
  | k + 1 => by
    have ih0 := impl_ParseSet.mono_l k
    · intro y0 y1
      unfold impl_ParseSet.l0
      repeat' first
      | (with_reducible exact ih0 _ _)
      | (with_reducible exact impl_SetText.mono _ _)
      | (with_reducible exact LeO.refl _)
      | (with_reducible exact LeO.none _)
      | (with_reducible refine LeO.ite ?_ ?_)
      | (with_reducible refine LeO.bind ?_ (fun _ => ?_))
      | exact ih0 _ _
      | exact impl_SetText.mono _ _
      | exact LeO.none _
      | refine LeO.ite ?_ ?_
      | refine LeO.bind ?_ (fun _ => ?_)
theorem impl_ParseSet.mono : ∀ a0 k, LeO (impl_ParseSet.f k a0) (impl_ParseSet.f (k + 1) a0) := by
  intro a0 k
  have ih0 := impl_ParseSet.mono_l k
  unfold impl_ParseSet.f
  repeat' first
      | (with_reducible exact ih0 _ _)
      | (with_reducible exact impl_SetText.mono _ _)
      | (with_reducible exact LeO.refl _)
      | (with_reducible exact LeO.none _)
      | (with_reducible refine LeO.ite ?_ ?_)
      | (with_reducible refine LeO.bind ?_ (fun _ => ?_))
      | exact ih0 _ _
      | exact impl_SetText.mono _ _
      | exact LeO.none _
      | refine LeO.ite ?_ ?_
      | refine LeO.bind ?_ (fun _ => ?_)
set_option maxHeartbeats 8000000 in
set_option maxRecDepth 100000 in
theorem impl_ParseSet.calls (k : Nat) (a0 : ByteArray) (r1 : Int) (r2 : Bool) (w : World) (h : impl_ParseSet.f k a0 = some (r1, r2)) :
    Calls Tryz.prog 64 #[.string a0] w fun e w' => e = .returned (.tuple #[.int .i64 r1, .bool r2]) ∧ Below w.heap.size w w' := by
  have HB := Aside0.mk (Below.refl w.heap.size w)
  have H : (impl_ParseSet.l0 k a0 0) = some (r1, r2) := h
  clear h
  have H' := Aside0.mk H
  clear H
  go_enter Tryz.func64, Tryz.ntmps64
  go_wp2
  go_loopg [5] k (fun kq v5 w' => ∃ (x5_1 : Int), v5 = .int .i64 x5_1 ∧ Aside0 (impl_ParseSet.l0 kq a0 x5_1 = some (r1, r2)) ∧ Aside0 (kq ≤ k) ∧ Aside0 (Below w.heap.size w w'))
  case atStart => exact ⟨(0), (by first | rfl | (simp; done) | (simp [*]; done)), H', ⟨Nat.le_refl _⟩, ⟨hB_⟩⟩
  case round =>
    clear H'
    obtain ⟨x5_1, rfl, HA, HK1, HB⟩ := hrel
    cases gk with
    | zero => exact absurd HA.out (by simp [impl_ParseSet.l0])
    | succ k1 =>
      have H := HA.out
      clear HA
      simp only [impl_ParseSet.l0] at H
      by_cases c2 : x5_1 < 256
      · rw [if_pos c2] at H
        have c2b0 : decide (x5_1 < 256) = true := decide_eq_true c2
        clear c2
        replace H := aB H
        obtain ⟨t431, A3, H⟩ := H
        by_cases c4 : t431.toList = a0.toList
        · rw [if_pos c4] at H
          have c4b0 : (t431.toList == a0.toList) = true := beq_iff_eq.mpr c4
          have c4b1 : (t431.toList != a0.toList) = false := bne_eq_false_iff_eq.mpr c4
          clear c4
          simp only [Option.some.injEq, Prod.mk.injEq] at H
          obtain ⟨rfl, rfl⟩ := H
          go_wp2_with (first | ((with_reducible refine gate_callee (f := 70) rfl ?_); refine goesL_ (some 9) rfl rfl Tryz.func70 (by kernel_rfl) rfl #[.int .i64 x5_1] rfl gL_ ?_; (with_reducible refine (impl_SetText.calls k1 x5_1 t431 _ A3.out).mono ?_); rintro e w5 ⟨rfl, hb⟩; refine ⟨_, rfl, ?_⟩; replace HB := kH HB hb; clear hb))
          go_ret2
          exact ⟨eR_, hB_⟩
        · rw [if_neg c4] at H
          have c4b0 : (t431.toList == a0.toList) = false := beq_eq_false_iff_ne.mpr c4
          have c4b1 : (t431.toList != a0.toList) = true := bne_iff_ne.mpr c4
          have H' := Aside0.mk H
          clear H
          go_wp2_with (first | ((with_reducible refine gate_callee (f := 70) rfl ?_); refine goesL_ (some 9) rfl rfl Tryz.func70 (by kernel_rfl) rfl #[.int .i64 x5_1] rfl gL_ ?_; (with_reducible refine (impl_SetText.calls k1 x5_1 t431 _ A3.out).mono ?_); rintro e w6 ⟨rfl, hb⟩; refine ⟨_, rfl, ?_⟩; replace HB := kH HB hb; clear hb))
          go_roundg k1
          case measure => have := HK1.out; omega
          case rel => exact ⟨(wrap64 (x5_1 + 1)), (by first | rfl | (simp; done) | (simp [*]; done)), H', ⟨by have := HK1.out; omega⟩, ⟨hB_⟩⟩
      · rw [if_neg c2] at H
        have c2b0 : decide (x5_1 < 256) = false := decide_eq_false c2
        clear c2
        simp only [Option.some.injEq, Prod.mk.injEq] at H
        obtain ⟨rfl, rfl⟩ := H
        go_wp2
        go_ret2
        exact ⟨eR_, hB_⟩

/-! ### impl_parseSets: function 38 -/
def impl_parseSets.l0 : Nat → List Int → List ByteArray → Int → Int → Option (List Int × Bool)
  | 0, _, _, _, _ => none
  | k + 1, x4, x13, x14, x15 => if x15 < x14 then (if 0 ≤ x15 then (if x15 < (x13.length : Int) then ((impl_ParseSet.f k (rdOf ByteArray.empty x13 x15)).bind fun bt439 => (if bt439.2 = true then (if x4.length < 17592186044416 then (impl_parseSets.l0 k (x4 ++ [bt439.1]) x13 x14 (wrap64 (x15 + 1))) else (none)) else (some (([] : List Int), false)))) else (none)) else (none)) else (some (x4, true))
def impl_parseSets.f (k : Nat) (a0 : ByteArray) : Option (List Int × Bool) := if a0.toList = ([110, 111, 110, 101] : List UInt8) then (some (([] : List Int), true)) else ((strings_Split.f a0 (⟨#[44]⟩ : ByteArray)).bind fun t435 => (impl_parseSets.l0 k (([] : List Int)) t435 (t435.length : Int) 0))
theorem impl_parseSets.mono_l : ∀ k, (∀ y0 y1 y2 y3, LeO (impl_parseSets.l0 k y0 y1 y2 y3) (impl_parseSets.l0 (k + 1) y0 y1 y2 y3))
  | 0 => fun _ _ _ _ r h => by simp [impl_parseSets.l0] at h
  | k + 1 => by
    have ih0 := impl_parseSets.mono_l k
    · intro y0 y1 y2 y3
      unfold impl_parseSets.l0
      repeat' first
      | (with_reducible exact ih0 _ _ _ _)
      | (with_reducible exact impl_ParseSet.mono _ _)
      | (with_reducible exact LeO.refl _)
      | (with_reducible exact LeO.none _)
      | (with_reducible refine LeO.ite ?_ ?_)
      | (with_reducible refine LeO.bind ?_ (fun _ => ?_))
      | exact ih0 _ _ _ _
      | exact impl_ParseSet.mono _ _
      | exact LeO.none _
      | refine LeO.ite ?_ ?_
      | refine LeO.bind ?_ (fun _ => ?_)
theorem impl_parseSets.mono : ∀ a0 k, LeO (impl_parseSets.f k a0) (impl_parseSets.f (k + 1) a0) := by
  intro a0 k
  have ih0 := impl_parseSets.mono_l k
  unfold impl_parseSets.f
  repeat' first
      | (with_reducible exact ih0 _ _ _ _)
      | (with_reducible exact impl_ParseSet.mono _ _)
      | (with_reducible exact LeO.refl _)
      | (with_reducible exact LeO.none _)
      | (with_reducible refine LeO.ite ?_ ?_)
      | (with_reducible refine LeO.bind ?_ (fun _ => ?_))
      | exact ih0 _ _ _ _
      | exact impl_ParseSet.mono _ _
      | exact LeO.none _
      | refine LeO.ite ?_ ?_
      | refine LeO.bind ?_ (fun _ => ?_)
set_option maxHeartbeats 8000000 in
set_option maxRecDepth 100000 in
theorem impl_parseSets.calls (k : Nat) (a0 : ByteArray) (r1 : List Int) (r2 : Bool) (w : World) (hrT : TabW w) (h : impl_parseSets.f k a0 = some (r1, r2)) :
    Calls Tryz.prog 38 #[.string a0] w fun e w' => ∃ v0_ : Value, e = .returned (.tuple #[v0_, .bool r2]) ∧ Kd.R (Kd.int .i64) 3 w' w.heap.size (fun _ => True) v0_ r1 ∧ Below w.heap.size w w' := by
  have HRT := Aside0.mk hrT
  clear hrT
  have HB := Aside0.mk (Below.refl w.heap.size w)
  have H : (if a0.toList = ([110, 111, 110, 101] : List UInt8) then (some (([] : List Int), true)) else ((strings_Split.f a0 (⟨#[44]⟩ : ByteArray)).bind fun t435 => (impl_parseSets.l0 k (([] : List Int)) t435 (t435.length : Int) 0))) = some (r1, r2) := h
  clear h
  by_cases c2 : a0.toList = ([110, 111, 110, 101] : List UInt8)
  · rw [if_pos c2] at H
    have c2b0 : (a0.toList == ([110, 111, 110, 101] : List UInt8)) = true := beq_iff_eq.mpr c2
    have c2b1 : (a0.toList != ([110, 111, 110, 101] : List UInt8)) = false := bne_eq_false_iff_eq.mpr c2
    clear c2
    simp only [Option.some.injEq, Prod.mk.injEq] at H
    obtain ⟨rfl, rfl⟩ := H
    go_enter Tryz.func38, Tryz.ntmps38
    go_wp2
    go_ret2
    exact ⟨_, eR_, by first | exact Kd.R_nil _ _ _ _ _ | exact Kd.N_nil _ _ _ _ _ | exact Kd.V_nil _ _ _ _ _ | exact Kd.Q_nil _ _ _ _ _ | exact Kd.S_nil _ _ _ _ _, hB_⟩
  · rw [if_neg c2] at H
    have c2b0 : (a0.toList == ([110, 111, 110, 101] : List UInt8)) = false := beq_eq_false_iff_ne.mpr c2
    have c2b1 : (a0.toList != ([110, 111, 110, 101] : List UInt8)) = true := bne_iff_ne.mpr c2
    obtain ⟨y432, hy432⟩ : ∃ y_ : List Int, y_ = (([] : List Int)) := ⟨_, rfl⟩
    replace H : ((strings_Split.f a0 (⟨#[44]⟩ : ByteArray)).bind fun t435 => (impl_parseSets.l0 k y432 t435 (t435.length : Int) 0)) = some (r1, r2) := by first | (rw [hy432]; with_reducible exact H) | (have H2_ := (Option.bind_some _ _).symm.trans H; rw [hy432]; with_reducible exact H2_) | (have H2_ := (Option.bind_some _ _).symm.trans H; with_reducible exact H2_) | with_reducible exact H | (rw [hy432]; exact H) | exact H
    have Ny432 := Aside0.mk hy432
    clear hy432
    replace H := aB H
    obtain ⟨t435, A3, H⟩ := H
    have H' := Aside0.mk H
    clear H
    go_enter Tryz.func38, Tryz.ntmps38
    go_wp2_with (first | ((with_reducible refine gate_dst (N := 11) rfl ?_); refine Kd.R_lit (Kd.int .i64) _ 3 ?hg (N := 11) ?hd (xs := ([] : List Int)) (inner := []) (ok := fun _ => True) (okp := fun _ => True) ?hr ?hp (fun _ hk => hk) trivial (Below.refl _ _) (Nat.le_refl _) (by simp) ?_; (case hd => rfl); (case hg => rfl); (case hr => first | (go_simp; done) | (go_simp; rfl)); (case hp => exact (Reps.none _ _)); intro v433 w4 ho5 hb hg_ hnew_; clear hg_ hnew_; (first | rw [← Ny432.out] at ho5 | (simp only [Int.reduceToNat] at ho5; rw [← Ny432.out] at ho5)); have HO434 := Aside0.mk (Kd.R_lower ho5 (below_size hB_)); replace HB := kH HB hb; clear hb ho5) | ((with_reducible refine gate_callee (f := 63) rfl ?_); refine goesL_ (some 13) rfl rfl Tryz.func63 (by kernel_rfl) rfl #[.string a0, .string (⟨#[44]⟩ : ByteArray)] rfl gL_ ?_; (with_reducible refine (strings_Split.calls a0 (⟨#[44]⟩ : ByteArray) t435 _ ?sideT A3.out).mono ?_); (case sideT => exact hT_); rintro e w6 ⟨v436, rfl, ho0, hb⟩; refine ⟨_, rfl, ?_⟩; replace HO434 := kR HO434 hb; have HO437 := Aside0.mk (Kd.R_lower ho0 (below_size hB_)); replace HB := kH HB hb; clear hb ho0; obtain ⟨Ao7, co7, eo7⟩ := Kd.R_slice HO437.out; subst eo7))
    go_loopg [4, 15] k (fun kq v4 v15 w' => ∃ (x4_1 : List Int) (x15_1 : Int), v15 = .int .i64 x15_1 ∧ Aside0 (impl_parseSets.l0 kq x4_1 t435 (t435.length : Int) x15_1 = some (r1, r2)) ∧ Aside0 (kq ≤ k) ∧ Aside0 (Kd.R (Kd.int .i64) 3 w' w.heap.size (fun _ => True) v4 x4_1) ∧ Aside0 (Kd.R Kd.string 9 w' w.heap.size (fun _ => True) (.slice Ao7 t435.length co7) t435) ∧ Aside0 (Below w.heap.size w w'))
    case atStart => exact ⟨(y432), (0), (by first | rfl | (simp; done) | (simp [*]; done)), H', ⟨Nat.le_refl _⟩, ⟨by (with_reducible repeat (first | apply Kd.R_alloc | apply Kd.R_drewN | apply Kd.R_drew)); exact HO434.out⟩, ⟨by (with_reducible repeat (first | apply Kd.R_alloc | apply Kd.R_drewN | apply Kd.R_drew)); exact HO437.out⟩, ⟨hB_⟩⟩
    case round =>
      clear H'
      try clear c2
      try clear c2b0
      try clear c2b1
      try clear p2
      try clear c3
      try clear c6
      obtain ⟨x4_1, x15_1, rfl, HA, HK1, HO_4, HO_13, HB⟩ := hrel
      cases gk with
      | zero => exact absurd HA.out (by simp [impl_parseSets.l0])
      | succ k1 =>
        have H := HA.out
        clear HA
        simp only [impl_parseSets.l0] at H
        by_cases c8 : x15_1 < (t435.length : Int)
        · rw [if_pos c8] at H
          have c8b0 : decide (x15_1 < (t435.length : Int)) = true := decide_eq_true c8
          clear c8
          by_cases c9 : 0 ≤ x15_1
          · rw [if_pos c9] at H
            have c9b0 : decide (0 ≤ x15_1) = true := decide_eq_true c9
            clear c9
            by_cases c10 : x15_1 < (t435.length : Int)
            · rw [if_pos c10] at H
              have c10b0 : decide (x15_1 < (t435.length : Int)) = true := decide_eq_true c10
              clear c10
              replace H := aB H
              obtain ⟨⟨t439, t440⟩, A11, H⟩ := H
              dsimp only at H
              by_cases c12 : t440 = true
              · subst c12
                replace H := ifT H
                by_cases c13 : x4_1.length < 17592186044416
                · rw [if_pos c13] at H
                  have LMc13 := Aside0.mk c13
                  clear c13
                  obtain ⟨y441, hy441⟩ : ∃ y_ : List Int, y_ = (x4_1 ++ [t439]) := ⟨_, rfl⟩
                  replace H : (impl_parseSets.l0 k1 y441 t435 (t435.length : Int) (wrap64 (x15_1 + 1))) = some (r1, r2) := by first | (rw [hy441]; with_reducible exact H) | (have H2_ := (Option.bind_some _ _).symm.trans H; rw [hy441]; with_reducible exact H2_) | (have H2_ := (Option.bind_some _ _).symm.trans H; with_reducible exact H2_) | with_reducible exact H | (rw [hy441]; exact H) | exact H
                  have Ny441 := Aside0.mk hy441
                  clear hy441
                  have H' := Aside0.mk H
                  clear H
                  have p438 : 0 ≤ (x15_1 : Int) := of_decide_eq_true (by first | (with_reducible assumption) | assumption)
                  have q438 : x15_1 < (t435.length : Int) := of_decide_eq_true (by first | (with_reducible assumption) | assumption)
                  obtain ⟨ad438, e438, hx438_0⟩ := Kd.at_string (Kd.R_reads' HO_13.out).2.2 x15_1 p438 q438
                  cases e438
                  replace p438 := eq_true p438
                  replace q438 := eq_true q438
                  go_wp2_with (first | ((with_reducible refine gate_callee (f := 64) rfl ?_); refine goesL_ (some 21) rfl rfl Tryz.func64 (by kernel_rfl) rfl #[.string (rdOf ByteArray.empty t435 x15_1)] rfl gL_ ?_; (with_reducible refine (impl_ParseSet.calls k1 (rdOf ByteArray.empty t435 x15_1) t439 true _ A11.out).mono ?_); rintro e w14 ⟨rfl, hb⟩; refine ⟨_, rfl, ?_⟩; replace HO_4 := kR HO_4 hb; replace HO_13 := kR HO_13 hb; replace HB := kH HB hb; clear hb) | ((with_reducible refine gate_builtin (b := .append) (xs := #[.tmp 26, .tmp 28]) rfl ?_); at_builtin; refine Kd.R_append (Kd.int .i64) (w0 := w) w.heap.size rfl (.tmp 26) (.tmp 28) 24 3 (.int .i64 0) 8 rfl Tryz.underlying24 info3 rfl (by decide) (by omega) u4 x4_1 t439 [.int .i64 t439] (fun _ => True) (fun _ => False) rfl rfl ?aP (fun _ hk => hk.elim) ?aF ?aO ?aB ?aS ?aL ?_; (case aP => exact rfl); (case aB => exact hB_); (case aF => exact (fun _ _ => trivial)); (case aO => exact (rW HO_4.out)); (case aS => exact (below_size hB_)); (case aL => have := LMc13.out; omega); intro v442 w15 ho hb hg hat; rw [← Ny441.out] at ho; replace HO_13 := Aside0.mk (Kd.R_over' (rW HO_13.out) (Kd.R_typed (rW HO_4.out)) (by decide) hg); replace HB := Aside0.mk (hb); have HO443 := Aside0.mk (ho); clear HO_4; clear ho hb hg hat))
                  go_roundg k1
                  case measure => have := HK1.out; omega
                  case rel => exact ⟨(y441), (wrap64 (x15_1 + 1)), (by first | rfl | (simp; done) | (simp [*]; done)), H', ⟨by have := HK1.out; omega⟩, ⟨by (with_reducible repeat (first | apply Kd.R_alloc | apply Kd.R_drewN | apply Kd.R_drew)); exact HO443.out⟩, ⟨by (with_reducible repeat (first | apply Kd.R_alloc | apply Kd.R_drewN | apply Kd.R_drew)); exact HO_13.out⟩, ⟨hB_⟩⟩
                · rw [if_neg c13] at H
                  exact absurd H (by simp)
              · replace c12 := Bool.eq_false_iff.mpr c12
                subst c12
                replace H := ifF H
                simp only [Option.some.injEq, Prod.mk.injEq] at H
                obtain ⟨rfl, rfl⟩ := H
                have p438 : 0 ≤ (x15_1 : Int) := of_decide_eq_true (by first | (with_reducible assumption) | assumption)
                have q438 : x15_1 < (t435.length : Int) := of_decide_eq_true (by first | (with_reducible assumption) | assumption)
                obtain ⟨ad438, e438, hx438_0⟩ := Kd.at_string (Kd.R_reads' HO_13.out).2.2 x15_1 p438 q438
                cases e438
                replace p438 := eq_true p438
                replace q438 := eq_true q438
                go_wp2_with (first | ((with_reducible refine gate_callee (f := 64) rfl ?_); refine goesL_ (some 21) rfl rfl Tryz.func64 (by kernel_rfl) rfl #[.string (rdOf ByteArray.empty t435 x15_1)] rfl gL_ ?_; (with_reducible refine (impl_ParseSet.calls k1 (rdOf ByteArray.empty t435 x15_1) t439 false _ A11.out).mono ?_); rintro e w16 ⟨rfl, hb⟩; refine ⟨_, rfl, ?_⟩; replace HO_4 := kR HO_4 hb; replace HO_13 := kR HO_13 hb; replace HB := kH HB hb; clear hb))
                go_ret2
                exact ⟨_, eR_, by first | exact Kd.R_nil _ _ _ _ _ | exact Kd.N_nil _ _ _ _ _ | exact Kd.V_nil _ _ _ _ _ | exact Kd.Q_nil _ _ _ _ _ | exact Kd.S_nil _ _ _ _ _, hB_⟩
            · rw [if_neg c10] at H
              exact absurd H (by simp)
          · rw [if_neg c9] at H
            exact absurd H (by simp)
        · rw [if_neg c8] at H
          have c8b0 : decide (x15_1 < (t435.length : Int)) = false := decide_eq_false c8
          clear c8
          simp only [Option.some.injEq, Prod.mk.injEq] at H
          obtain ⟨rfl, rfl⟩ := H
          go_wp2
          go_ret2
          exact ⟨_, eR_, by (with_reducible repeat (first | apply Kd.R_alloc | apply Kd.R_drewN | apply Kd.R_drew)); exact HO_4.out, hB_⟩

/-! ### impl_ParseContext: function 14 -/
def impl_ParseContext.f (k : Nat) (a0 : ByteArray) : Option (Int × List Int × Bool) := (strings_Cut.f a0 (⟨#[32]⟩ : ByteArray)).bind fun bt445 => ((impl_ParseNumber.f bt445.1).bind fun bt448 => ((impl_parseSets.f k bt445.2.1).bind fun bt450 => (if bt445.2.2 = true then (if bt448.2 = true then (if bt450.2 = true then ((impl_IsContext.f bt448.1 bt450.1).bind fun t455 => (if t455 = true then (some (bt448.1, bt450.1, true)) else (some (0, ([] : List Int), false)))) else (some (0, ([] : List Int), false))) else (some (0, ([] : List Int), false))) else (some (0, ([] : List Int), false)))))
theorem impl_ParseContext.mono : ∀ a0 k, LeO (impl_ParseContext.f k a0) (impl_ParseContext.f (k + 1) a0) := by
  intro a0 k
  unfold impl_ParseContext.f
  repeat' first
      | (with_reducible exact impl_parseSets.mono _ _)
      | (with_reducible exact LeO.refl _)
      | (with_reducible exact LeO.none _)
      | (with_reducible refine LeO.ite ?_ ?_)
      | (with_reducible refine LeO.bind ?_ (fun _ => ?_))
      | exact impl_parseSets.mono _ _
      | exact LeO.none _
      | refine LeO.ite ?_ ?_
      | refine LeO.bind ?_ (fun _ => ?_)
set_option maxHeartbeats 8000000 in
set_option maxRecDepth 100000 in
theorem impl_ParseContext.calls (k : Nat) (a0 : ByteArray) (r1 : Int) (r2 : List Int) (r3 : Bool) (w : World) (hrT : TabW w) (h : impl_ParseContext.f k a0 = some (r1, r2, r3)) :
    Calls Tryz.prog 14 #[.string a0] w fun e w' => ∃ v1_ : Value, e = .returned (.tuple #[.agg #[.int .i64 r1, v1_], .bool r3]) ∧ Kd.R (Kd.int .i64) 3 w' w.heap.size (fun _ => True) v1_ r2 ∧ Below w.heap.size w w' := by
  have HRT := Aside0.mk hrT
  clear hrT
  have hu26 := Tryz.underlying26
  have HB := Aside0.mk (Below.refl w.heap.size w)
  have H : ((strings_Cut.f a0 (⟨#[32]⟩ : ByteArray)).bind fun bt445 => ((impl_ParseNumber.f bt445.1).bind fun bt448 => ((impl_parseSets.f k bt445.2.1).bind fun bt450 => (if bt445.2.2 = true then (if bt448.2 = true then (if bt450.2 = true then ((impl_IsContext.f bt448.1 bt450.1).bind fun t455 => (if t455 = true then (some (bt448.1, bt450.1, true)) else (some (0, ([] : List Int), false)))) else (some (0, ([] : List Int), false))) else (some (0, ([] : List Int), false))) else (some (0, ([] : List Int), false)))))) = some (r1, r2, r3) := h
  clear h
  replace H := aB H
  obtain ⟨⟨t445, t446, t447⟩, A2, H⟩ := H
  dsimp only at H
  replace H := aB H
  obtain ⟨⟨t448, t449⟩, A3, H⟩ := H
  dsimp only at H
  replace H := aB H
  obtain ⟨⟨t450, t451⟩, A4, H⟩ := H
  dsimp only at H
  by_cases c5 : t447 = true
  · subst c5
    replace H := ifT H
    by_cases c6 : t449 = true
    · subst c6
      replace H := ifT H
      by_cases c7 : t451 = true
      · subst c7
        replace H := ifT H
        replace H := aB H
        obtain ⟨t455, A8, H⟩ := H
        by_cases c9 : t455 = true
        · subst c9
          replace H := ifT H
          simp only [Option.some.injEq, Prod.mk.injEq] at H
          obtain ⟨rfl, rfl, rfl⟩ := H
          go_enter Tryz.func14, Tryz.ntmps14
          go_wp2_with (first | ((with_reducible refine gate_dst (N := 2) rfl ?_); refine box_event ?hg (N := 2) ?hd (cs := #[.int .i64 0, .slice none 0 0]) (t := 26) ?hr ?_; (case hd => rfl); (case hg => rfl); (case hr => first | (go_simp; done) | (go_simp; rfl)); intro gb444 hg w10 hbox hb; have BK444 := Aside0.mk (hbox); have GW444 := kG HB hg; have GE444 := kG HB hg; replace HB := kH HB hb; clear hb hbox hg) | ((with_reducible refine gate_callee (f := 36) rfl ?_); refine goesL_ (some 14) rfl rfl Tryz.func36 (by kernel_rfl) rfl #[.string a0, .string (⟨#[32]⟩ : ByteArray)] rfl gL_ ?_; (with_reducible refine (strings_Cut.calls a0 (⟨#[32]⟩ : ByteArray) t445 t446 true _ ?sideT A2.out).mono ?_); (case sideT => exact hT_); rintro e w11 ⟨rfl, hb⟩; refine ⟨_, rfl, ?_⟩; replace BK444 := kB BK444 hb; replace HB := kH HB hb; clear hb) | ((with_reducible refine gate_callee (f := 37) rfl ?_); refine goesL_ (some 20) rfl rfl Tryz.func37 (by kernel_rfl) rfl #[.string t445] rfl gL_ ?_; (with_reducible refine (impl_ParseNumber.calls t445 t448 true _ ?sideT A3.out).mono ?_); (case sideT => exact hT_); rintro e w12 ⟨rfl, hb⟩; refine ⟨_, rfl, ?_⟩; replace BK444 := kB BK444 hb; replace HB := kH HB hb; clear hb) | ((with_reducible refine gate_callee (f := 38) rfl ?_); refine goesL_ (some 25) rfl rfl Tryz.func38 (by kernel_rfl) rfl #[.string t446] rfl gL_ ?_; (with_reducible refine (impl_parseSets.calls k t446 t450 true _ ?sideT A4.out).mono ?_); (case sideT => exact hT_); rintro e w13 ⟨v452, rfl, ho0, hb⟩; refine ⟨_, rfl, ?_⟩; have HO453 := Aside0.mk (Kd.R_lower ho0 (below_size hB_)); replace BK444 := kB BK444 hb; replace HB := kH HB hb; clear hb ho0; obtain ⟨Ao14, co14, eo14⟩ := Kd.R_slice HO453.out; subst eo14) | ((with_reducible refine gate_dst (N := 11) rfl ?_); refine box_event ?hg (N := 11) ?hd (cs := #[.int .i64 0, .slice none 0 0]) (t := 26) ?hr ?_; (case hd => rfl); (case hg => rfl); (case hr => first | (go_simp; done) | (go_simp; rfl)); intro gb454 hg w15 hbox hb; replace HO453 := kR HO453 hb; have BK454 := Aside0.mk (hbox); have GW454 := kG HB hg; have GE454 := kG HB hg; replace HB := kH HB hb; have NB444_454 := kN BK444 hg; have NB454_444 := kM BK444 hg; replace BK444 := kB BK444 hb; clear hb hbox hg; have hnb16 := NB454_444.out; have hnc16 := NB444_454.out; have hcz17_0 : w15.cell? ⟨gb454, 0, none⟩ = some (.int .i64 0) := (blk_cell BK454.out 0).trans rfl; have hcz17_1 : w15.cell? ⟨gb454, 1, none⟩ = some (.slice none 0 0) := (blk_cell BK454.out 1).trans rfl; have hfz17_0 := blk_frozen BK454.out 0; have hfz17_1 := blk_frozen BK454.out 1) | (go_at_call 20; (with_reducible refine (impl_IsContext.calls t448 _ _ t450 true _ ?side1 ?side2 A8.out).mono ?_); (case side1 => exact rC (kT HO453 BK454)); (case side2 => exact (Kd.R_reads' HO453.out).2.1); rintro e w18 ⟨rfl, hb⟩; replace HO453 := kR (kT HO453 BK454) hb; replace BK444 := kB (kF NB444_454 BK444) hb; replace BK454 := kB (kP BK454) hb; replace HB := kH HB hb; clear hb; have hcz19_0 : w18.cell? ⟨gb454, 0, none⟩ = some (.int .i64 t448) := (blk_cell BK454.out 0).trans rfl; have hcz19_1 : w18.cell? ⟨gb454, 1, none⟩ = some (.slice Ao14 t450.length co14) := (blk_cell BK454.out 1).trans rfl; have hfz19_0 := blk_frozen BK454.out 0; have hfz19_1 := blk_frozen BK454.out 1; have hcz20_0 : w18.cell? ⟨gb444, 0, none⟩ = some (.int .i64 0) := (blk_cell BK444.out 0).trans rfl; have hcz20_1 : w18.cell? ⟨gb444, 1, none⟩ = some (.slice none 0 0) := (blk_cell BK444.out 1).trans rfl; have hfz20_0 := blk_frozen BK444.out 0; have hfz20_1 := blk_frozen BK444.out 1))
          refine bodyPost_ret (results_ct rfl _ _ gb444 26 #[.int .i64 t448, .slice Ao14 t450.length co14] (0, 0) _ rfl (qP (qP BK444)).out Tryz.underlying26 rfl (by kernel_rfl)) rfl ?_
          exact ⟨_, eR_, by (with_reducible repeat (first | apply Kd.R_alloc | apply Kd.R_drewN | apply Kd.R_drew)); exact Kd.R_mono (Kd.R_far (p := ⟨gb444, 1, none⟩) (Kd.R_far (p := ⟨gb444, 0, none⟩) (Kd.R_types HO453.out BK444.out (by decide)) (fun _ hk => hk.2) (.int .i64 t448)) (fun _ hk => hk.2) (.slice Ao14 t450.length co14)) (fun _ hk => trivial), hB_⟩
        · replace c9 := Bool.eq_false_iff.mpr c9
          subst c9
          replace H := ifF H
          simp only [Option.some.injEq, Prod.mk.injEq] at H
          obtain ⟨rfl, rfl, rfl⟩ := H
          go_enter Tryz.func14, Tryz.ntmps14
          go_wp2_with (first | ((with_reducible refine gate_dst (N := 2) rfl ?_); refine box_event ?hg (N := 2) ?hd (cs := #[.int .i64 0, .slice none 0 0]) (t := 26) ?hr ?_; (case hd => rfl); (case hg => rfl); (case hr => first | (go_simp; done) | (go_simp; rfl)); intro gb444 hg w21 hbox hb; have BK444 := Aside0.mk (hbox); have GW444 := kG HB hg; have GE444 := kG HB hg; replace HB := kH HB hb; clear hb hbox hg) | ((with_reducible refine gate_callee (f := 36) rfl ?_); refine goesL_ (some 14) rfl rfl Tryz.func36 (by kernel_rfl) rfl #[.string a0, .string (⟨#[32]⟩ : ByteArray)] rfl gL_ ?_; (with_reducible refine (strings_Cut.calls a0 (⟨#[32]⟩ : ByteArray) t445 t446 true _ ?sideT A2.out).mono ?_); (case sideT => exact hT_); rintro e w22 ⟨rfl, hb⟩; refine ⟨_, rfl, ?_⟩; replace BK444 := kB BK444 hb; replace HB := kH HB hb; clear hb) | ((with_reducible refine gate_callee (f := 37) rfl ?_); refine goesL_ (some 20) rfl rfl Tryz.func37 (by kernel_rfl) rfl #[.string t445] rfl gL_ ?_; (with_reducible refine (impl_ParseNumber.calls t445 t448 true _ ?sideT A3.out).mono ?_); (case sideT => exact hT_); rintro e w23 ⟨rfl, hb⟩; refine ⟨_, rfl, ?_⟩; replace BK444 := kB BK444 hb; replace HB := kH HB hb; clear hb) | ((with_reducible refine gate_callee (f := 38) rfl ?_); refine goesL_ (some 25) rfl rfl Tryz.func38 (by kernel_rfl) rfl #[.string t446] rfl gL_ ?_; (with_reducible refine (impl_parseSets.calls k t446 t450 true _ ?sideT A4.out).mono ?_); (case sideT => exact hT_); rintro e w24 ⟨v452, rfl, ho0, hb⟩; refine ⟨_, rfl, ?_⟩; have HO453 := Aside0.mk (Kd.R_lower ho0 (below_size hB_)); replace BK444 := kB BK444 hb; replace HB := kH HB hb; clear hb ho0; obtain ⟨Ao25, co25, eo25⟩ := Kd.R_slice HO453.out; subst eo25) | ((with_reducible refine gate_dst (N := 11) rfl ?_); refine box_event ?hg (N := 11) ?hd (cs := #[.int .i64 0, .slice none 0 0]) (t := 26) ?hr ?_; (case hd => rfl); (case hg => rfl); (case hr => first | (go_simp; done) | (go_simp; rfl)); intro gb454 hg w26 hbox hb; replace HO453 := kR HO453 hb; have BK454 := Aside0.mk (hbox); have GW454 := kG HB hg; have GE454 := kG HB hg; replace HB := kH HB hb; have NB444_454 := kN BK444 hg; have NB454_444 := kM BK444 hg; replace BK444 := kB BK444 hb; clear hb hbox hg; have hnb27 := NB454_444.out; have hnc27 := NB444_454.out; have hcz28_0 : w26.cell? ⟨gb454, 0, none⟩ = some (.int .i64 0) := (blk_cell BK454.out 0).trans rfl; have hcz28_1 : w26.cell? ⟨gb454, 1, none⟩ = some (.slice none 0 0) := (blk_cell BK454.out 1).trans rfl; have hfz28_0 := blk_frozen BK454.out 0; have hfz28_1 := blk_frozen BK454.out 1) | (go_at_call 20; (with_reducible refine (impl_IsContext.calls t448 _ _ t450 false _ ?side1 ?side2 A8.out).mono ?_); (case side1 => exact rC (kT HO453 BK454)); (case side2 => exact (Kd.R_reads' HO453.out).2.1); rintro e w29 ⟨rfl, hb⟩; replace HO453 := kR (kT HO453 BK454) hb; replace BK444 := kB (kF NB444_454 BK444) hb; replace BK454 := kB (kP BK454) hb; replace HB := kH HB hb; clear hb; have hcz30_0 : w29.cell? ⟨gb444, 0, none⟩ = some (.int .i64 0) := (blk_cell BK444.out 0).trans rfl; have hcz30_1 : w29.cell? ⟨gb444, 1, none⟩ = some (.slice none 0 0) := (blk_cell BK444.out 1).trans rfl; have hfz30_0 := blk_frozen BK444.out 0; have hfz30_1 := blk_frozen BK444.out 1))
          refine bodyPost_ret (results_ct rfl _ _ gb444 26 #[.int .i64 0, .slice none 0 0] (0, 0) _ rfl (qP (qP BK444)).out Tryz.underlying26 rfl (by kernel_rfl)) rfl ?_
          exact ⟨_, eR_, by first | exact Kd.R_nil _ _ _ _ _ | exact Kd.N_nil _ _ _ _ _ | exact Kd.V_nil _ _ _ _ _ | exact Kd.Q_nil _ _ _ _ _ | exact Kd.S_nil _ _ _ _ _, hB_⟩
      · replace c7 := Bool.eq_false_iff.mpr c7
        subst c7
        replace H := ifF H
        simp only [Option.some.injEq, Prod.mk.injEq] at H
        obtain ⟨rfl, rfl, rfl⟩ := H
        go_enter Tryz.func14, Tryz.ntmps14
        go_wp2_with (first | ((with_reducible refine gate_dst (N := 2) rfl ?_); refine box_event ?hg (N := 2) ?hd (cs := #[.int .i64 0, .slice none 0 0]) (t := 26) ?hr ?_; (case hd => rfl); (case hg => rfl); (case hr => first | (go_simp; done) | (go_simp; rfl)); intro gb444 hg w31 hbox hb; have BK444 := Aside0.mk (hbox); have GW444 := kG HB hg; have GE444 := kG HB hg; replace HB := kH HB hb; clear hb hbox hg) | ((with_reducible refine gate_callee (f := 36) rfl ?_); refine goesL_ (some 14) rfl rfl Tryz.func36 (by kernel_rfl) rfl #[.string a0, .string (⟨#[32]⟩ : ByteArray)] rfl gL_ ?_; (with_reducible refine (strings_Cut.calls a0 (⟨#[32]⟩ : ByteArray) t445 t446 true _ ?sideT A2.out).mono ?_); (case sideT => exact hT_); rintro e w32 ⟨rfl, hb⟩; refine ⟨_, rfl, ?_⟩; replace BK444 := kB BK444 hb; replace HB := kH HB hb; clear hb) | ((with_reducible refine gate_callee (f := 37) rfl ?_); refine goesL_ (some 20) rfl rfl Tryz.func37 (by kernel_rfl) rfl #[.string t445] rfl gL_ ?_; (with_reducible refine (impl_ParseNumber.calls t445 t448 true _ ?sideT A3.out).mono ?_); (case sideT => exact hT_); rintro e w33 ⟨rfl, hb⟩; refine ⟨_, rfl, ?_⟩; replace BK444 := kB BK444 hb; replace HB := kH HB hb; clear hb) | ((with_reducible refine gate_callee (f := 38) rfl ?_); refine goesL_ (some 25) rfl rfl Tryz.func38 (by kernel_rfl) rfl #[.string t446] rfl gL_ ?_; (with_reducible refine (impl_parseSets.calls k t446 t450 false _ ?sideT A4.out).mono ?_); (case sideT => exact hT_); rintro e w34 ⟨v452, rfl, ho0, hb⟩; refine ⟨_, rfl, ?_⟩; have HO453 := Aside0.mk (Kd.R_lower ho0 (below_size hB_)); replace BK444 := kB BK444 hb; replace HB := kH HB hb; clear hb ho0; obtain ⟨Ao35, co35, eo35⟩ := Kd.R_slice HO453.out; subst eo35) | ((with_reducible refine gate_dst (N := 11) rfl ?_); refine box_event ?hg (N := 11) ?hd (cs := #[.int .i64 0, .slice none 0 0]) (t := 26) ?hr ?_; (case hd => rfl); (case hg => rfl); (case hr => first | (go_simp; done) | (go_simp; rfl)); intro gb454 hg w36 hbox hb; replace HO453 := kR HO453 hb; have BK454 := Aside0.mk (hbox); have GW454 := kG HB hg; have GE454 := kG HB hg; replace HB := kH HB hb; have NB444_454 := kN BK444 hg; have NB454_444 := kM BK444 hg; replace BK444 := kB BK444 hb; clear hb hbox hg; have hnb37 := NB454_444.out; have hnc37 := NB444_454.out; have hcz38_0 : w36.cell? ⟨gb454, 0, none⟩ = some (.int .i64 0) := (blk_cell BK454.out 0).trans rfl; have hcz38_1 : w36.cell? ⟨gb454, 1, none⟩ = some (.slice none 0 0) := (blk_cell BK454.out 1).trans rfl; have hfz38_0 := blk_frozen BK454.out 0; have hfz38_1 := blk_frozen BK454.out 1; have hcz39_0 : w36.cell? ⟨gb444, 0, none⟩ = some (.int .i64 0) := (blk_cell BK444.out 0).trans rfl; have hcz39_1 : w36.cell? ⟨gb444, 1, none⟩ = some (.slice none 0 0) := (blk_cell BK444.out 1).trans rfl; have hfz39_0 := blk_frozen BK444.out 0; have hfz39_1 := blk_frozen BK444.out 1))
        refine bodyPost_ret (results_ct rfl _ _ gb444 26 #[.int .i64 0, .slice none 0 0] (0, 0) _ rfl (qP (qP (qF NB444_454 (qF NB444_454 BK444)))).out Tryz.underlying26 rfl (by kernel_rfl)) rfl ?_
        exact ⟨_, eR_, by first | exact Kd.R_nil _ _ _ _ _ | exact Kd.N_nil _ _ _ _ _ | exact Kd.V_nil _ _ _ _ _ | exact Kd.Q_nil _ _ _ _ _ | exact Kd.S_nil _ _ _ _ _, hB_⟩
    · replace c6 := Bool.eq_false_iff.mpr c6
      subst c6
      replace H := ifF H
      simp only [Option.some.injEq, Prod.mk.injEq] at H
      obtain ⟨rfl, rfl, rfl⟩ := H
      go_enter Tryz.func14, Tryz.ntmps14
      go_wp2_with (first | ((with_reducible refine gate_dst (N := 2) rfl ?_); refine box_event ?hg (N := 2) ?hd (cs := #[.int .i64 0, .slice none 0 0]) (t := 26) ?hr ?_; (case hd => rfl); (case hg => rfl); (case hr => first | (go_simp; done) | (go_simp; rfl)); intro gb444 hg w40 hbox hb; have BK444 := Aside0.mk (hbox); have GW444 := kG HB hg; have GE444 := kG HB hg; replace HB := kH HB hb; clear hb hbox hg) | ((with_reducible refine gate_callee (f := 36) rfl ?_); refine goesL_ (some 14) rfl rfl Tryz.func36 (by kernel_rfl) rfl #[.string a0, .string (⟨#[32]⟩ : ByteArray)] rfl gL_ ?_; (with_reducible refine (strings_Cut.calls a0 (⟨#[32]⟩ : ByteArray) t445 t446 true _ ?sideT A2.out).mono ?_); (case sideT => exact hT_); rintro e w41 ⟨rfl, hb⟩; refine ⟨_, rfl, ?_⟩; replace BK444 := kB BK444 hb; replace HB := kH HB hb; clear hb) | ((with_reducible refine gate_callee (f := 37) rfl ?_); refine goesL_ (some 20) rfl rfl Tryz.func37 (by kernel_rfl) rfl #[.string t445] rfl gL_ ?_; (with_reducible refine (impl_ParseNumber.calls t445 t448 false _ ?sideT A3.out).mono ?_); (case sideT => exact hT_); rintro e w42 ⟨rfl, hb⟩; refine ⟨_, rfl, ?_⟩; replace BK444 := kB BK444 hb; replace HB := kH HB hb; clear hb) | ((with_reducible refine gate_callee (f := 38) rfl ?_); refine goesL_ (some 25) rfl rfl Tryz.func38 (by kernel_rfl) rfl #[.string t446] rfl gL_ ?_; (with_reducible refine (impl_parseSets.calls k t446 t450 t451 _ ?sideT A4.out).mono ?_); (case sideT => exact hT_); rintro e w43 ⟨v452, rfl, ho0, hb⟩; refine ⟨_, rfl, ?_⟩; have HO453 := Aside0.mk (Kd.R_lower ho0 (below_size hB_)); replace BK444 := kB BK444 hb; replace HB := kH HB hb; clear hb ho0; obtain ⟨Ao44, co44, eo44⟩ := Kd.R_slice HO453.out; subst eo44) | ((with_reducible refine gate_dst (N := 11) rfl ?_); refine box_event ?hg (N := 11) ?hd (cs := #[.int .i64 0, .slice none 0 0]) (t := 26) ?hr ?_; (case hd => rfl); (case hg => rfl); (case hr => first | (go_simp; done) | (go_simp; rfl)); intro gb454 hg w45 hbox hb; replace HO453 := kR HO453 hb; have BK454 := Aside0.mk (hbox); have GW454 := kG HB hg; have GE454 := kG HB hg; replace HB := kH HB hb; have NB444_454 := kN BK444 hg; have NB454_444 := kM BK444 hg; replace BK444 := kB BK444 hb; clear hb hbox hg; have hnb46 := NB454_444.out; have hnc46 := NB444_454.out; have hcz47_0 : w45.cell? ⟨gb454, 0, none⟩ = some (.int .i64 0) := (blk_cell BK454.out 0).trans rfl; have hcz47_1 : w45.cell? ⟨gb454, 1, none⟩ = some (.slice none 0 0) := (blk_cell BK454.out 1).trans rfl; have hfz47_0 := blk_frozen BK454.out 0; have hfz47_1 := blk_frozen BK454.out 1; have hcz48_0 : w45.cell? ⟨gb444, 0, none⟩ = some (.int .i64 0) := (blk_cell BK444.out 0).trans rfl; have hcz48_1 : w45.cell? ⟨gb444, 1, none⟩ = some (.slice none 0 0) := (blk_cell BK444.out 1).trans rfl; have hfz48_0 := blk_frozen BK444.out 0; have hfz48_1 := blk_frozen BK444.out 1))
      refine bodyPost_ret (results_ct rfl _ _ gb444 26 #[.int .i64 0, .slice none 0 0] (0, 0) _ rfl (qP (qP (qF NB444_454 (qF NB444_454 BK444)))).out Tryz.underlying26 rfl (by kernel_rfl)) rfl ?_
      exact ⟨_, eR_, by first | exact Kd.R_nil _ _ _ _ _ | exact Kd.N_nil _ _ _ _ _ | exact Kd.V_nil _ _ _ _ _ | exact Kd.Q_nil _ _ _ _ _ | exact Kd.S_nil _ _ _ _ _, hB_⟩
  · replace c5 := Bool.eq_false_iff.mpr c5
    subst c5
    replace H := ifF H
    simp only [Option.some.injEq, Prod.mk.injEq] at H
    obtain ⟨rfl, rfl, rfl⟩ := H
    go_enter Tryz.func14, Tryz.ntmps14
    go_wp2_with (first | ((with_reducible refine gate_dst (N := 2) rfl ?_); refine box_event ?hg (N := 2) ?hd (cs := #[.int .i64 0, .slice none 0 0]) (t := 26) ?hr ?_; (case hd => rfl); (case hg => rfl); (case hr => first | (go_simp; done) | (go_simp; rfl)); intro gb444 hg w49 hbox hb; have BK444 := Aside0.mk (hbox); have GW444 := kG HB hg; have GE444 := kG HB hg; replace HB := kH HB hb; clear hb hbox hg) | ((with_reducible refine gate_callee (f := 36) rfl ?_); refine goesL_ (some 14) rfl rfl Tryz.func36 (by kernel_rfl) rfl #[.string a0, .string (⟨#[32]⟩ : ByteArray)] rfl gL_ ?_; (with_reducible refine (strings_Cut.calls a0 (⟨#[32]⟩ : ByteArray) t445 t446 false _ ?sideT A2.out).mono ?_); (case sideT => exact hT_); rintro e w50 ⟨rfl, hb⟩; refine ⟨_, rfl, ?_⟩; replace BK444 := kB BK444 hb; replace HB := kH HB hb; clear hb) | ((with_reducible refine gate_callee (f := 37) rfl ?_); refine goesL_ (some 20) rfl rfl Tryz.func37 (by kernel_rfl) rfl #[.string t445] rfl gL_ ?_; (with_reducible refine (impl_ParseNumber.calls t445 t448 t449 _ ?sideT A3.out).mono ?_); (case sideT => exact hT_); rintro e w51 ⟨rfl, hb⟩; refine ⟨_, rfl, ?_⟩; replace BK444 := kB BK444 hb; replace HB := kH HB hb; clear hb) | ((with_reducible refine gate_callee (f := 38) rfl ?_); refine goesL_ (some 25) rfl rfl Tryz.func38 (by kernel_rfl) rfl #[.string t446] rfl gL_ ?_; (with_reducible refine (impl_parseSets.calls k t446 t450 t451 _ ?sideT A4.out).mono ?_); (case sideT => exact hT_); rintro e w52 ⟨v452, rfl, ho0, hb⟩; refine ⟨_, rfl, ?_⟩; have HO453 := Aside0.mk (Kd.R_lower ho0 (below_size hB_)); replace BK444 := kB BK444 hb; replace HB := kH HB hb; clear hb ho0; obtain ⟨Ao53, co53, eo53⟩ := Kd.R_slice HO453.out; subst eo53) | ((with_reducible refine gate_dst (N := 11) rfl ?_); refine box_event ?hg (N := 11) ?hd (cs := #[.int .i64 0, .slice none 0 0]) (t := 26) ?hr ?_; (case hd => rfl); (case hg => rfl); (case hr => first | (go_simp; done) | (go_simp; rfl)); intro gb454 hg w54 hbox hb; replace HO453 := kR HO453 hb; have BK454 := Aside0.mk (hbox); have GW454 := kG HB hg; have GE454 := kG HB hg; replace HB := kH HB hb; have NB444_454 := kN BK444 hg; have NB454_444 := kM BK444 hg; replace BK444 := kB BK444 hb; clear hb hbox hg; have hnb55 := NB454_444.out; have hnc55 := NB444_454.out; have hcz56_0 : w54.cell? ⟨gb454, 0, none⟩ = some (.int .i64 0) := (blk_cell BK454.out 0).trans rfl; have hcz56_1 : w54.cell? ⟨gb454, 1, none⟩ = some (.slice none 0 0) := (blk_cell BK454.out 1).trans rfl; have hfz56_0 := blk_frozen BK454.out 0; have hfz56_1 := blk_frozen BK454.out 1; have hcz57_0 : w54.cell? ⟨gb444, 0, none⟩ = some (.int .i64 0) := (blk_cell BK444.out 0).trans rfl; have hcz57_1 : w54.cell? ⟨gb444, 1, none⟩ = some (.slice none 0 0) := (blk_cell BK444.out 1).trans rfl; have hfz57_0 := blk_frozen BK444.out 0; have hfz57_1 := blk_frozen BK444.out 1))
    refine bodyPost_ret (results_ct rfl _ _ gb444 26 #[.int .i64 0, .slice none 0 0] (0, 0) _ rfl (qP (qP (qF NB444_454 (qF NB444_454 BK444)))).out Tryz.underlying26 rfl (by kernel_rfl)) rfl ?_
    exact ⟨_, eR_, by first | exact Kd.R_nil _ _ _ _ _ | exact Kd.N_nil _ _ _ _ _ | exact Kd.V_nil _ _ _ _ _ | exact Kd.Q_nil _ _ _ _ _ | exact Kd.S_nil _ _ _ _ _, hB_⟩

/-! ### spec_SplitByte: function 39 -/
def spec_SplitByte.l0 : Nat → ByteArray → Int → List ByteArray → Int → Int → Option (List ByteArray)
  | 0, _, _, _, _, _ => none
  | k + 1, x0, x1, x5, x6, x7 => if x7 ≤ (x0.size : Int) then (if x7 = (x0.size : Int) then (if 0 ≤ x6 then (if x6 ≤ x7 then (if x5.length < 8796093022208 then (spec_SplitByte.l0 k x0 x1 (x5 ++ [x0.extract (x6 : Int).toNat (x7 : Int).toNat]) (wrap64 (x7 + 1)) (wrap64 (x7 + 1))) else (none)) else (none)) else (none)) else (if 0 ≤ x7 then (if x7 < (x0.size : Int) then (if (bt x0 x7) = x1 then (if 0 ≤ x6 then (if x6 ≤ x7 then (if x5.length < 8796093022208 then (spec_SplitByte.l0 k x0 x1 (x5 ++ [x0.extract (x6 : Int).toNat (x7 : Int).toNat]) (wrap64 (x7 + 1)) (wrap64 (x7 + 1))) else (none)) else (none)) else (none)) else (spec_SplitByte.l0 k x0 x1 x5 x6 (wrap64 (x7 + 1)))) else (none)) else (none))) else (some x5)
def spec_SplitByte.f (k : Nat) (a0 : ByteArray) (a1 : Int) : Option (List ByteArray) := spec_SplitByte.l0 k a0 a1 (([] : List ByteArray)) 0 0
theorem spec_SplitByte.mono_l : ∀ k, (∀ y0 y1 y2 y3 y4, LeO (spec_SplitByte.l0 k y0 y1 y2 y3 y4) (spec_SplitByte.l0 (k + 1) y0 y1 y2 y3 y4))
  | 0 => fun _ _ _ _ _ r h => by simp [spec_SplitByte.l0] at h
  | k + 1 => by
    have ih0 := spec_SplitByte.mono_l k
    · intro y0 y1 y2 y3 y4
      unfold spec_SplitByte.l0
      repeat' first
      | (with_reducible exact ih0 _ _ _ _ _)
      | (with_reducible exact LeO.refl _)
      | (with_reducible exact LeO.none _)
      | (with_reducible refine LeO.ite ?_ ?_)
      | (with_reducible refine LeO.bind ?_ (fun _ => ?_))
      | exact ih0 _ _ _ _ _
      | exact LeO.none _
      | refine LeO.ite ?_ ?_
      | refine LeO.bind ?_ (fun _ => ?_)
theorem spec_SplitByte.mono : ∀ a0 a1 k, LeO (spec_SplitByte.f k a0 a1) (spec_SplitByte.f (k + 1) a0 a1) := by
  intro a0 a1 k
  have ih0 := spec_SplitByte.mono_l k
  unfold spec_SplitByte.f
  repeat' first
      | (with_reducible exact ih0 _ _ _ _ _)
      | (with_reducible exact LeO.refl _)
      | (with_reducible exact LeO.none _)
      | (with_reducible refine LeO.ite ?_ ?_)
      | (with_reducible refine LeO.bind ?_ (fun _ => ?_))
      | exact ih0 _ _ _ _ _
      | exact LeO.none _
      | refine LeO.ite ?_ ?_
      | refine LeO.bind ?_ (fun _ => ?_)
set_option maxHeartbeats 8000000 in
set_option maxRecDepth 100000 in
theorem spec_SplitByte.calls (k : Nat) (a0 : ByteArray) (a1 : Int) (r : List ByteArray) (w : World) (h : spec_SplitByte.f k a0 a1 = some r) :
    Calls Tryz.prog 39 #[.string a0, .int .u8 a1] w fun e w' => ∃ v0_ : Value, e = .returned (v0_) ∧ Kd.R Kd.string 9 w' w.heap.size (fun _ => True) v0_ r ∧ Below w.heap.size w w' := by
  have HB := Aside0.mk (Below.refl w.heap.size w)
  have H : (spec_SplitByte.l0 k a0 a1 (([] : List ByteArray)) 0 0) = some r := h
  clear h
  obtain ⟨y456, hy456⟩ : ∃ y_ : List ByteArray, y_ = (([] : List ByteArray)) := ⟨_, rfl⟩
  replace H : (spec_SplitByte.l0 k a0 a1 y456 0 0) = some r := by first | (rw [hy456]; with_reducible exact H) | (have H2_ := (Option.bind_some _ _).symm.trans H; rw [hy456]; with_reducible exact H2_) | (have H2_ := (Option.bind_some _ _).symm.trans H; with_reducible exact H2_) | with_reducible exact H | (rw [hy456]; exact H) | exact H
  have Ny456 := Aside0.mk hy456
  clear hy456
  have H' := Aside0.mk H
  clear H
  go_enter Tryz.func39, Tryz.ntmps39
  go_wp2_with (first | ((with_reducible refine gate_dst (N := 8) rfl ?_); refine Kd.R_lit Kd.string _ 9 ?hg (N := 8) ?hd (xs := ([] : List ByteArray)) (inner := []) (ok := fun _ => True) (okp := fun _ => True) ?hr ?hp (fun _ hk => hk) trivial (Below.refl _ _) (Nat.le_refl _) (by simp) ?_; (case hd => rfl); (case hg => rfl); (case hr => first | (go_simp; done) | (go_simp; rfl)); (case hp => exact (Reps.none _ _)); intro v457 w3 ho4 hb hg_ hnew_; clear hg_ hnew_; (first | rw [← Ny456.out] at ho4 | (simp only [Int.reduceToNat] at ho4; rw [← Ny456.out] at ho4)); have HO458 := Aside0.mk (Kd.R_lower ho4 (below_size hB_)); replace HB := kH HB hb; clear hb ho4))
  go_loopg [5, 6, 7] k (fun kq v5 v6 v7 w' => ∃ (x5_1 : List ByteArray) (x6_1 : Int) (x7_1 : Int), v6 = .int .i64 x6_1 ∧ v7 = .int .i64 x7_1 ∧ Aside0 (spec_SplitByte.l0 kq a0 a1 x5_1 x6_1 x7_1 = some r) ∧ Aside0 (kq ≤ k) ∧ Aside0 (Kd.R Kd.string 9 w' w.heap.size (fun _ => True) v5 x5_1) ∧ Aside0 (Below w.heap.size w w'))
  case atStart => exact ⟨(y456), (0), (0), (by first | rfl | (simp; done) | (simp [*]; done)), (by first | rfl | (simp; done) | (simp [*]; done)), H', ⟨Nat.le_refl _⟩, ⟨by (with_reducible repeat (first | apply Kd.R_alloc | apply Kd.R_drewN | apply Kd.R_drew)); exact HO458.out⟩, ⟨hB_⟩⟩
  case round =>
    clear H'
    try clear p2
    try clear c3
    obtain ⟨x5_1, x6_1, x7_1, rfl, rfl, HA, HK1, HO_5, HB⟩ := hrel
    cases gk with
    | zero => exact absurd HA.out (by simp [spec_SplitByte.l0])
    | succ k1 =>
      have H := HA.out
      clear HA
      simp only [spec_SplitByte.l0] at H
      by_cases c5 : x7_1 ≤ (a0.size : Int)
      · rw [if_pos c5] at H
        have c5b0 : decide (x7_1 ≤ (a0.size : Int)) = true := decide_eq_true c5
        clear c5
        by_cases c6 : x7_1 = (a0.size : Int)
        · rw [if_pos c6] at H
          have c6b0 : (x7_1 == (a0.size : Int)) = true := beq_iff_eq.mpr c6
          have c6b1 : (x7_1 != (a0.size : Int)) = false := bne_eq_false_iff_eq.mpr c6
          clear c6
          by_cases c7 : 0 ≤ x6_1
          · rw [if_pos c7] at H
            have c7b0 := eq_true c7
            have c7b1 : decide (0 ≤ x6_1) = true := decide_eq_true c7
            clear c7
            by_cases c8 : x6_1 ≤ x7_1
            · rw [if_pos c8] at H
              have c8b0 := eq_true c8
              have c8b1 : decide (x6_1 ≤ x7_1) = true := decide_eq_true c8
              clear c8
              have c9b0 := eq_true (of_decide_eq_true (by first | (with_reducible assumption) | assumption) : x7_1 ≤ (a0.size : Int))
              by_cases c10 : x5_1.length < 8796093022208
              · rw [if_pos c10] at H
                have LMc10 := Aside0.mk c10
                clear c10
                obtain ⟨y459, hy459⟩ : ∃ y_ : List ByteArray, y_ = (x5_1 ++ [a0.extract (x6_1 : Int).toNat (x7_1 : Int).toNat]) := ⟨_, rfl⟩
                replace H : (spec_SplitByte.l0 k1 a0 a1 y459 (wrap64 (x7_1 + 1)) (wrap64 (x7_1 + 1))) = some r := by first | (rw [hy459]; with_reducible exact H) | (have H2_ := (Option.bind_some _ _).symm.trans H; rw [hy459]; with_reducible exact H2_) | (have H2_ := (Option.bind_some _ _).symm.trans H; with_reducible exact H2_) | with_reducible exact H | (rw [hy459]; exact H) | exact H
                have Ny459 := Aside0.mk hy459
                clear hy459
                have H' := Aside0.mk H
                clear H
                go_wp2_with (first | ((with_reducible refine gate_builtin (b := .append) (xs := #[.tmp 26, .tmp 31]) rfl ?_); at_builtin; refine Kd.R_append Kd.string (w0 := w) w.heap.size rfl (.tmp 26) (.tmp 31) 50 9 (.string ⟨#[]⟩) 16 rfl Tryz.underlying50 info9 rfl (by decide) (by omega) u5 x5_1 (a0.extract (x6_1 : Int).toNat (x7_1 : Int).toNat) [.string (a0.extract (x6_1 : Int).toNat (x7_1 : Int).toNat)] (fun _ => True) (fun _ => False) rfl rfl ?aP (fun _ hk => hk.elim) ?aF ?aO ?aB ?aS ?aL ?_; (case aP => exact rfl); (case aB => exact hB_); (case aF => exact (fun _ _ => trivial)); (case aO => exact (rW HO_5.out)); (case aS => exact (below_size hB_)); (case aL => have := LMc10.out; omega); intro v460 w11 ho hb hg hat; rw [← Ny459.out] at ho; replace HB := Aside0.mk (hb); have HO461 := Aside0.mk (ho); clear HO_5; clear ho hb hg hat))
                go_roundg k1
                case measure => have := HK1.out; omega
                case rel => exact ⟨(y459), (wrap64 (x7_1 + 1)), (wrap64 (x7_1 + 1)), (by first | rfl | (simp; done) | (simp [*]; done)), (by first | rfl | (simp; done) | (simp [*]; done)), H', ⟨by have := HK1.out; omega⟩, ⟨by (with_reducible repeat (first | apply Kd.R_alloc | apply Kd.R_drewN | apply Kd.R_drew)); exact HO461.out⟩, ⟨hB_⟩⟩
              · rw [if_neg c10] at H
                exact absurd H (by simp)
            · rw [if_neg c8] at H
              exact absurd H (by simp)
          · rw [if_neg c7] at H
            exact absurd H (by simp)
        · rw [if_neg c6] at H
          have c6b0 : (x7_1 == (a0.size : Int)) = false := beq_eq_false_iff_ne.mpr c6
          have c6b1 : (x7_1 != (a0.size : Int)) = true := bne_iff_ne.mpr c6
          by_cases c12 : 0 ≤ x7_1
          · rw [if_pos c12] at H
            have c12b0 : decide (0 ≤ x7_1) = true := decide_eq_true c12
            clear c12
            by_cases c13 : x7_1 < (a0.size : Int)
            · rw [if_pos c13] at H
              have c13b0 : decide (x7_1 < (a0.size : Int)) = true := decide_eq_true c13
              clear c13
              by_cases c15 : (bt a0 x7_1) = a1
              · rw [if_pos c15] at H
                have c15b0 : ((bt a0 x7_1) == a1) = true := beq_iff_eq.mpr c15
                have c15b1 : ((bt a0 x7_1) != a1) = false := bne_eq_false_iff_eq.mpr c15
                clear c15
                by_cases c16 : 0 ≤ x6_1
                · rw [if_pos c16] at H
                  have c16b0 := eq_true c16
                  have c16b1 : decide (0 ≤ x6_1) = true := decide_eq_true c16
                  clear c16
                  by_cases c17 : x6_1 ≤ x7_1
                  · rw [if_pos c17] at H
                    have c17b0 := eq_true c17
                    have c17b1 : decide (x6_1 ≤ x7_1) = true := decide_eq_true c17
                    clear c17
                    have c18b0 := eq_true (of_decide_eq_true (by first | (with_reducible assumption) | assumption) : x7_1 ≤ (a0.size : Int))
                    by_cases c19 : x5_1.length < 8796093022208
                    · rw [if_pos c19] at H
                      have LMc19 := Aside0.mk c19
                      clear c19
                      obtain ⟨y462, hy462⟩ : ∃ y_ : List ByteArray, y_ = (x5_1 ++ [a0.extract (x6_1 : Int).toNat (x7_1 : Int).toNat]) := ⟨_, rfl⟩
                      replace H : (spec_SplitByte.l0 k1 a0 a1 y462 (wrap64 (x7_1 + 1)) (wrap64 (x7_1 + 1))) = some r := by first | (rw [hy462]; with_reducible exact H) | (have H2_ := (Option.bind_some _ _).symm.trans H; rw [hy462]; with_reducible exact H2_) | (have H2_ := (Option.bind_some _ _).symm.trans H; with_reducible exact H2_) | with_reducible exact H | (rw [hy462]; exact H) | exact H
                      have Ny462 := Aside0.mk hy462
                      clear hy462
                      have H' := Aside0.mk H
                      clear H
                      have p14 : 0 ≤ (x7_1 : Int) := of_decide_eq_true (by first | (with_reducible assumption) | assumption)
                      have q14 : x7_1 < (a0.size : Int) := of_decide_eq_true (by first | (with_reducible assumption) | assumption)
                      have hx14 := bt_at a0 x7_1
                      replace p14 := eq_true p14
                      replace q14 := eq_true q14
                      go_wp2_with (first | ((with_reducible refine gate_builtin (b := .append) (xs := #[.tmp 26, .tmp 31]) rfl ?_); at_builtin; refine Kd.R_append Kd.string (w0 := w) w.heap.size rfl (.tmp 26) (.tmp 31) 50 9 (.string ⟨#[]⟩) 16 rfl Tryz.underlying50 info9 rfl (by decide) (by omega) u5 x5_1 (a0.extract (x6_1 : Int).toNat (x7_1 : Int).toNat) [.string (a0.extract (x6_1 : Int).toNat (x7_1 : Int).toNat)] (fun _ => True) (fun _ => False) rfl rfl ?aP (fun _ hk => hk.elim) ?aF ?aO ?aB ?aS ?aL ?_; (case aP => exact rfl); (case aB => exact hB_); (case aF => exact (fun _ _ => trivial)); (case aO => exact (rW HO_5.out)); (case aS => exact (below_size hB_)); (case aL => have := LMc19.out; omega); intro v463 w20 ho hb hg hat; rw [← Ny462.out] at ho; replace HB := Aside0.mk (hb); have HO464 := Aside0.mk (ho); clear HO_5; clear ho hb hg hat))
                      go_roundg k1
                      case measure => have := HK1.out; omega
                      case rel => exact ⟨(y462), (wrap64 (x7_1 + 1)), (wrap64 (x7_1 + 1)), (by first | rfl | (simp; done) | (simp [*]; done)), (by first | rfl | (simp; done) | (simp [*]; done)), H', ⟨by have := HK1.out; omega⟩, ⟨by (with_reducible repeat (first | apply Kd.R_alloc | apply Kd.R_drewN | apply Kd.R_drew)); exact HO464.out⟩, ⟨hB_⟩⟩
                    · rw [if_neg c19] at H
                      exact absurd H (by simp)
                  · rw [if_neg c17] at H
                    exact absurd H (by simp)
                · rw [if_neg c16] at H
                  exact absurd H (by simp)
              · rw [if_neg c15] at H
                have c15b0 : ((bt a0 x7_1) == a1) = false := beq_eq_false_iff_ne.mpr c15
                have c15b1 : ((bt a0 x7_1) != a1) = true := bne_iff_ne.mpr c15
                have H' := Aside0.mk H
                clear H
                have p14 : 0 ≤ (x7_1 : Int) := of_decide_eq_true (by first | (with_reducible assumption) | assumption)
                have q14 : x7_1 < (a0.size : Int) := of_decide_eq_true (by first | (with_reducible assumption) | assumption)
                have hx14 := bt_at a0 x7_1
                replace p14 := eq_true p14
                replace q14 := eq_true q14
                go_wp2
                go_roundg k1
                case measure => have := HK1.out; omega
                case rel => exact ⟨(x5_1), (x6_1), (wrap64 (x7_1 + 1)), (by first | rfl | (simp; done) | (simp [*]; done)), (by first | rfl | (simp; done) | (simp [*]; done)), H', ⟨by have := HK1.out; omega⟩, ⟨by (with_reducible repeat (first | apply Kd.R_alloc | apply Kd.R_drewN | apply Kd.R_drew)); exact HO_5.out⟩, ⟨hB_⟩⟩
            · rw [if_neg c13] at H
              exact absurd H (by simp)
          · rw [if_neg c12] at H
            exact absurd H (by simp)
      · rw [if_neg c5] at H
        have c5b0 : decide (x7_1 ≤ (a0.size : Int)) = false := decide_eq_false c5
        clear c5
        obtain rfl := Option.some.inj H
        go_wp2
        go_ret
        exact ⟨_, eR_, by (with_reducible repeat (first | apply Kd.R_alloc | apply Kd.R_drewN | apply Kd.R_drew)); exact HO_5.out, hB_⟩

end Go.Proofs.YtgmnmimaeklfeaaGreatDoor.PFnContexts
