-- Written by a program of this session (wip/myprint.py), which runs the kit's print with contracts proved by hand; not the kit's own print. Lean checks it.
import Derived.Test.YtgmnmimaeklfeaaGreatDoorPFnContextsx0
import Derived.Test.YtgmnmimaeklfeaaGreatDoorPFnContextsx1
import Derived.Test.YtgmnmimaeklfeaaGreatDoorPFnContextsx2
import Derived.Test.YtgmnmimaeklfeaaGreatDoorPFnContextsx3
import Derived.Test.YtgmnmimaeklfeaaGreatDoorPFnContextsx8
namespace Go.Proofs.YtgmnmimaeklfeaaGreatDoor.PFnContexts
open Go.RowKit Go.Proofs.YtgmnmimaeklfeaaGreatDoorW.PrintWords Go.Proofs.YtgmnmimaeklfeaaGreatDoorW.PrintLast Go.Proofs.YtgmnmimaeklfeaaGreatDoorW.PrintMore
attribute [local go_sem] max2_int min2_int max_two min_two max_three min_three max_four min_four   -- for this text's walks alone
set_option linter.unusedVariables false
set_option linter.unusedSimpArgs false

/-! ### spec_l1Turned: function 34 -/
def spec_l1Turned.f (s0_0 : List Int) (s0_1 : Int) (s0_2 : Int) (a1 : ByteArray) (l2 : List ByteArray) : Option (ByteArray × Int × Int) := (spec_l1Below.f s0_0 s0_1 s0_2 (wrap64 ((a1.size : Int) + 1))).bind fun bt387 => ((spec_l1Below.f s0_0 bt387.2.1 bt387.2.2 6).bind fun bt390 => (if bt390.1 = 0 then (if 0 ≤ bt387.1 then (if bt387.1 ≤ (a1.size : Int) then ((spec_l1Pick.f s0_0 bt390.2.1 bt390.2.2 l2).bind fun bt393 => (if (a1.extract 0 (bt387.1 : Int).toNat).size + bt393.1.size ≤ 9223372036854775807 then (if (a1.extract 0 (bt387.1 : Int).toNat).size + bt393.1.size + (a1.extract (bt387.1 : Int).toNat a1.size).size ≤ 9223372036854775807 then (some (((a1.extract 0 (bt387.1 : Int).toNat) ++ bt393.1) ++ (a1.extract (bt387.1 : Int).toNat a1.size), bt393.2.1, bt393.2.2)) else (none)) else (none))) else (none)) else (none)) else (if bt390.1 = 1 then (if 0 ≤ bt387.1 then (if bt387.1 ≤ (a1.size : Int) then (some (a1.extract 0 (bt387.1 : Int).toNat, bt390.2.1, bt390.2.2)) else (none)) else (none)) else (some (a1, bt390.2.1, bt390.2.2)))))
def spec_l1Turned.T4 : Bool × List (List Nat × List Nat) := (true, [([], []), ([], []), ([0, 1], [0, 1]), ([], []), ([], []), ([3, 4], [3, 4]), ([2, 5], [2, 5]), ([], []), ([], []), ([7, 8], [7, 8]), ([6, 9], [6, 9]), ([10, 5, 0, 1, 2, 3, 4, 5, 6, 7, 8, 9, 10], [10])])
def spec_l1Turned.B4 : List Nat := [0, 0, 3, 0, 0, 24, 63, 0, 0, 384, 1023, 2047]
theorem spec_l1Turned.tab4 : rtab .any (opsOf Tryz.f34 4) = spec_l1Turned.T4 := by kernel_rfl
theorem spec_l1Turned.bits4 : waitsOk spec_l1Turned.T4.2 spec_l1Turned.B4 = true := by kernel_rfl
set_option maxHeartbeats 8000000 in
set_option maxRecDepth 100000 in
theorem spec_l1Turned.calls (g : Nat) (s0_0 : List Int) (s0_1 : Int) (s0_2 : Int) (a1 : ByteArray) (A2 : Option Addr) (c2 : Nat) (l2 : List ByteArray) (r1 : ByteArray) (r2 : Int) (r3 : Int) (w0 w : World) (hI : IsS69 w0 w g s0_0 s0_1 s0_2) (hB : Below w0.heap.size w0 w) (hr2 : Kd.C Kd.string w A2 l2.length l2) (hc2 : l2.length ≤ c2) (hf2 : ∀ ad, A2 = some ad → 0 < l2.length → ad.block ≠ g) (h : spec_l1Turned.f s0_0 s0_1 s0_2 a1 l2 = some (r1, r2, r3)) :
    Calls Tryz.prog 34 #[.pointer (some ⟨g, 0, none⟩), .string a1, .slice A2 l2.length c2] w fun e w' => e = .returned (.string r1) ∧ IsS69 w0 w' g s0_0 r2 r3 ∧ Below w0.heap.size w0 w' ∧ KeepBut w w' g none := by
  have HR2 := Aside0.mk hr2
  have HC2 := Aside0.mk hc2
  clear hr2 hc2
  have HI0 := Aside0.mk hI
  have HK := Aside0.mk (KeepBut.refl w g none)
  have HL := Aside0.mk hB.size
  clear hI
  have HW0 := Aside0.mk hB.size
  have HB := Aside0.mk hB
  clear hB
  have H : ((spec_l1Below.f s0_0 s0_1 s0_2 (wrap64 ((a1.size : Int) + 1))).bind fun bt387 => ((spec_l1Below.f s0_0 bt387.2.1 bt387.2.2 6).bind fun bt390 => (if bt390.1 = 0 then (if 0 ≤ bt387.1 then (if bt387.1 ≤ (a1.size : Int) then ((spec_l1Pick.f s0_0 bt390.2.1 bt390.2.2 l2).bind fun bt393 => (if (a1.extract 0 (bt387.1 : Int).toNat).size + bt393.1.size ≤ 9223372036854775807 then (if (a1.extract 0 (bt387.1 : Int).toNat).size + bt393.1.size + (a1.extract (bt387.1 : Int).toNat a1.size).size ≤ 9223372036854775807 then (some (((a1.extract 0 (bt387.1 : Int).toNat) ++ bt393.1) ++ (a1.extract (bt387.1 : Int).toNat a1.size), bt393.2.1, bt393.2.2)) else (none)) else (none))) else (none)) else (none)) else (if bt390.1 = 1 then (if 0 ≤ bt387.1 then (if bt387.1 ≤ (a1.size : Int) then (some (a1.extract 0 (bt387.1 : Int).toNat, bt390.2.1, bt390.2.2)) else (none)) else (none)) else (some (a1, bt390.2.1, bt390.2.2)))))) = some (r1, r2, r3) := h
  clear h
  replace H := aB H
  obtain ⟨⟨t387, t388, t389⟩, A4, H⟩ := H
  dsimp only at H
  replace H := aB H
  obtain ⟨⟨t390, t391, t392⟩, A5, H⟩ := H
  dsimp only at H
  by_cases c6 : t390 = 0
  · rw [if_pos c6] at H
    have c6b0 : (t390 == 0) = true := beq_iff_eq.mpr c6
    have c6b1 : (t390 != 0) = false := bne_eq_false_iff_eq.mpr c6
    clear c6
    by_cases c7 : 0 ≤ t387
    · rw [if_pos c7] at H
      have c7b0 := eq_true c7
      have c7b1 : decide (0 ≤ t387) = true := decide_eq_true c7
      clear c7
      by_cases c8 : t387 ≤ (a1.size : Int)
      · rw [if_pos c8] at H
        have c8b0 := eq_true c8
        have c8b1 : decide (t387 ≤ (a1.size : Int)) = true := decide_eq_true c8
        clear c8
        replace H := aB H
        obtain ⟨⟨t393, t394, t395⟩, A9, H⟩ := H
        dsimp only at H
        by_cases c10 : (a1.extract 0 (t387 : Int).toNat).size + t393.size ≤ 9223372036854775807
        · rw [if_pos c10] at H
          have c10b0 := eq_true c10
          have c10b1 : decide ((a1.extract 0 (t387 : Int).toNat).size + t393.size ≤ 9223372036854775807) = true := decide_eq_true c10
          try have c10b2 : (9223372036854775807 < (a1.extract 0 (t387 : Int).toNat).size + t393.size) = False := eq_false (Nat.not_lt.2 c10)
          try have c10b3 : (9223372036854775807 < t387.toNat + t393.size) = False := eq_false (by have p0_ : t387 ≤ (a1.size : Int) := of_decide_eq_true (by assumption); have q_ := c10; simp only [ByteArray.size_extract] at q_; omega)
          have c11b0 := eq_true (of_decide_eq_true (by first | (with_reducible assumption) | assumption) : 0 ≤ t387)
          have c12b0 := eq_true (of_decide_eq_true (by first | (with_reducible assumption) | assumption) : t387 ≤ (a1.size : Int))
          by_cases c13 : (a1.extract 0 (t387 : Int).toNat).size + t393.size + (a1.extract (t387 : Int).toNat a1.size).size ≤ 9223372036854775807
          · rw [if_pos c13] at H
            have c13b0 := eq_true c13
            have c13b1 : decide ((a1.extract 0 (t387 : Int).toNat).size + t393.size + (a1.extract (t387 : Int).toNat a1.size).size ≤ 9223372036854775807) = true := decide_eq_true c13
            try have c13b2 : (9223372036854775807 < (a1.extract 0 (t387 : Int).toNat).size + t393.size + (a1.extract (t387 : Int).toNat a1.size).size) = False := eq_false (Nat.not_lt.2 c13)
            try have c13b3 : (9223372036854775807 < t387.toNat + t393.size + (a1.size - t387.toNat)) = False := eq_false (by have p0_ : t387 ≤ (a1.size : Int) := of_decide_eq_true (by assumption); have q_ := c13; simp only [ByteArray.size_extract] at q_; omega)
            simp only [Option.some.injEq, Prod.mk.injEq] at H
            obtain ⟨rfl, rfl, rfl⟩ := H
            go_enter Tryz.func34, Tryz.ntmps34
            try go_wp2_with (first | ((with_reducible refine gate_callee (f := 29) rfl ?_); refine goesL_ (some 12) rfl rfl Tryz.func29 (by kernel_rfl) rfl #[.pointer (some ⟨g, 0, none⟩), .int .i64 (wrap64 ((a1.size : Int) + 1))] rfl gL_ ?_; (with_reducible refine (spec_l1Below.calls g s0_0 s0_1 s0_2 (wrap64 ((a1.size : Int) + 1)) t387 t388 t389 w0 _ ?side1 ?side2 A4.out).mono ?_); (case side1 => exact hI69_HI0); (case side2 => exact hC69_); rintro e w14 ⟨rfl, hi, hb, hk⟩; refine ⟨_, rfl, ?_⟩; replace HK := kJ HK hk; replace HB := Aside0.mk (hb); replace HI0 := Aside0.mk (hi); clear hb hk hi) | ((with_reducible refine gate_callee (f := 29) rfl ?_); refine goesL_ (some 14) rfl rfl Tryz.func29 (by kernel_rfl) rfl #[.pointer (some ⟨g, 0, none⟩), .int .i64 6] rfl gL_ ?_; (with_reducible refine (spec_l1Below.calls g s0_0 t388 t389 6 t390 t391 t392 w0 _ ?side1 ?side2 A5.out).mono ?_); (case side1 => exact hI69_HI0); (case side2 => exact hC69_); rintro e w15 ⟨rfl, hi, hb, hk⟩; refine ⟨_, rfl, ?_⟩; replace HK := kJ HK hk; replace HB := Aside0.mk (hb); replace HI0 := Aside0.mk (hi); clear hb hk hi))
            replace HI0 := Aside0.mk (IsS69.drew HI0.out)
            replace HK := Aside0.mk (keep_drew HK.out)
            replace HB := Aside0.mk (below_drew1 HB.out)
            refine start_ (n := 12) (S := fun w' => True) (ds := []) #[false, false, false, false, false, false, false, false, false, false, false, false] (by kernel_rfl) rfl rfl trivial (fun hHeld => ?_); refine with_tabW spec_l1Turned.tab4 spec_l1Turned.bits4 (fun HT_ HW_ => ?_)
            generalize w15.drew = w16 at HI0 HK HB hHeld ⊢
            refine pure_ (i := 0) (N := some 17) (v := ?_) (a' := ?_) (nb 12 1) rfl rfl (any_of HT_.out (by kernel_rfl)) (fun _ _ _ h => h) (Or.inl ⟨by rfl, ?_⟩) ?_ ?_
            rotate_left
            · intro w'
              go_simp
              with_reducible rfl
            rotate_left
            · simp only [Act.put, List.setIfInBounds_toArray, List.set_cons_zero, List.set_cons_succ, i64_w, i32_w]
              rfl
            refine pure_ (i := 1) (N := some 18) (v := ?_) (a' := ?_) (nb 12 3) rfl rfl (any_of HT_.out (by kernel_rfl)) (fun _ _ _ h => h) (Or.inl ⟨by rfl, ?_⟩) ?_ ?_
            rotate_left
            · intro w'
              go_simp
              with_reducible rfl
            rotate_left
            · simp only [Act.put, List.setIfInBounds_toArray, List.set_cons_zero, List.set_cons_succ, i64_w, i32_w]
              rfl
            refine pure_ (i := 2) (N := some 19) (v := ?_) (a' := ?_) (nb 12 7) rfl rfl (any_of HT_.out (by kernel_rfl)) (fun _ _ _ h => h) (Or.inl ⟨by rfl, ?_⟩) ?_ ?_
            rotate_left
            · intro w'
              go_simp
              with_reducible rfl
            rotate_left
            · simp only [Act.put, List.setIfInBounds_toArray, List.set_cons_zero, List.set_cons_succ, i64_w, i32_w]
              rfl
            refine pure_ (i := 3) (N := some 20) (v := ?_) (a' := ?_) (nb 12 15) rfl rfl (any_of HT_.out (by kernel_rfl)) (fun _ _ _ h => h) (Or.inl ⟨by rfl, ?_⟩) ?_ ?_
            rotate_left
            · intro w'
              go_simp
              with_reducible rfl
            rotate_left
            · simp only [Act.put, List.setIfInBounds_toArray, List.set_cons_zero, List.set_cons_succ, i64_w, i32_w]
              rfl
            refine pure_ (i := 4) (N := some 21) (v := ?_) (a' := ?_) (nb 12 31) rfl rfl (any_of HT_.out (by kernel_rfl)) (fun _ _ _ h => h) (Or.inl ⟨by rfl, ?_⟩) ?_ ?_
            rotate_left
            · intro w'
              go_simp
              with_reducible rfl
            rotate_left
            · simp only [Act.put, List.setIfInBounds_toArray, List.set_cons_zero, List.set_cons_succ, i64_w, i32_w]
              rfl
            refine pure_ (i := 7) (N := some 24) (v := ?_) (a' := ?_) (nb 12 159) rfl rfl (any_of HT_.out (by kernel_rfl)) (fun _ _ _ h => h) (Or.inl ⟨by rfl, ?_⟩) ?_ ?_
            rotate_left
            · intro w'
              go_simp
              with_reducible rfl
            rotate_left
            · simp only [Act.put, List.setIfInBounds_toArray, List.set_cons_zero, List.set_cons_succ, i64_w, i32_w]
              rfl
            refine pure_ (i := 8) (N := some 25) (v := ?_) (a' := ?_) (nb 12 415) rfl rfl (any_of HT_.out (by kernel_rfl)) (fun _ _ _ h => h) (Or.inl ⟨by rfl, ?_⟩) ?_ ?_
            rotate_left
            · intro w'
              go_simp
              with_reducible rfl
            rotate_left
            · simp only [Act.put, List.setIfInBounds_toArray, List.set_cons_zero, List.set_cons_succ, i64_w, i32_w]
              rfl
            refine pure_ (i := 9) (N := some 26) (v := ?_) (a' := ?_) (nb 12 927) rfl rfl (any_of HT_.out (by kernel_rfl)) (fun _ _ _ h => h) (Or.inl ⟨by rfl, ?_⟩) ?_ ?_
            rotate_left
            · intro w'
              go_simp
              with_reducible rfl
            rotate_left
            · simp only [Act.put, List.setIfInBounds_toArray, List.set_cons_zero, List.set_cons_succ, i64_w, i32_w]
              rfl
            refine one_ (i := 5) (N := some 22) (nb 12 959) rfl rfl (one_of HT_.out (by kernel_rfl)) (by decide) (fun K hK => ?_)
            refine goes_ Tryz.func59 (by kernel_rfl) rfl #[.pointer (some ⟨g, 0, none⟩), .slice A2 l2.length c2] (by rfl) rfl rfl gL_ ?_
            with_reducible refine (spec_l1Pick.calls g s0_0 t391 t392 _ _ l2 t393 t394 t395 w0 _ ?side1 ?side2 ?side3 ?side4 ?side5 A9.out).mono ?_
            (case side1 => exact hI69_HI0)
            (case side2 => exact hC69_)
            (case side3 => exact Kd.C_keep (⟨#[]⟩ : ByteArray) HR2.out hK_ hf2)
            (case side4 => exact HC2.out)
            (case side5 => exact hf2)
            rintro e w17 ⟨rfl, hi, hb, hk⟩
            refine ⟨_, rfl, ?_⟩
            replace HK := kJ HK hk
            replace HB := Aside0.mk (hb)
            replace HI0 := Aside0.mk (hi)
            (try clear hb)
            (try clear hb2)
            (try clear hk)
            (try clear hi)
            refine hK.out _ _ trivial (fun hHeld => ?_)
            clear hK K
            refine norm_ (a' := ?_) ?_ ?_
            rotate_left
            · show Act.put _ (some 22) _ = _
              simp only [Act.put, List.setIfInBounds_toArray, List.set_cons_zero, List.set_cons_succ, i64_w, i32_w]
              rfl
            refine pure_ (i := 6) (N := some 23) (v := ?_) (a' := ?_) (nb 12 1023) rfl rfl (any_of HT_.out (by kernel_rfl)) (fun _ _ _ h => h) (Or.inl ⟨by rfl, ?_⟩) ?_ ?_
            rotate_left
            · intro w'
              go_simp
              with_reducible rfl
            rotate_left
            · simp only [Act.put, List.setIfInBounds_toArray, List.set_cons_zero, List.set_cons_succ, i64_w, i32_w]
              rfl
            refine pure_ (i := 10) (N := some 27) (v := ?_) (a' := ?_) (nb 12 2047) rfl rfl (any_of HT_.out (by kernel_rfl)) (fun _ _ _ h => h) (Or.inl ⟨by rfl, ?_⟩) ?_ ?_
            rotate_left
            · intro w'
              go_simp
              with_reducible rfl
            rotate_left
            · simp only [Act.put, List.setIfInBounds_toArray, List.set_cons_zero, List.set_cons_succ, i64_w, i32_w]
              rfl
            refine pure_ (i := 11) (N := some 6) (v := ?_) (a' := ?_) (nb 12 4095) rfl rfl (any_of HT_.out (by kernel_rfl)) (fun _ _ _ h => h) (Or.inl ⟨by rfl, ?_⟩) ?_ ?_
            rotate_left
            · intro w'
              go_simp
              with_reducible rfl
            rotate_left
            · simp only [Act.put, List.setIfInBounds_toArray, List.set_cons_zero, List.set_cons_succ, i64_w, i32_w]
              rfl
            refine done_ (done_of HT_.out (by kernel_rfl)) ?_
            try go_wp2
            go_ret
            exact ⟨eR_, hI69_HI0, hC69_, hK_⟩
          · rw [if_neg c13] at H
            exact absurd H (by simp)
        · rw [if_neg c10] at H
          exact absurd H (by simp)
      · rw [if_neg c8] at H
        exact absurd H (by simp)
    · rw [if_neg c7] at H
      exact absurd H (by simp)
  · rw [if_neg c6] at H
    have c6b0 : (t390 == 0) = false := beq_eq_false_iff_ne.mpr c6
    have c6b1 : (t390 != 0) = true := bne_iff_ne.mpr c6
    by_cases c18 : t390 = 1
    · rw [if_pos c18] at H
      have c18b0 : (t390 == 1) = true := beq_iff_eq.mpr c18
      have c18b1 : (t390 != 1) = false := bne_eq_false_iff_eq.mpr c18
      clear c18
      by_cases c19 : 0 ≤ t387
      · rw [if_pos c19] at H
        have c19b0 := eq_true c19
        have c19b1 : decide (0 ≤ t387) = true := decide_eq_true c19
        clear c19
        by_cases c20 : t387 ≤ (a1.size : Int)
        · rw [if_pos c20] at H
          have c20b0 := eq_true c20
          have c20b1 : decide (t387 ≤ (a1.size : Int)) = true := decide_eq_true c20
          clear c20
          simp only [Option.some.injEq, Prod.mk.injEq] at H
          obtain ⟨rfl, rfl, rfl⟩ := H
          go_enter Tryz.func34, Tryz.ntmps34
          go_wp2_with (first | ((with_reducible refine gate_callee (f := 29) rfl ?_); refine goesL_ (some 12) rfl rfl Tryz.func29 (by kernel_rfl) rfl #[.pointer (some ⟨g, 0, none⟩), .int .i64 (wrap64 ((a1.size : Int) + 1))] rfl gL_ ?_; (with_reducible refine (spec_l1Below.calls g s0_0 s0_1 s0_2 (wrap64 ((a1.size : Int) + 1)) t387 t388 t389 w0 _ ?side1 ?side2 A4.out).mono ?_); (case side1 => exact hI69_HI0); (case side2 => exact hC69_); rintro e w21 ⟨rfl, hi, hb, hk⟩; refine ⟨_, rfl, ?_⟩; replace HK := kJ HK hk; replace HB := Aside0.mk (hb); replace HI0 := Aside0.mk (hi); clear hb hk hi) | ((with_reducible refine gate_callee (f := 29) rfl ?_); refine goesL_ (some 14) rfl rfl Tryz.func29 (by kernel_rfl) rfl #[.pointer (some ⟨g, 0, none⟩), .int .i64 6] rfl gL_ ?_; (with_reducible refine (spec_l1Below.calls g s0_0 t388 t389 6 t390 t391 t392 w0 _ ?side1 ?side2 A5.out).mono ?_); (case side1 => exact hI69_HI0); (case side2 => exact hC69_); rintro e w22 ⟨rfl, hi, hb, hk⟩; refine ⟨_, rfl, ?_⟩; replace HK := kJ HK hk; replace HB := Aside0.mk (hb); replace HI0 := Aside0.mk (hi); clear hb hk hi))
          go_ret
          exact ⟨eR_, hI69_HI0, hC69_, hK_⟩
        · rw [if_neg c20] at H
          exact absurd H (by simp)
      · rw [if_neg c19] at H
        exact absurd H (by simp)
    · rw [if_neg c18] at H
      have c18b0 : (t390 == 1) = false := beq_eq_false_iff_ne.mpr c18
      have c18b1 : (t390 != 1) = true := bne_iff_ne.mpr c18
      simp only [Option.some.injEq, Prod.mk.injEq] at H
      obtain ⟨rfl, rfl, rfl⟩ := H
      go_enter Tryz.func34, Tryz.ntmps34
      go_wp2_with (first | ((with_reducible refine gate_callee (f := 29) rfl ?_); refine goesL_ (some 12) rfl rfl Tryz.func29 (by kernel_rfl) rfl #[.pointer (some ⟨g, 0, none⟩), .int .i64 (wrap64 ((a1.size : Int) + 1))] rfl gL_ ?_; (with_reducible refine (spec_l1Below.calls g s0_0 s0_1 s0_2 (wrap64 ((a1.size : Int) + 1)) t387 t388 t389 w0 _ ?side1 ?side2 A4.out).mono ?_); (case side1 => exact hI69_HI0); (case side2 => exact hC69_); rintro e w23 ⟨rfl, hi, hb, hk⟩; refine ⟨_, rfl, ?_⟩; replace HK := kJ HK hk; replace HB := Aside0.mk (hb); replace HI0 := Aside0.mk (hi); clear hb hk hi) | ((with_reducible refine gate_callee (f := 29) rfl ?_); refine goesL_ (some 14) rfl rfl Tryz.func29 (by kernel_rfl) rfl #[.pointer (some ⟨g, 0, none⟩), .int .i64 6] rfl gL_ ?_; (with_reducible refine (spec_l1Below.calls g s0_0 t388 t389 6 t390 t391 t392 w0 _ ?side1 ?side2 A5.out).mono ?_); (case side1 => exact hI69_HI0); (case side2 => exact hC69_); rintro e w24 ⟨rfl, hi, hb, hk⟩; refine ⟨_, rfl, ?_⟩; replace HK := kJ HK hk; replace HB := Aside0.mk (hb); replace HI0 := Aside0.mk (hi); clear hb hk hi))
      go_ret
      exact ⟨eR_, hI69_HI0, hC69_, hK_⟩

/-! ### spec_DrawParseContext: function 13 -/
def spec_DrawParseContext.f (k : Nat) (l0 : List Int) : Option (ByteArray) := (spec_l1New.f k l0).bind fun bt396 => ((spec_l3Draw.f k bt396.1 bt396.2.1 bt396.2.2).bind fun bt400 => ((spec_ContextText.f k bt400.1 bt400.2.1).bind fun t406 => ((spec_l1Turned.f bt396.1 bt400.2.2.1 bt400.2.2.2 t406 (([(⟨#[97]⟩ : ByteArray), (⟨#[44]⟩ : ByteArray), (⟨#[32]⟩ : ByteArray), (⟨#[45]⟩ : ByteArray), (⟨#[110, 111, 110, 101]⟩ : ByteArray), (⟨#[52]⟩ : ByteArray)] : List ByteArray))).bind fun bt410 => (some bt410.1))))
theorem spec_DrawParseContext.mono : ∀ a0 k, LeO (spec_DrawParseContext.f k a0) (spec_DrawParseContext.f (k + 1) a0) := by
  intro a0 k
  unfold spec_DrawParseContext.f
  repeat' first
      | (with_reducible exact spec_ContextText.mono _ _ _)
      | (with_reducible exact spec_l1New.mono _ _)
      | (with_reducible exact spec_l3Draw.mono _ _ _ _)
      | (with_reducible exact LeO.refl _)
      | (with_reducible exact LeO.none _)
      | (with_reducible refine LeO.ite ?_ ?_)
      | (with_reducible refine LeO.bind ?_ (fun _ => ?_))
      | exact spec_ContextText.mono _ _ _
      | exact spec_l1New.mono _ _
      | exact spec_l3Draw.mono _ _ _ _
      | exact LeO.none _
      | refine LeO.ite ?_ ?_
      | refine LeO.bind ?_ (fun _ => ?_)
set_option maxHeartbeats 8000000 in
set_option maxRecDepth 100000 in
theorem spec_DrawParseContext.calls (k : Nat) (A0 : Option Addr) (c0 : Nat) (l0 : List Int) (r : ByteArray) (w : World) (hr0 : Kd.C (Kd.int .u8) w A0 l0.length l0) (hc0 : l0.length ≤ c0) (h : spec_DrawParseContext.f k l0 = some r) :
    Calls Tryz.prog 13 #[.slice A0 l0.length c0] w fun e w' => e = .returned (.string r) ∧ Below w.heap.size w w' := by
  have HR0 := Aside0.mk hr0
  have HC0 := Aside0.mk hc0
  clear hr0 hc0
  have HB := Aside0.mk (Below.refl w.heap.size w)
  have H : ((spec_l1New.f k l0).bind fun bt396 => ((spec_l3Draw.f k bt396.1 bt396.2.1 bt396.2.2).bind fun bt400 => ((spec_ContextText.f k bt400.1 bt400.2.1).bind fun t406 => ((spec_l1Turned.f bt396.1 bt400.2.2.1 bt400.2.2.2 t406 (([(⟨#[97]⟩ : ByteArray), (⟨#[44]⟩ : ByteArray), (⟨#[32]⟩ : ByteArray), (⟨#[45]⟩ : ByteArray), (⟨#[110, 111, 110, 101]⟩ : ByteArray), (⟨#[52]⟩ : ByteArray)] : List ByteArray))).bind fun bt410 => (some bt410.1))))) = some r := h
  clear h
  replace H := aB H
  obtain ⟨⟨t396, t397, t398⟩, A2, H⟩ := H
  dsimp only at H
  replace H := aB H
  obtain ⟨⟨t400, t401, t404, t405⟩, A3, H⟩ := H
  dsimp only at H
  replace H := aB H
  obtain ⟨t406, A4, H⟩ := H
  obtain ⟨y407, hy407⟩ : ∃ y_ : List ByteArray, y_ = (([(⟨#[97]⟩ : ByteArray), (⟨#[44]⟩ : ByteArray), (⟨#[32]⟩ : ByteArray), (⟨#[45]⟩ : ByteArray), (⟨#[110, 111, 110, 101]⟩ : ByteArray), (⟨#[52]⟩ : ByteArray)] : List ByteArray)) := ⟨_, rfl⟩
  replace H : ((spec_l1Turned.f t396 t404 t405 t406 y407).bind fun bt410 => (some bt410.1)) = some r := by first | (rw [hy407]; with_reducible exact H) | (have H2_ := (Option.bind_some _ _).symm.trans H; rw [hy407]; with_reducible exact H2_) | (have H2_ := (Option.bind_some _ _).symm.trans H; with_reducible exact H2_) | with_reducible exact H | (rw [hy407]; exact H) | exact H
  have Ny407 := Aside0.mk hy407
  clear hy407
  replace H := aB H
  obtain ⟨⟨t410, t411, t412⟩, A5, H⟩ := H
  dsimp only at H
  obtain rfl := Option.some.inj H
  go_enter Tryz.func13, Tryz.ntmps13
  go_wp2_with (first | ((with_reducible refine gate_callee (f := 26) rfl ?_); refine goesL_ (some 5) rfl rfl Tryz.func26 (by kernel_rfl) rfl #[.slice A0 l0.length c0] rfl gL_ ?_; (with_reducible refine (spec_l1New.calls k _ _ l0 t396 t397 t398 w _ ?side1 ?side2 ?side3 A2.out).mono ?_); (case side1 => exact hB_); (case side2 => exact HR0.out); (case side3 => exact HC0.out); rintro e w6 ⟨g399, rfl, hi, hb, hb2⟩; refine ⟨_, rfl, ?_⟩; replace HB := Aside0.mk (hb); have HI399 := Aside0.mk (hi); clear hb hb2 hi) | ((with_reducible refine gate_callee (f := 35) rfl ?_); refine goesL_ (some 8) rfl rfl Tryz.func35 (by kernel_rfl) rfl #[.pointer (some ⟨g399, 0, none⟩)] rfl gL_ ?_; (with_reducible refine (spec_l3Draw.calls k g399 t396 t397 t398 t400 t401 t404 t405 w _ ?side1 ?side2 A3.out).mono ?_); (case side1 => exact hI69_HI399); (case side2 => exact hC69_); rintro e w7 ⟨v402, rfl, ho0, hi, hb, hk⟩; refine ⟨_, rfl, ?_⟩; have HO403 := Aside0.mk (Kd.R_lower ho0 (below_size hC69_)); replace HB := Aside0.mk (hb); replace HI399 := Aside0.mk (hi); clear hb hk hi ho0; obtain ⟨Ao8, co8, eo8⟩ := Kd.R_slice HO403.out; subst eo8) | ((with_reducible refine gate_callee (f := 24) rfl ?_); refine goesL_ (some 9) rfl rfl Tryz.func24 (by kernel_rfl) rfl #[.agg #[.int .i64 t400, .slice Ao8 t401.length co8]] rfl gL_ ?_; (with_reducible refine (spec_ContextText.calls k t400 _ _ t401 t406 _ ?side1 ?side2 A4.out).mono ?_); (case side1 => exact rC HO403); (case side2 => exact (Kd.R_reads' HO403.out).2.1); rintro e w9 ⟨rfl, hb⟩; refine ⟨_, rfl, ?_⟩; replace HO403 := kR HO403 hb; replace HB := Aside0.mk (below_step hC69_ hb); replace HI399 := Aside0.mk (IsS69.below hI69_HI399 hb); clear hb) | ((with_reducible refine gate_dst (N := 10) rfl ?_); refine Kd.R_lit Kd.string _ 9 ?hg (N := 10) ?hd (xs := ([(⟨#[97]⟩ : ByteArray), (⟨#[44]⟩ : ByteArray), (⟨#[32]⟩ : ByteArray), (⟨#[45]⟩ : ByteArray), (⟨#[110, 111, 110, 101]⟩ : ByteArray), (⟨#[52]⟩ : ByteArray)] : List ByteArray)) (inner := [.string (⟨#[97]⟩ : ByteArray), .string (⟨#[44]⟩ : ByteArray), .string (⟨#[32]⟩ : ByteArray), .string (⟨#[45]⟩ : ByteArray), .string (⟨#[110, 111, 110, 101]⟩ : ByteArray), .string (⟨#[52]⟩ : ByteArray)]) (ok := fun _ => True) (okp := fun _ => True) ?hr ?hp (fun _ hk => hk) trivial (Below.refl _ _) (Nat.le_refl _) (by simp) ?_; (case hd => rfl); (case hg => rfl); (case hr => first | (go_simp; done) | (go_simp; rfl)); (case hp => exact (Reps.one (show Kd.M Kd.string _ _ _ (⟨#[97]⟩ : ByteArray) [.string (⟨#[97]⟩ : ByteArray)] from rfl) (Reps.one (show Kd.M Kd.string _ _ _ (⟨#[44]⟩ : ByteArray) [.string (⟨#[44]⟩ : ByteArray)] from rfl) (Reps.one (show Kd.M Kd.string _ _ _ (⟨#[32]⟩ : ByteArray) [.string (⟨#[32]⟩ : ByteArray)] from rfl) (Reps.one (show Kd.M Kd.string _ _ _ (⟨#[45]⟩ : ByteArray) [.string (⟨#[45]⟩ : ByteArray)] from rfl) (Reps.one (show Kd.M Kd.string _ _ _ (⟨#[110, 111, 110, 101]⟩ : ByteArray) [.string (⟨#[110, 111, 110, 101]⟩ : ByteArray)] from rfl) (Reps.one (show Kd.M Kd.string _ _ _ (⟨#[52]⟩ : ByteArray) [.string (⟨#[52]⟩ : ByteArray)] from rfl) (Reps.none _ _)))))))); intro v408 w10 ho11 hb hg_ hnew_; clear hg_ hnew_; (first | rw [← Ny407.out] at ho11 | (simp only [Int.reduceToNat] at ho11; rw [← Ny407.out] at ho11)); replace HO403 := kR HO403 hb; have HO409 := Aside0.mk (Kd.R_lower ho11 (below_size hC69_)); replace HB := Aside0.mk (below_step hC69_ hb); replace HI399 := Aside0.mk (IsS69.below hI69_HI399 hb); clear hb ho11; obtain ⟨Ao12, co12, eo12⟩ := Kd.R_slice HO409.out; subst eo12) | ((with_reducible refine gate_callee (f := 34) rfl ?_); refine goesL_ (some 11) rfl rfl Tryz.func34 (by kernel_rfl) rfl #[.pointer (some ⟨g399, 0, none⟩), .string t406, .slice Ao12 y407.length co12] rfl gL_ ?_; (with_reducible refine (spec_l1Turned.calls g399 t396 t404 t405 t406 _ _ y407 t410 t411 t412 w _ ?side1 ?side2 ?side3 ?side4 ?side5 A5.out).mono ?_); (case side1 => exact hI69_HI399); (case side2 => exact hC69_); (case side3 => exact rC HO409); (case side4 => exact (Kd.R_reads' HO409.out).2.1); (case side5 => exact far_slice (IsS69.own_ne HI399.out HO409.out (by decide))); rintro e w13 ⟨rfl, hi, hb, hk⟩; refine ⟨_, rfl, ?_⟩; replace HO403 := Aside0.mk (Kd.R_mono (Kd.R_keep (IsS69.apart (show IsS69 w _ g399 t396 t404 t405 from hI69_HI399) (rW HO403.out) (by decide)) hk (fun _ h => h.2)) (fun _ h => h.1)); replace HO409 := Aside0.mk (Kd.R_mono (Kd.R_keep (IsS69.apart (show IsS69 w _ g399 t396 t404 t405 from hI69_HI399) (rW HO409.out) (by decide)) hk (fun _ h => h.2)) (fun _ h => h.1)); replace HB := Aside0.mk (hb); replace HI399 := Aside0.mk (hi); clear hb hk hi))
  go_ret
  exact ⟨eR_, hC69_⟩

/-! ### the variables that the row lists -/
/-- deBruijn64tab. -/
def tz64 : List Int := [0, 1, 56, 2, 57, 49, 28, 3, 61, 58, 42, 50, 38, 29, 17, 4, 62, 47, 59, 36, 45, 43, 51, 22, 53, 39, 33, 30, 24, 18, 12, 5, 63, 55, 48, 27, 60, 41, 37, 16, 46, 35, 44, 21, 52, 32, 23, 11, 54, 26, 40, 15, 34, 20, 31, 10, 25, 14, 19, 9, 13, 8, 7, 6]
def AtVar (w : World) (g : Nat) (Q : Array Value → Prop) : Prop := ∃ cs t p, w.heap[g]? = some (.cells cs t p) ∧ Q cs
theorem AtVar.below {w w1 : World} {g : Nat} {Q : Array Value → Prop} (h : AtVar w g Q) (hb : Below w.heap.size w w1) : AtVar w1 g Q := by
  obtain ⟨cs, t, p, hh, e⟩ := h
  have hg : g < w.heap.size := by
    rcases Nat.lt_or_ge g w.heap.size with h1 | h1
    · exact h1
    · rw [Array.getElem?_eq_none h1] at hh; cases hh
  exact ⟨cs, t, p, (hb.block g hg).trans hh, e⟩
theorem atVar_cell {w : World} {g : Nat} {cs : Array Value} {t p} (h : w.heap[g]? = some (.cells cs t p)) (i : Nat) : w.cell? ⟨g, i, none⟩ = cs[i]? := by simp [World.cell?, h]
theorem AtVar.of_var {P : Program} {w : World} {n : String} {g : Nat} {cs : Array Value} {Q : Array Value → Prop} (hg : P.globalNamed n = some g) (hv : w.var? P n = some cs) (q : Q cs) : AtVar w g Q := by
  simp only [World.var?, hg, Option.bind_some] at hv
  split at hv
  · rename_i c t p h
    obtain rfl := Option.some.inj hv
    exact ⟨_, t, p, h, q⟩
  · cases hv
theorem AtVar.of_cell {w : World} {g : Nat} {k : IntKind} (h : ∃ m, w.cell? ⟨g, 0, none⟩ = some (.int k m)) : AtVar w g (fun cs => ∃ m, cs[0]? = some (.int k m)) := by
  obtain ⟨m, hm⟩ := h
  unfold World.cell? at hm
  cases hh : w.heap[g]? with
  | none => simp [hh] at hm
  | some o =>
    cases o with
    | cells cs t p => exact ⟨cs, t, p, hh, m, by simpa [hh] using hm⟩
    | _ => simp [hh] at hm
def TabW (w : World) : Prop := AtVar w 7 (fun cs => cs.toList = tz64.map (fun z => Value.int .u8 z)) ∧ AtVar w 3 (fun cs => cs.toList = Go.Lib.pow10Tab.map (fun z => Value.int .u64 z)) ∧ AtVar w 2 (fun cs => ∃ ev, cs[0]? = some ev ∧ (ev = .nilIface ∨ ∃ te pe, ev = .iface te pe)) ∧ AtVar w 1 (fun cs => ∃ ev, cs[0]? = some ev ∧ (ev = .nilIface ∨ ∃ te pe, ev = .iface te pe)) ∧ AtVar w 0 (fun cs => ∃ m, cs[0]? = some (.int .i64 m)) ∧ True
theorem TabW.below {w w1 : World} (h : TabW w) (hb : Below w.heap.size w w1) : TabW w1 := ⟨h.1.below hb, h.2.1.below hb, h.2.2.1.below hb, h.2.2.2.1.below hb, h.2.2.2.2.1.below hb, trivial⟩
theorem TabW.alloc {w : World} (h : TabW w) (o : Obj) : TabW (w.alloc o) := h.below (below_alloc (Below.refl _ _) o)
theorem TabW.drewN {w : World} (h : TabW w) (n : Nat) : TabW (w.drewN n) := h.below (pw_below_drewN (Below.refl _ _) n)
theorem TabW.drew {w : World} (h : TabW w) : TabW w.drew := h.below (below_drew (Below.refl _ _))
theorem TabW.tz {w : World} (h : TabW w) : Kd.C (Kd.int .u8) w (some ⟨7, 0, none⟩) 64 tz64 := by
  obtain ⟨cs, t, p, hh, e⟩ := h.1
  refine Kd.C_of_reads (d := (0 : Int)) (h1 := fun _ => rfl) (⟨rfl, by decide, fun _ => ⟨_, rfl, fun j hj => ?_⟩⟩ : ReadsInt w .u8 _ 64 tz64)
  rw [add_at, Nat.zero_add, atVar_cell hh, ← Array.getElem?_toList, e, List.getElem?_map, List.getD_eq_getElem?_getD]
  have hl : j < tz64.length := hj
  rw [List.getElem?_eq_getElem hl]
  rfl
theorem TabW.pow {w : World} (h : TabW w) : Go.Lib.TabIs Tryz.prog w "internal/strconv.uint64pow10" .u64 Go.Lib.pow10Tab := by
  obtain ⟨cs, t, p, hh, e⟩ := h.2.1
  have hg : Tryz.prog.globalNamed "internal/strconv.uint64pow10" = some 3 := by kernel_rfl
  unfold Go.Lib.TabIs
  simp only [World.var?, hg, Option.bind_some, hh]
  rw [← e]
theorem TabW.ran {w : World} (h : TabW w) : ∃ ev, w.cell? ⟨2, 0, none⟩ = some ev ∧ (ev = .nilIface ∨ ∃ te pe, ev = .iface te pe) := by
  obtain ⟨cs, t, p, hh, m, e⟩ := h.2.2.1
  exact ⟨m, (atVar_cell hh 0).trans e.1, e.2⟩
theorem TabW.syn {w : World} (h : TabW w) : ∃ ev, w.cell? ⟨1, 0, none⟩ = some ev ∧ (ev = .nilIface ∨ ∃ te pe, ev = .iface te pe) := by
  obtain ⟨cs, t, p, hh, m, e⟩ := h.2.2.2.1
  exact ⟨m, (atVar_cell hh 0).trans e.1, e.2⟩
theorem TabW.maxlen {w : World} (h : TabW w) : ∃ m, w.cell? ⟨0, 0, none⟩ = some (.int .i64 m) := by
  obtain ⟨cs, t, p, hh, m, e⟩ := h.2.2.2.2.1
  exact ⟨m, (atVar_cell hh 0).trans e⟩
/-! ### strings_Cut: function 36: the shelf's contract -/
def cutL (s sep : ByteArray) : ByteArray × ByteArray × Bool := (⟨(Go.Lib.cut s.data.toList sep.data.toList).1.toArray⟩, ⟨(Go.Lib.cut s.data.toList sep.data.toList).2.1.toArray⟩, (Go.Lib.cut s.data.toList sep.data.toList).2.2)
def strings_Cut.f (a0 a1 : ByteArray) : Option (ByteArray × ByteArray × Bool) := if a0.size < 4294967281 then some (cutL a0 a1) else none
theorem strings_Cut.calls (a0 : ByteArray) (a1 : ByteArray) (r1 : ByteArray) (r2 : ByteArray) (r3 : Bool) (w : World) (hrT : TabW w) (h : strings_Cut.f a0 a1 = some (r1, r2, r3)) :
    Calls Tryz.prog 36 #[.string a0, .string a1] w fun e w' => e = .returned (.tuple #[.string r1, .string r2, .bool r3]) ∧ Below w.heap.size w w' := by
  unfold strings_Cut.f at h
  by_cases hc : a0.size < 4294967281
  case neg => rw [if_neg hc] at h; cases h
  rw [if_pos hc] at h
  unfold cutL at h
  obtain ⟨rfl, rfl, rfl⟩ : _ = r1 ∧ _ = r2 ∧ _ = r3 := by simpa using h
  obtain ⟨m, hm⟩ := TabW.maxlen hrT
  refine (Tryz.strings_Cut a0 a1 m w hc hm).mono ?_
  rintro e w' ⟨rfl, n, rfl⟩
  exact ⟨rfl, pw_below_drewN (Below.refl _ _) n⟩

/-! ### strconv_Itoa: function 68: the shelf's contract -/
def strconv_Itoa.f (a0 : Int) : Option ByteArray := if -9223372036854775808 ≤ a0 ∧ a0 ≤ 9223372036854775807 then some ⟨(Go.Lib.itoa a0).toArray⟩ else none
theorem strconv_Itoa.calls (a0 : Int) (r : ByteArray) (w : World) (hrT : TabW w) (h : strconv_Itoa.f a0 = some r) :
    Calls Tryz.prog 68 #[.int .i64 a0] w fun e w' => e = .returned (.string r) ∧ Below w.heap.size w w' := by
  unfold strconv_Itoa.f at h
  by_cases hc : -9223372036854775808 ≤ a0 ∧ a0 ≤ 9223372036854775807
  case neg => rw [if_neg hc] at h; cases h
  rw [if_pos hc] at h
  obtain rfl := Option.some.inj h
  refine (Tryz.strconv_Itoa a0 hc.1 hc.2 w (TabW.pow hrT)).mono ?_
  rintro e w' ⟨rfl, k, os, rfl⟩
  refine ⟨rfl, rfl, rfl, rfl, ?_, fun j hj => ?_⟩
  · show w.heap.size ≤ (w.heap ++ os).size
    rw [Array.size_append]; omega
  · exact Sort.heap_grow_old (w.drewN k) os hj

/-! ### impl_FormatInt: function 51 -/
def impl_FormatInt.f (a0 : Int) : Option (ByteArray) := (strconv_Itoa.f a0).bind fun t413 => (some t413)
set_option maxHeartbeats 8000000 in
set_option maxRecDepth 100000 in
theorem impl_FormatInt.calls (a0 : Int) (r : ByteArray) (w : World) (hrT : TabW w) (h : impl_FormatInt.f a0 = some r) :
    Calls Tryz.prog 51 #[.int .i64 a0] w fun e w' => e = .returned (.string r) ∧ Below w.heap.size w w' := by
  have HRT := Aside0.mk hrT
  clear hrT
  have HB := Aside0.mk (Below.refl w.heap.size w)
  have H : ((strconv_Itoa.f a0).bind fun t413 => (some t413)) = some r := h
  clear h
  replace H := aB H
  obtain ⟨t413, A2, H⟩ := H
  obtain rfl := Option.some.inj H
  go_enter Tryz.func51, Tryz.ntmps51
  go_wp2_with (first | ((with_reducible refine gate_callee (f := 68) rfl ?_); refine goesL_ (some 4) rfl rfl Tryz.func68 (by kernel_rfl) rfl #[.int .i64 a0] rfl gL_ ?_; (with_reducible refine (strconv_Itoa.calls a0 t413 _ ?sideT A2.out).mono ?_); (case sideT => exact hT_); rintro e w3 ⟨rfl, hb⟩; refine ⟨_, rfl, ?_⟩; replace HB := kH HB hb; clear hb))
  go_ret
  exact ⟨eR_, hB_⟩

/-- The shelf's contract of strconv.Atoi at a text that is no numeral. -/
theorem atoi_no (s : ByteArray) (hlim : s.size ≤ 281474976710656) (h1 : ∀ v, Go.Lib.atoiAll s.data.toList ≠ .ok v) (h2 : Go.Lib.atoiAll s.data.toList ≠ .range) (ev : Value) (w : World) (hv : w.cell? ⟨1, 0, none⟩ = some ev) (hev : ev = .nilIface ∨ ∃ te pe, ev = .iface te pe) :
    Calls Tryz.prog 75 #[.string s] w fun e w' => ∃ N, e = .returned (.tuple #[.int .i64 (0), .iface 101 (.pointer (some ⟨N, 0, none⟩))]) ∧ w.heap.size ≤ N ∧ w'.heap[N]? = some (.cells #[.string ⟨#[65, 116, 111, 105]⟩, .string s, ev] 118 (0, 0)) ∧ Below w.heap.size w w' := by
  cases h : Go.Lib.atoiAll s.data.toList with
  | ok v => exact absurd h (h1 v)
  | range => exact absurd h h2
  | _ => exact Go.Proofs.Any.strconv_Atoi_syntax Tryz.laysC172 s hlim h ev w hv hev
/-! ### impl_readInt: function 62: over strconv.Atoi's contracts -/
def readEnd (s : ByteArray) : Option Int := match Go.Lib.atoiAll s.data.toList with
  | .ok v => some v
  | _ => none
def impl_readInt.f (a0 : ByteArray) (a1 : Int) (a2 : Int) : Option (Int × Bool) := if a0.size ≤ 281474976710656 then (match readEnd a0 with
  | some v => (impl_FormatInt.f v).bind fun t => if t.toList = a0.toList then (impl_within.f v a1 a2).bind fun c => some (if c = true then (v, true) else (0, false)) else some (0, false)
  | none => some (0, false)) else none
set_option maxHeartbeats 4000000 in
set_option maxRecDepth 100000 in
theorem impl_readInt.calls (a0 : ByteArray) (a1 : Int) (a2 : Int) (r1 : Int) (r2 : Bool) (w : World) (hrT : TabW w) (h : impl_readInt.f a0 a1 a2 = some (r1, r2)) :
    Calls Tryz.prog 62 #[.string a0, .int .i64 a1, .int .i64 a2] w fun e w' => e = .returned (.tuple #[.int .i64 r1, .bool r2]) ∧ Below w.heap.size w w' := by
  unfold impl_readInt.f at h
  by_cases hlim : a0.size ≤ 281474976710656
  case neg => rw [if_neg hlim] at h; cases h
  rw [if_pos hlim] at h
  have HT := Aside0.mk hrT
  cases hv : Go.Lib.atoiAll a0.data.toList with
  | ok v =>
    have he : readEnd a0 = some v := by unfold readEnd; rw [hv]
    rw [he] at h
    simp only at h
    have HC := Aside0.mk (Tryz.strconv_Atoi_ok a0 (by omega) v hv w)
    clear hrT hv he hlim
    obtain ⟨t, ht, h⟩ := Option.bind_eq_some_iff.mp h
    have HF := Aside0.mk ht
    clear ht
    by_cases c : t.toList = a0.toList
    · rw [if_pos c] at h
      have cb0 : (t.toList == a0.toList) = true := beq_iff_eq.mpr c
      have cb1 : (t.toList != a0.toList) = false := bne_eq_false_iff_eq.mpr c
      clear c
      obtain ⟨q, hq, h⟩ := Option.bind_eq_some_iff.mp h
      have HW := Aside0.mk hq
      clear hq
      cases q with
      | true =>
        obtain ⟨rfl, rfl⟩ : v = r1 ∧ true = r2 := by simpa using h
        clear h
        go_enter Tryz.func62, Tryz.ntmps62
        go_wp2_with fail
        refine HC.out.mono ?_
        rintro e wa ⟨rfl, hw⟩
        have HB := Aside0.mk (show Below w.heap.size w wa from by
          rcases hw with rfl | ⟨t_, rfl⟩
          · exact Below.refl _ _
          · exact Go.Lib.bytesWorld_below _ _ _)
        clear hw
        go_wp2_with fail
        refine (impl_FormatInt.calls v t wa (TabW.below HT.out HB.out) HF.out).mono ?_
        rintro e wb ⟨rfl, hb⟩
        have HB2 := Aside0.mk (HB.out.trans (hb.mono HB.out.size))
        clear hb HB
        go_wp2_with fail
        refine (impl_within.calls v a1 a2 true wb HW.out).mono ?_
        rintro e wc ⟨rfl, q, rfl⟩
        go_wp2_with fail
        go_ret2
        exact ⟨rfl, pw_below_drewN HB2.out _⟩
      | false =>
        obtain ⟨rfl, rfl⟩ : 0 = r1 ∧ false = r2 := by simpa using h
        clear h
        go_enter Tryz.func62, Tryz.ntmps62
        go_wp2_with fail
        refine HC.out.mono ?_
        rintro e wa ⟨rfl, hw⟩
        have HB := Aside0.mk (show Below w.heap.size w wa from by
          rcases hw with rfl | ⟨t_, rfl⟩
          · exact Below.refl _ _
          · exact Go.Lib.bytesWorld_below _ _ _)
        clear hw
        go_wp2_with fail
        refine (impl_FormatInt.calls v t wa (TabW.below HT.out HB.out) HF.out).mono ?_
        rintro e wb ⟨rfl, hb⟩
        have HB2 := Aside0.mk (HB.out.trans (hb.mono HB.out.size))
        clear hb HB
        go_wp2_with fail
        refine (impl_within.calls v a1 a2 false wb HW.out).mono ?_
        rintro e wc ⟨rfl, q, rfl⟩
        go_wp2_with fail
        go_ret2
        exact ⟨rfl, pw_below_drewN HB2.out _⟩
    · rw [if_neg c] at h
      have cb0 : (t.toList == a0.toList) = false := beq_eq_false_iff_ne.mpr c
      have cb1 : (t.toList != a0.toList) = true := bne_iff_ne.mpr c
      clear c
      obtain ⟨rfl, rfl⟩ : 0 = r1 ∧ false = r2 := by simpa using h
      clear h
      go_enter Tryz.func62, Tryz.ntmps62
      go_wp2_with fail
      refine HC.out.mono ?_
      rintro e wa ⟨rfl, hw⟩
      have HB := Aside0.mk (show Below w.heap.size w wa from by
        rcases hw with rfl | ⟨t_, rfl⟩
        · exact Below.refl _ _
        · exact Go.Lib.bytesWorld_below _ _ _)
      clear hw
      go_wp2_with fail
      refine (impl_FormatInt.calls v t wa (TabW.below HT.out HB.out) HF.out).mono ?_
      rintro e wb ⟨rfl, hb⟩
      have HB2 := Aside0.mk (HB.out.trans (hb.mono HB.out.size))
      clear hb HB
      go_wp2_with fail
      go_ret2
      exact ⟨rfl, HB2.out⟩
  | range =>
    have he : readEnd a0 = none := by unfold readEnd; rw [hv]
    rw [he] at h
    obtain ⟨rfl, rfl⟩ : 0 = r1 ∧ false = r2 := by simpa using h
    obtain ⟨ev, hc, hev⟩ := TabW.ran hrT
    have HC := Aside0.mk (Tryz.strconv_Atoi_range a0 hlim hv ev w hc hev)
    clear hrT hv he hlim h hc hev
    go_enter Tryz.func62, Tryz.ntmps62
    go_wp2_with fail
    refine HC.out.mono ?_
    rintro e wa ⟨N, rfl, -, -, hb⟩
    have HB := Aside0.mk hb
    clear hb
    go_wp2_with fail
    go_ret2
    exact ⟨rfl, HB.out⟩
  | _ =>
    have he : readEnd a0 = none := by unfold readEnd; rw [hv]
    rw [he] at h
    obtain ⟨rfl, rfl⟩ : 0 = r1 ∧ false = r2 := by simpa using h
    obtain ⟨ev, hc, hev⟩ := TabW.syn hrT
    have HC := Aside0.mk (atoi_no a0 hlim (fun v e => by rw [hv] at e; cases e) (fun e => by rw [hv] at e; cases e) ev w hc hev)
    clear hrT hv he hlim h hc hev
    go_enter Tryz.func62, Tryz.ntmps62
    go_wp2_with fail
    refine HC.out.mono ?_
    rintro e wa ⟨N, rfl, -, -, hb⟩
    have HB := Aside0.mk hb
    clear hb
    go_wp2_with fail
    go_ret2
    exact ⟨rfl, HB.out⟩

/-! ### impl_ParseNumber: function 37 -/
def impl_ParseNumber.f (a0 : ByteArray) : Option (Int × Bool) := (impl_readInt.f a0 0 999999).bind fun bt414 => (some (bt414.1, bt414.2))
set_option maxHeartbeats 8000000 in
set_option maxRecDepth 100000 in
theorem impl_ParseNumber.calls (a0 : ByteArray) (r1 : Int) (r2 : Bool) (w : World) (hrT : TabW w) (h : impl_ParseNumber.f a0 = some (r1, r2)) :
    Calls Tryz.prog 37 #[.string a0] w fun e w' => e = .returned (.tuple #[.int .i64 r1, .bool r2]) ∧ Below w.heap.size w w' := by
  have HRT := Aside0.mk hrT
  clear hrT
  have HB := Aside0.mk (Below.refl w.heap.size w)
  have H : ((impl_readInt.f a0 0 999999).bind fun bt414 => (some (bt414.1, bt414.2))) = some (r1, r2) := h
  clear h
  replace H := aB H
  obtain ⟨⟨t414, t415⟩, A2, H⟩ := H
  dsimp only at H
  simp only [Option.some.injEq, Prod.mk.injEq] at H
  obtain ⟨rfl, rfl⟩ := H
  go_enter Tryz.func37, Tryz.ntmps37
  go_wp2_with (first | ((with_reducible refine gate_callee (f := 62) rfl ?_); refine goesL_ (some 5) rfl rfl Tryz.func62 (by kernel_rfl) rfl #[.string a0, .int .i64 0, .int .i64 999999] rfl gL_ ?_; (with_reducible refine (impl_readInt.calls a0 0 999999 t414 t415 _ ?sideT A2.out).mono ?_); (case sideT => exact hT_); rintro e w3 ⟨rfl, hb⟩; refine ⟨_, rfl, ?_⟩; replace HB := kH HB hb; clear hb))
  go_ret2
  exact ⟨eR_, hB_⟩

/-! ### strings_Split: function 63: the shelf's contract -/
def splitL (s sep : ByteArray) : List ByteArray := Go.Lib.splitB sep 0 (Go.Lib.countB s sep) s
def strings_Split.f (a0 a1 : ByteArray) : Option (List ByteArray) := if a0.size < 4294967281 ∧ 1 ≤ a1.size then some (splitL a0 a1) else none
theorem strings_Split.calls (a0 : ByteArray) (a1 : ByteArray) (r : List ByteArray) (w : World) (hrT : TabW w) (h : strings_Split.f a0 a1 = some r) :
    Calls Tryz.prog 63 #[.string a0, .string a1] w fun e w' => ∃ v0_ : Value, e = .returned (v0_) ∧ Kd.R Kd.string 9 w' w.heap.size (fun _ => True) v0_ r ∧ Below w.heap.size w w' := by
  unfold strings_Split.f at h
  by_cases hc : a0.size < 4294967281 ∧ 1 ≤ a1.size
  case neg => rw [if_neg hc] at h; cases h
  rw [if_pos hc] at h
  obtain rfl := Option.some.inj h
  obtain ⟨m, hm⟩ := TabW.maxlen hrT
  have hl : (splitL a0 a1).length = Go.Lib.countB a0 a1 + 1 := Go.Lib.splitB_all a1 hc.2 0 _ a0 rfl
  have hle := Go.Lib.countB_le a1 hc.2 a0.size a0 (Nat.le_refl _)
  refine (Tryz.strings_Split a0 a1 m w hc.1 hm hc.2).mono ?_
  rintro e w' ⟨rfl, rfl⟩
  refine ⟨_, rfl, ?_, below_alloc (Below.refl _ _) _⟩
  rw [show Go.Lib.splitB a1 0 (Go.Lib.countB a0 a1) a0 = splitL a0 a1 from rfl, ← hl]
  refine Kd.R_of_own (enc := Value.string) (h1 := fun _ => rfl) ⟨by simp [encs], .inr ⟨w.heap.size, (splitL a0 a1).length, ((splitL a0 a1).map Value.string).toArray, rfl, Nat.le_refl _, ?_, Nat.le_refl _, ?_, by simp, ?_⟩⟩ (fun _ _ => trivial)
  · show (w.heap.push _)[w.heap.size]? = _
    rw [Array.getElem?_push_size]
  · rw [hl]; unfold maxLen; omega
  · rw [List.take_of_length_le (by simp)]; rfl

/-! ### impl_isAnySet: function 69 -/
def impl_isAnySet.f (a0 : Int) : Option (Bool) := (impl_IsSet.f 8 a0).bind fun t416 => (some t416)
set_option maxHeartbeats 8000000 in
set_option maxRecDepth 100000 in
theorem impl_isAnySet.calls (a0 : Int) (r : Bool) (w : World) (h : impl_isAnySet.f a0 = some r) :
    Calls Tryz.prog 69 #[.int .i64 a0] w fun e w' => e = .returned (.bool r) ∧ Drawn0 w w' := by
  have H : ((impl_IsSet.f 8 a0).bind fun t416 => (some t416)) = some r := h
  clear h
  replace H := aB H
  obtain ⟨t416, A2, H⟩ := H
  obtain rfl := Option.some.inj H
  go_enter Tryz.func69, Tryz.ntmps69
  go_wp2_with (first | ((with_reducible refine gate_callee (f := 49) rfl ?_); refine goesL_ (some 4) rfl rfl Tryz.func49 (by kernel_rfl) rfl #[.int .i64 8, .int .i64 a0] rfl gL_ ?_; (with_reducible refine (impl_IsSet.calls 8 a0 t416 _ A2.out).mono ?_); rintro e w' ⟨rfl, ⟨nd, rfl⟩⟩; refine ⟨_, rfl, ?_⟩))
  go_ret
  exact ⟨by first | rfl | (simp; done) | (simp [*]; done), by repeat (first | exact Drawn0.refl _ | apply Drawn0.step)⟩

/-! ### impl_HasElement: function 92 -/
def impl_HasElement.f (a0 : Int) (a1 : Int) : Option (Bool) := (impl_isAnySet.f a0).bind fun t417 => (if t417 = true then ((impl_within.f a1 0 7).bind fun t418 => (if t418 = true then (if 0 ≤ a1 then (some ((Go.bits .and .i64 (shr .i64 a0 a1) 1) == 1)) else (none)) else (some false))) else (some false))
set_option maxHeartbeats 8000000 in
set_option maxRecDepth 100000 in
theorem impl_HasElement.calls (a0 : Int) (a1 : Int) (r : Bool) (w : World) (h : impl_HasElement.f a0 a1 = some r) :
    Calls Tryz.prog 92 #[.int .i64 a0, .int .i64 a1] w fun e w' => e = .returned (.bool r) ∧ Drawn0 w w' := by
  have H : ((impl_isAnySet.f a0).bind fun t417 => (if t417 = true then ((impl_within.f a1 0 7).bind fun t418 => (if t418 = true then (if 0 ≤ a1 then (some ((Go.bits .and .i64 (shr .i64 a0 a1) 1) == 1)) else (none)) else (some false))) else (some false))) = some r := h
  clear h
  replace H := aB H
  obtain ⟨t417, A3, H⟩ := H
  by_cases c4 : t417 = true
  · subst c4
    replace H := ifT H
    replace H := aB H
    obtain ⟨t418, A5, H⟩ := H
    by_cases c6 : t418 = true
    · subst c6
      replace H := ifT H
      by_cases c7 : 0 ≤ a1
      · rw [if_pos c7] at H
        have c7b0 := eq_true c7
        have c7b1 : decide (0 ≤ a1) = true := decide_eq_true c7
        clear c7
        obtain ⟨ji8, hji8⟩ : ∃ j_ : Int, (shr .i64 a0 a1) = j_ := ⟨_, rfl⟩
        replace H : (some ((Go.bits .and .i64 (ji8) 1) == 1)) = some r := by first | (rw [hji8] at H; exact H) | (simp only [hji8] at H ⊢; exact H)
        (try rw [hji8] at A3)
        (try rw [hji8] at A5)
        have hji8_ : (a0 / 2 ^ min a1.toNat 64) = ji8 := hji8
        have hji8z : a1 ≤ 64 → (a0 / 2 ^ a1.toNat) = ji8 := shr_small hji8
        obtain rfl := Option.some.inj H
        go_enter Tryz.func92, Tryz.ntmps92
        go_wp2_with (first | ((with_reducible refine gate_callee (f := 69) rfl ?_); refine goesL_ (some 6) rfl rfl Tryz.func69 (by kernel_rfl) rfl #[.int .i64 a0] rfl gL_ ?_; (with_reducible refine (impl_isAnySet.calls a0 true _ A3.out).mono ?_); rintro e w' ⟨rfl, ⟨nd, rfl⟩⟩; refine ⟨_, rfl, ?_⟩) | (go_at_call 46; (with_reducible refine (impl_within.calls a1 0 7 true _ A5.out).mono ?_); rintro e w' ⟨rfl, ⟨nd, rfl⟩⟩))
        go_ret
        exact ⟨by first | rfl | (simp; done) | (simp only [← hji8] <;> (first | rfl | simp)) | (simp [*]; done), by repeat (first | exact Drawn0.refl _ | apply Drawn0.step)⟩
      · rw [if_neg c7] at H
        exact absurd H (by simp)
    · replace c6 := Bool.eq_false_iff.mpr c6
      subst c6
      replace H := ifF H
      obtain rfl := Option.some.inj H
      go_enter Tryz.func92, Tryz.ntmps92
      go_wp2_with (first | ((with_reducible refine gate_callee (f := 69) rfl ?_); refine goesL_ (some 6) rfl rfl Tryz.func69 (by kernel_rfl) rfl #[.int .i64 a0] rfl gL_ ?_; (with_reducible refine (impl_isAnySet.calls a0 true _ A3.out).mono ?_); rintro e w' ⟨rfl, ⟨nd, rfl⟩⟩; refine ⟨_, rfl, ?_⟩) | (go_at_call 46; (with_reducible refine (impl_within.calls a1 0 7 false _ A5.out).mono ?_); rintro e w' ⟨rfl, ⟨nd, rfl⟩⟩))
      go_ret
      exact ⟨by first | rfl | (simp; done) | (simp [*]; done), by repeat (first | exact Drawn0.refl _ | apply Drawn0.step)⟩
  · replace c4 := Bool.eq_false_iff.mpr c4
    subst c4
    replace H := ifF H
    obtain rfl := Option.some.inj H
    go_enter Tryz.func92, Tryz.ntmps92
    go_wp2_with (first | ((with_reducible refine gate_callee (f := 69) rfl ?_); refine goesL_ (some 6) rfl rfl Tryz.func69 (by kernel_rfl) rfl #[.int .i64 a0] rfl gL_ ?_; (with_reducible refine (impl_isAnySet.calls a0 false _ A3.out).mono ?_); rintro e w' ⟨rfl, ⟨nd, rfl⟩⟩; refine ⟨_, rfl, ?_⟩))
    go_ret
    exact ⟨by first | rfl | (simp; done) | (simp [*]; done), by repeat (first | exact Drawn0.refl _ | apply Drawn0.step)⟩

/-! ### impl_ElementsOf: function 79 -/
def impl_ElementsOf.l0 : Nat → Int → List Int → Int → Option (List Int)
  | 0, _, _, _ => none
  | k + 1, x0, x3, x6 => if x6 < 8 then ((impl_HasElement.f x0 x6).bind fun t422 => (if t422 = true then (if x3.length < 17592186044416 then (impl_ElementsOf.l0 k x0 (x3 ++ [x6]) (wrap64 (x6 + 1))) else (none)) else (impl_ElementsOf.l0 k x0 x3 (wrap64 (x6 + 1))))) else (some x3)
def impl_ElementsOf.f (k : Nat) (a0 : Int) : Option (List Int) := impl_ElementsOf.l0 k a0 (([] : List Int)) 0
theorem impl_ElementsOf.mono_l : ∀ k, (∀ y0 y1 y2, LeO (impl_ElementsOf.l0 k y0 y1 y2) (impl_ElementsOf.l0 (k + 1) y0 y1 y2))
  | 0 => fun _ _ _ r h => by simp [impl_ElementsOf.l0] at h
  | k + 1 => by
    have ih0 := impl_ElementsOf.mono_l k
    · intro y0 y1 y2
      unfold impl_ElementsOf.l0
      repeat' first
      | (with_reducible exact ih0 _ _ _)
      | (with_reducible exact LeO.refl _)
      | (with_reducible exact LeO.none _)
      | (with_reducible refine LeO.ite ?_ ?_)
      | (with_reducible refine LeO.bind ?_ (fun _ => ?_))
      | exact ih0 _ _ _
      | exact LeO.none _
      | refine LeO.ite ?_ ?_
      | refine LeO.bind ?_ (fun _ => ?_)
theorem impl_ElementsOf.mono : ∀ a0 k, LeO (impl_ElementsOf.f k a0) (impl_ElementsOf.f (k + 1) a0) := by
  intro a0 k
  have ih0 := impl_ElementsOf.mono_l k
  unfold impl_ElementsOf.f
  repeat' first
      | (with_reducible exact ih0 _ _ _)
      | (with_reducible exact LeO.refl _)
      | (with_reducible exact LeO.none _)
      | (with_reducible refine LeO.ite ?_ ?_)
      | (with_reducible refine LeO.bind ?_ (fun _ => ?_))
      | exact ih0 _ _ _
      | exact LeO.none _
      | refine LeO.ite ?_ ?_
      | refine LeO.bind ?_ (fun _ => ?_)
set_option maxHeartbeats 8000000 in
set_option maxRecDepth 100000 in
theorem impl_ElementsOf.calls (k : Nat) (a0 : Int) (r : List Int) (w : World) (h : impl_ElementsOf.f k a0 = some r) :
    Calls Tryz.prog 79 #[.int .i64 a0] w fun e w' => ∃ v0_ : Value, e = .returned (v0_) ∧ Kd.R (Kd.int .i64) 3 w' w.heap.size (fun _ => True) v0_ r ∧ Below w.heap.size w w' := by
  have HB := Aside0.mk (Below.refl w.heap.size w)
  have H : (impl_ElementsOf.l0 k a0 (([] : List Int)) 0) = some r := h
  clear h
  obtain ⟨y419, hy419⟩ : ∃ y_ : List Int, y_ = (([] : List Int)) := ⟨_, rfl⟩
  replace H : (impl_ElementsOf.l0 k a0 y419 0) = some r := by first | (rw [hy419]; with_reducible exact H) | (have H2_ := (Option.bind_some _ _).symm.trans H; rw [hy419]; with_reducible exact H2_) | (have H2_ := (Option.bind_some _ _).symm.trans H; with_reducible exact H2_) | with_reducible exact H | (rw [hy419]; exact H) | exact H
  have Ny419 := Aside0.mk hy419
  clear hy419
  have H' := Aside0.mk H
  clear H
  go_enter Tryz.func79, Tryz.ntmps79
  go_wp2_with (first | ((with_reducible refine gate_dst (N := 5) rfl ?_); refine Kd.R_lit (Kd.int .i64) _ 3 ?hg (N := 5) ?hd (xs := ([] : List Int)) (inner := []) (ok := fun _ => True) (okp := fun _ => True) ?hr ?hp (fun _ hk => hk) trivial (Below.refl _ _) (Nat.le_refl _) (by simp) ?_; (case hd => rfl); (case hg => rfl); (case hr => first | (go_simp; done) | (go_simp; rfl)); (case hp => exact (Reps.none _ _)); intro v420 w2 ho3 hb hg_ hnew_; clear hg_ hnew_; (first | rw [← Ny419.out] at ho3 | (simp only [Int.reduceToNat] at ho3; rw [← Ny419.out] at ho3)); have HO421 := Aside0.mk (Kd.R_lower ho3 (below_size hB_)); replace HB := kH HB hb; clear hb ho3))
  go_loopg [3, 6] k (fun kq v3 v6 w' => ∃ (x3_1 : List Int) (x6_1 : Int), v6 = .int .i64 x6_1 ∧ Aside0 (impl_ElementsOf.l0 kq a0 x3_1 x6_1 = some r) ∧ Aside0 (kq ≤ k) ∧ Aside0 (Kd.R (Kd.int .i64) 3 w' w.heap.size (fun _ => True) v3 x3_1) ∧ Aside0 (Below w.heap.size w w'))
  case atStart => exact ⟨(y419), (0), (by first | rfl | (simp; done) | (simp [*]; done)), H', ⟨Nat.le_refl _⟩, ⟨by (with_reducible repeat (first | apply Kd.R_alloc | apply Kd.R_drewN | apply Kd.R_drew)); exact HO421.out⟩, ⟨hB_⟩⟩
  case round =>
    clear H'
    try clear p2
    obtain ⟨x3_1, x6_1, rfl, HA, HK1, HO_3, HB⟩ := hrel
    cases gk with
    | zero => exact absurd HA.out (by simp [impl_ElementsOf.l0])
    | succ k1 =>
      have H := HA.out
      clear HA
      simp only [impl_ElementsOf.l0] at H
      by_cases c4 : x6_1 < 8
      · rw [if_pos c4] at H
        have c4b0 : decide (x6_1 < 8) = true := decide_eq_true c4
        clear c4
        replace H := aB H
        obtain ⟨t422, A5, H⟩ := H
        by_cases c6 : t422 = true
        · subst c6
          replace H := ifT H
          by_cases c7 : x3_1.length < 17592186044416
          · rw [if_pos c7] at H
            have LMc7 := Aside0.mk c7
            clear c7
            obtain ⟨y423, hy423⟩ : ∃ y_ : List Int, y_ = (x3_1 ++ [x6_1]) := ⟨_, rfl⟩
            replace H : (impl_ElementsOf.l0 k1 a0 y423 (wrap64 (x6_1 + 1))) = some r := by first | (rw [hy423]; with_reducible exact H) | (have H2_ := (Option.bind_some _ _).symm.trans H; rw [hy423]; with_reducible exact H2_) | (have H2_ := (Option.bind_some _ _).symm.trans H; with_reducible exact H2_) | with_reducible exact H | (rw [hy423]; exact H) | exact H
            have Ny423 := Aside0.mk hy423
            clear hy423
            have H' := Aside0.mk H
            clear H
            go_wp2_with (first | ((with_reducible refine gate_callee (f := 92) rfl ?_); refine goesL_ (some 11) rfl rfl Tryz.func92 (by kernel_rfl) rfl #[.int .i64 a0, .int .i64 x6_1] rfl gL_ ?_; (with_reducible refine (impl_HasElement.calls a0 x6_1 true _ A5.out).mono ?_); rintro e w' ⟨rfl, ⟨nd, rfl⟩⟩; refine ⟨_, rfl, ?_⟩) | ((with_reducible refine gate_builtin (b := .append) (xs := #[.tmp 12, .tmp 14]) rfl ?_); at_builtin; refine Kd.R_append (Kd.int .i64) (w0 := w) w.heap.size rfl (.tmp 12) (.tmp 14) 24 3 (.int .i64 0) 8 rfl Tryz.underlying24 info3 rfl (by decide) (by omega) u3 x3_1 x6_1 [.int .i64 x6_1] (fun _ => True) (fun _ => False) rfl rfl ?aP (fun _ hk => hk.elim) ?aF ?aO ?aB ?aS ?aL ?_; (case aP => exact rfl); (case aB => exact hB_); (case aF => exact (fun _ _ => trivial)); (case aO => exact (rW HO_3.out)); (case aS => exact (below_size hB_)); (case aL => have := LMc7.out; omega); intro v424 w8 ho hb hg hat; rw [← Ny423.out] at ho; replace HB := Aside0.mk (hb); have HO425 := Aside0.mk (ho); clear HO_3; clear ho hb hg hat))
            go_roundg k1
            case measure => have := HK1.out; omega
            case rel => exact ⟨(y423), (wrap64 (x6_1 + 1)), (by first | rfl | (simp; done) | (simp [*]; done)), H', ⟨by have := HK1.out; omega⟩, ⟨by (with_reducible repeat (first | apply Kd.R_alloc | apply Kd.R_drewN | apply Kd.R_drew)); exact HO425.out⟩, ⟨hB_⟩⟩
          · rw [if_neg c7] at H
            exact absurd H (by simp)
        · replace c6 := Bool.eq_false_iff.mpr c6
          subst c6
          replace H := ifF H
          have H' := Aside0.mk H
          clear H
          go_wp2_with (first | ((with_reducible refine gate_callee (f := 92) rfl ?_); refine goesL_ (some 11) rfl rfl Tryz.func92 (by kernel_rfl) rfl #[.int .i64 a0, .int .i64 x6_1] rfl gL_ ?_; (with_reducible refine (impl_HasElement.calls a0 x6_1 false _ A5.out).mono ?_); rintro e w' ⟨rfl, ⟨nd, rfl⟩⟩; refine ⟨_, rfl, ?_⟩))
          go_roundg k1
          case measure => have := HK1.out; omega
          case rel => exact ⟨(x3_1), (wrap64 (x6_1 + 1)), (by first | rfl | (simp; done) | (simp [*]; done)), H', ⟨by have := HK1.out; omega⟩, ⟨by (with_reducible repeat (first | apply Kd.R_alloc | apply Kd.R_drewN | apply Kd.R_drew)); exact HO_3.out⟩, ⟨hB_⟩⟩
      · rw [if_neg c4] at H
        have c4b0 : decide (x6_1 < 8) = false := decide_eq_false c4
        clear c4
        obtain rfl := Option.some.inj H
        go_wp2
        go_ret
        exact ⟨_, eR_, by (with_reducible repeat (first | apply Kd.R_alloc | apply Kd.R_drewN | apply Kd.R_drew)); exact HO_3.out, hB_⟩

end Go.Proofs.YtgmnmimaeklfeaaGreatDoor.PFnContexts
