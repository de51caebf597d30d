/- For every input the law answers true. No condition. -/
import Derived.Test.YtcdcljoaoiofpaaDoorPFnExactBeforeSetx1
set_option linter.unusedVariables false
set_option linter.unusedSimpArgs false
namespace Go.Proofs.YtcdcljoaoiofpaaDoor.Pure
open Go.RowKit Go.Proofs.YtcdcljoaoiofpaaDoor.PFnExactBeforeSet Go.Proofs.YtcdcljoaoiofpaaDoorW.PrintWords Go.Proofs.YtcdcljoaoiofpaaDoorW.PrintLast
/-- The full set of n elements. -/
def full (n : Int) : Int := (2 : Int) ^ n.toNat - 1
def isSetB (n s : Int) : Bool := decide (0 ≤ n ∧ n ≤ 8 ∧ 0 ≤ s ∧ s ≤ full n)
def hasB (s e : Int) : Bool := s.toNat.testBit e.toNat
theorem nine {n : Int} (h0 : 0 ≤ n) (h1 : n ≤ 8) : n = 0 ∨ n = 1 ∨ n = 2 ∨ n = 3 ∨ n = 4 ∨ n = 5 ∨ n = 6 ∨ n = 7 ∨ n = 8 := by omega
theorem full_bd {n : Int} (h0 : 0 ≤ n) (h1 : n ≤ 8) : 0 ≤ full n ∧ full n ≤ 255 := by
  rcases nine h0 h1 with rfl | rfl | rfl | rfl | rfl | rfl | rfl | rfl | rfl <;> decide +kernel
theorem isSetB_bd {n s : Int} (h : isSetB n s = true) : 0 ≤ n ∧ n ≤ 8 ∧ 0 ≤ s ∧ s ≤ full n ∧ s ≤ 255 := by
  unfold isSetB at h
  have h := of_decide_eq_true h
  have := full_bd h.1 h.2.1
  omega
theorem isSetB8 (s : Int) : isSetB 8 s = decide (0 ≤ s ∧ s ≤ 255) := by
  unfold isSetB
  have : full 8 = 255 := by decide +kernel
  rw [this]; simp
theorem shl_full {n : Int} (h0 : 0 ≤ n) (h1 : n ≤ 8) : wrap64 (shl .i64 1 n - 1) = full n := by
  rcases nine h0 h1 with rfl | rfl | rfl | rfl | rfl | rfl | rfl | rfl | rfl <;> decide +kernel
theorem u64_small {n : Int} (h0 : 0 ≤ n) (h1 : n < 18446744073709551616) : IntKind.u64.wrap n = n := by
  simp only [IntKind.wrap, IntKind.bits, IntKind.signed]; simp; omega
theorem u64_nonneg (n : Int) : 0 ≤ IntKind.u64.wrap n := by
  simp only [IntKind.wrap, IntKind.bits, IntKind.signed]; simp; omega
theorem w64 {n : Int} (h0 : -9223372036854775808 ≤ n) (h1 : n < 9223372036854775808) : wrap64 n = n := by unfold wrap64; omega
theorem i64_small (n : Int) (h0 : 0 ≤ n) (h1 : n < 2 ^ 63) : IntKind.i64.wrap n = n := by rw [IntKind.wrap_i64]; omega
theorem and_nat (a b : Nat) (ha : a < 2 ^ 63) (hb : b < 2 ^ 63) : Go.bits .and .i64 a b = ((a &&& b : Nat) : Int) := (bits_nat .i64 63 (by decide) (fun n h0 h1 => i64_small n h0 h1) a b ha hb).1
theorem or_nat (a b : Nat) (ha : a < 2 ^ 63) (hb : b < 2 ^ 63) : Go.bits .or .i64 a b = ((a ||| b : Nat) : Int) := (bits_nat .i64 63 (by decide) (fun n h0 h1 => i64_small n h0 h1) a b ha hb).2
/-- What is in a and not in b. -/
def dif (a b : Nat) : Nat := a ^^^ (a &&& b)
theorem dif_bit (a b i : Nat) : (dif a b).testBit i = (a.testBit i && !b.testBit i) := by
  unfold dif; rw [Nat.testBit_xor, Nat.testBit_and]; cases a.testBit i <;> cases b.testBit i <;> rfl
theorem dif_lt (a b n : Nat) (ha : a < 2 ^ n) : dif a b < 2 ^ n := Nat.xor_lt_two_pow ha (Nat.lt_of_le_of_lt Nat.and_le_left ha)
theorem andNot_nat (a b : Nat) (ha : a < 2 ^ 63) (hb : b < 2 ^ 63) : Go.bits .andNot .i64 a b = ((dif a b : Nat) : Int) := by
  simp only [Go.bits, BitVec.ofInt_natCast, IntKind.bits]
  have e : (BitVec.ofNat 64 a &&& ~~~BitVec.ofNat 64 b).toNat = dif a b := by
    apply Nat.eq_of_testBit_eq
    intro i
    rw [dif_bit, BitVec.testBit_toNat, BitVec.getLsbD_and, BitVec.getLsbD_not, BitVec.getLsbD_ofNat, BitVec.getLsbD_ofNat]
    by_cases hi : i < 64
    · simp [hi]
    · have : a.testBit i = false := Nat.testBit_lt_two_pow (Nat.lt_of_lt_of_le ha (Nat.pow_le_pow_right (by decide) (by omega)))
      simp [hi, this]
  have hl := dif_lt a b 63 ha
  have e2 : IntKind.i64.wrap ((dif a b : Nat) : Int) = ((dif a b : Nat) : Int) := i64_small _ (by omega) (by exact_mod_cast hl)
  exact (congrArg (fun n : Nat => IntKind.i64.wrap (n : Int)) e).trans e2
theorem and_eq_iff_dif (a b : Nat) : (a &&& b = a) ↔ dif a b = 0 := by
  constructor
  · intro h; unfold dif; rw [h, Nat.xor_self]
  · intro h
    apply Nat.eq_of_testBit_eq; intro i
    have h2 := dif_bit a b i
    rw [h, Nat.zero_testBit] at h2
    rw [Nat.testBit_and]
    cases ha : a.testBit i <;> cases hb : b.testBit i <;> simp [ha, hb] at h2 ⊢
theorem bit_nat (s e : Nat) (hs : s < 2 ^ 63) (he : e ≤ 63) : (Go.bits .and .i64 (shr .i64 (s : Int) (e : Int)) 1 == 1) = s.testBit e := by
  have h1 : shr .i64 (s : Int) (e : Int) = ((s / 2 ^ e : Nat) : Int) := by
    unfold shr
    rw [Int.toNat_natCast, Nat.min_eq_left (by simp [IntKind.bits]; omega)]
    simp
  have h2 : s / 2 ^ e < 2 ^ 63 := Nat.lt_of_le_of_lt (Nat.div_le_self _ _) hs
  rw [h1, show (1 : Int) = ((1 : Nat) : Int) from rfl, and_nat _ _ h2 (by decide), Nat.and_one_is_mod, Nat.testBit_eq_decide_div_mod_eq]
  have : ((((s / 2 ^ e % 2 : Nat) : Int)) == ((1 : Nat) : Int)) = decide (s / 2 ^ e % 2 = 1) := by
    generalize s / 2 ^ e % 2 = q
    rw [Bool.eq_iff_iff, beq_iff_eq, decide_eq_true_iff]; omega
  exact this
theorem bit_int {s e : Int} (hs0 : 0 ≤ s) (hs : s < 9223372036854775808) (he0 : 0 ≤ e) (he : e ≤ 63) : (Go.bits .and .i64 (shr .i64 s e) 1 == 1) = hasB s e := by
  obtain ⟨a, rfl⟩ := Int.eq_ofNat_of_zero_le hs0
  obtain ⟨b, rfl⟩ := Int.eq_ofNat_of_zero_le he0
  exact bit_nat a b (by omega) (by omega)

theorem all256 {P : Int → Prop} (h : ∀ s : Fin 256, P ((s.val : Nat) : Int)) {s : Int} (hs : isSetB 8 s = true) : P s := by
  have hb := isSetB_bd hs
  obtain ⟨a, rfl⟩ := Int.eq_ofNat_of_zero_le hb.2.2.1
  exact h ⟨a, by omega⟩

theorem spec_IsSet_eq (n s : Int) : spec_IsSet.f n s = some (isSetB n s) := by
  unfold spec_IsSet.f spec_l1In.f isSetB
  by_cases h0 : 0 ≤ n
  · by_cases h1 : n ≤ 8
    · have hw := u64_small h0 (by omega)
      rw [hw, shl_full h0 h1]
      by_cases h2 : 0 ≤ s <;> simp [h0, h1, h2]
    · simp [h0, h1]
  · simp [h0]

theorem wstep {i : Int} {n : Nat} (h0 : 0 ≤ i) (h : i < (n : Int)) (hn : n ≤ 281474976710656) : wrap64 (i + 1) = i + 1 := by unfold wrap64; omega
theorem rd_nat (l : List Int) (i : Nat) (h : i < l.length) : rd l (i : Int) = l[i] := by unfold rd; rw [Int.toNat_natCast, List.getD_eq_getElem?_getD, List.getElem?_eq_getElem h]; rfl

/-- Row g, as a natural number. -/
def row (a : List Int) (g : Nat) : Nat := (a.getD g 0).toNat
def RowsOk (a : List Int) : Prop := ∀ x ∈ a, 0 ≤ x ∧ x ≤ 255
theorem rd_row {a : List Int} (h : RowsOk a) {i : Nat} (hi : i < a.length) : rd a (i : Int) = (row a i : Int) := by
  rw [rd_nat a i hi]
  have := h a[i] (List.getElem_mem hi)
  unfold row
  rw [List.getD_eq_getElem?_getD, List.getElem?_eq_getElem hi, Option.getD_some, Int.toNat_of_nonneg this.1]
theorem row_lt {a : List Int} (h : RowsOk a) (i : Nat) : row a i < 256 := by
  unfold row
  by_cases hi : i < a.length
  · have := h a[i] (List.getElem_mem hi)
    rw [List.getD_eq_getElem?_getD, List.getElem?_eq_getElem hi, Option.getD_some]; omega
  · rw [List.getD_eq_getElem?_getD, List.getElem?_eq_none (by omega)]; decide
theorem shl_bit {b : Nat} (hb : b ≤ 1) {i : Nat} (hi : i ≤ 8) : shl .i64 (b : Int) (i : Int) = ((b * 2 ^ i : Nat) : Int) := by
  have h0 : b = 0 ∨ b = 1 := by omega
  have h1 : i = 0 ∨ i = 1 ∨ i = 2 ∨ i = 3 ∨ i = 4 ∨ i = 5 ∨ i = 6 ∨ i = 7 ∨ i = 8 := by omega
  rcases h0 with rfl | rfl <;> rcases h1 with rfl | rfl | rfl | rfl | rfl | rfl | rfl | rfl | rfl <;> decide +kernel
theorem shl_one {i : Nat} (hi : i ≤ 8) : shl .i64 1 (i : Int) = ((2 ^ i : Nat) : Int) := by
  have := shl_bit (b := 1) (by omega) hi
  rw [Nat.one_mul] at this
  exact this
theorem pow_le8 {i : Nat} (hi : i ≤ 8) : 2 ^ i ≤ 256 := Nat.le_trans (Nat.pow_le_pow_right (by decide) hi) (by decide)
theorem full_nat {n : Nat} : full (n : Int) = ((2 ^ n - 1 : Nat) : Int) := by
  unfold full
  rw [Int.toNat_natCast, Int.natCast_sub (Nat.two_pow_pos n)]; simp
theorem or_lt {a b n : Nat} (ha : a < 2 ^ n) (hb : b < 2 ^ n) : a ||| b < 2 ^ n := Nat.or_lt_two_pow ha hb
theorem two_pow_bit (i g : Nat) : (2 ^ i).testBit g = decide (i = g) := Nat.testBit_two_pow
theorem full_bit (n m : Nat) : (2 ^ n - 1).testBit m = decide (m < n) := Nat.testBit_two_pow_sub_one n m
/-- A set of n elements is below 2 ^ n. -/
theorem isSet_nat {n : Nat} {s : Int} (h : isSetB (n : Int) s = true) : ∃ t : Nat, s = (t : Int) ∧ t < 2 ^ n ∧ n ≤ 8 ∧ t < 256 := by
  have hb := isSetB_bd h
  obtain ⟨t, rfl⟩ := Int.eq_ofNat_of_zero_le hb.2.2.1
  rw [full_nat] at hb
  have := Nat.two_pow_pos n
  exact ⟨t, rfl, by omega, by omega, by omega⟩
theorem lt_bits {t n : Nat} (h : t < 2 ^ n) {m : Nat} (hm : n ≤ m) : t.testBit m = false := Nat.testBit_lt_two_pow (Nat.lt_of_lt_of_le h (Nat.pow_le_pow_right (by decide) hm))
theorem lt_of_bits {t n : Nat} (h : ∀ m, t.testBit m = true → m < n) : t < 2 ^ n := by
  refine Nat.lt_pow_two_of_testBit t fun i hi => ?_
  cases e : t.testBit i with
  | false => rfl
  | true => exact absurd (h i e) (by omega)
theorem isSet_mk {n t : Nat} (hn : n ≤ 8) (h : t < 2 ^ n) : isSetB (n : Int) (t : Int) = true := by
  unfold isSetB
  rw [full_nat]
  have := Nat.two_pow_pos n
  exact decide_eq_true ⟨by omega, by omega, by omega, by omega⟩

theorem xor_nat (a b : Nat) (ha : a < 2 ^ 63) (hb : b < 2 ^ 63) : Go.bits .xor .i64 a b = ((a ^^^ b : Nat) : Int) := by
  simp only [Go.bits, BitVec.ofInt_natCast, IntKind.bits]
  have e : (BitVec.ofNat 64 a ^^^ BitVec.ofNat 64 b).toNat = a ^^^ b := by
    rw [BitVec.toNat_xor, BitVec.toNat_ofNat, BitVec.toNat_ofNat, Nat.mod_eq_of_lt (by omega), Nat.mod_eq_of_lt (by omega)]
  have hl := Nat.xor_lt_two_pow ha hb
  have e2 : IntKind.i64.wrap ((a ^^^ b : Nat) : Int) = ((a ^^^ b : Nat) : Int) := i64_small _ (by omega) (by exact_mod_cast hl)
  exact (congrArg (fun n : Nat => IntKind.i64.wrap (n : Int)) e).trans e2
/-- The least element of d. -/
def tzN (d : Nat) : Nat := (List.range 8).findIdx (fun e => d.testBit e)
/-- The lectic order. -/
def beforeB (s t : Nat) : Bool := s != t && t.testBit (tzN (s ^^^ t))
theorem low_bit : ∀ d : Fin 256, d.val = 0 ∨ (tzN d.val < 8 ∧ Go.bits .and .i64 ((d.val : Nat) : Int) (wrap64 (-((d.val : Nat) : Int))) = ((2 ^ tzN d.val : Nat) : Int)) := by decide +kernel
def beforeI (s t : Int) : Bool := isSetB 8 s && (isSetB 8 t && beforeB s.toNat t.toNat)
theorem xor_ne {a b : Nat} (h : a ≠ b) : a ^^^ b ≠ 0 := fun e => h (by
  apply Nat.eq_of_testBit_eq; intro i
  have := congrArg (fun z : Nat => z.testBit i) e
  simp only [Nat.testBit_xor, Nat.zero_testBit] at this
  cases ha : a.testBit i <;> cases hb : b.testBit i <;> simp [ha, hb] at this ⊢)
theorem xor_256 {a b : Nat} (ha : a < 256) (hb : b < 256) : a ^^^ b < 256 := Nat.xor_lt_two_pow (n := 8) ha hb
theorem and_pow_ne (t k : Nat) : ((t &&& 2 ^ k) != 0) = t.testBit k := by
  cases h : t.testBit k with
  | true =>
    rw [bne_iff_ne]
    intro e
    have := congrArg (fun z : Nat => z.testBit k) e
    simp only [Nat.testBit_and, h, two_pow_bit, Nat.zero_testBit] at this
    simp at this
  | false =>
    have : t &&& 2 ^ k = 0 := by
      apply Nat.eq_of_testBit_eq; intro i
      rw [Nat.testBit_and, two_pow_bit, Nat.zero_testBit]
      by_cases e : k = i
      · subst e; rw [h]; rfl
      · simp [e]
    rw [this]; rfl
theorem spec_BeforeSet_eq (s t : Int) : spec_BeforeSet.f s t = some (beforeI s t) := by
  unfold spec_BeforeSet.f beforeI
  rw [spec_IsSet_eq, spec_IsSet_eq]
  cases h : isSetB 8 s with
  | false => simp
  | true =>
    cases h' : isSetB 8 t with
    | false => simp
    | true =>
      have h1 := isSetB_bd h
      have h2 := isSetB_bd h'
      obtain ⟨a, rfl⟩ := Int.eq_ofNat_of_zero_le h1.2.2.1
      obtain ⟨b, rfl⟩ := Int.eq_ofNat_of_zero_le h2.2.2.1
      simp only [Option.bind_some, if_true, Bool.true_and, Int.toNat_natCast]
      unfold beforeB
      by_cases e : a = b
      · subst e; rw [if_pos rfl]; simp
      · rw [if_neg (by omega), xor_nat _ _ (by omega) (by omega)]
        have hx := xor_256 (a := a) (b := b) (by omega) (by omega)
        rcases low_bit ⟨a ^^^ b, hx⟩ with h0 | ⟨h3, h4⟩
        · exact absurd h0 (xor_ne e)
        · dsimp only at h3 h4
          have hp : 2 ^ tzN (a ^^^ b) < 2 ^ 8 := Nat.pow_lt_pow_right (by decide) h3
          rw [h4, and_nat _ _ (by omega) (by omega), ← and_pow_ne]
          have e1 : (a != b) = true := by simp [e]
          have e2 : ((((b &&& 2 ^ tzN (a ^^^ b) : Nat)) : Int) != 0) = ((b &&& 2 ^ tzN (a ^^^ b)) != 0) := by
            rw [Bool.eq_iff_iff, bne_iff_ne, bne_iff_ne]; omega
          rw [e1, e2, Bool.true_and]

theorem impl_IsSet_eq (n s : Int) : impl_IsSet.f n s = some (isSetB n s) := by
  unfold impl_IsSet.f impl_within.f isSetB
  by_cases h0 : 0 ≤ n
  · by_cases h1 : n ≤ 8
    · rw [shl_full h0 h1]
      by_cases h2 : 0 ≤ s <;> simp [h0, h1, h2]
    · simp [h0, h1]
  · simp [h0]

theorem impl_isAnySet_eq (s : Int) : impl_isAnySet.f s = some (isSetB 8 s) := by
  unfold impl_isAnySet.f; rw [impl_IsSet_eq]; rfl

theorem impl_HasElement_eq (s e : Int) : impl_HasElement.f s e = some (isSetB 8 s && (decide (0 ≤ e ∧ e ≤ 7) && hasB s e)) := by
  unfold impl_HasElement.f impl_within.f
  rw [impl_isAnySet_eq]
  by_cases h : isSetB 8 s = true
  · have := isSetB_bd h
    by_cases h0 : 0 ≤ e
    · by_cases h1 : e ≤ 7
      · have h2 := bit_int (s := s) (e := e) (by omega) (by omega) h0 (by omega)
        simp [h, h0, h1, h2]
      · simp [h, h0, h1]
    · simp [h, h0]
  · simp [h]

theorem tz_eq : ∀ d : Fin 256, d.val = 0 ∨ bits_TrailingZeros64.f ((d.val : Nat) : Int) = some ((tzN d.val : Nat) : Int) := by decide +kernel
theorem impl_BeforeSet_eq (s t : Int) {k : Nat} (hk : 1 ≤ k) : impl_BeforeSet.f k s t = some (beforeI s t) := by
  obtain ⟨k, rfl⟩ : ∃ m, k = m + 1 := ⟨k - 1, by omega⟩
  unfold impl_BeforeSet.f beforeI
  rw [impl_isAnySet_eq, impl_isAnySet_eq]
  cases h : isSetB 8 s with
  | false => simp [impl_BeforeSet.j0]
  | true =>
    cases h' : isSetB 8 t with
    | false => simp [impl_BeforeSet.j0]
    | true =>
      have h1 := isSetB_bd h
      have h2 := isSetB_bd h'
      obtain ⟨a, rfl⟩ := Int.eq_ofNat_of_zero_le h1.2.2.1
      obtain ⟨b, rfl⟩ := Int.eq_ofNat_of_zero_le h2.2.2.1
      simp only [Option.bind_some, if_true, Bool.true_and, Int.toNat_natCast, impl_BeforeSet.j0]
      unfold beforeB
      by_cases e : a = b
      · subst e; simp
      · have e1 : ((a : Int) == (b : Int)) = false := by rw [beq_eq_false_iff_ne]; omega
        have e2 : (a != b) = true := by simp [e]
        have hx := xor_256 (a := a) (b := b) (by omega) (by omega)
        rw [e1, if_neg (by decide), xor_nat _ _ (by omega) (by omega), u64_small (by omega) (by omega), e2, Bool.true_and]
        unfold bits_TrailingZeros.f
        rcases tz_eq ⟨a ^^^ b, hx⟩ with h0 | h4
        · exact absurd h0 (xor_ne e)
        · dsimp only at h4
          rcases low_bit ⟨a ^^^ b, hx⟩ with h0 | ⟨h3, _⟩
          · exact absurd h0 (xor_ne e)
          · dsimp only at h3
            rw [h4]
            simp only [Option.bind_some]
            rw [impl_HasElement_eq, h', decide_eq_true (by omega : (0 : Int) ≤ ((tzN (a ^^^ b) : Nat) : Int) ∧ ((tzN (a ^^^ b) : Nat) : Int) ≤ 7)]
            rfl

theorem FnExactBeforeSet : laws_FnExactBeforeSet.Pure := by
  intro a0 a1 _ _
  refine ⟨1, ?_⟩
  unfold laws_FnExactBeforeSet.f
  simp only [spec_BeforeSet_eq, impl_BeforeSet_eq _ _ (Nat.le_refl 1), Option.bind_some, bne_self_eq_false]
  rfl

end Go.Proofs.YtcdcljoaoiofpaaDoor.Pure
