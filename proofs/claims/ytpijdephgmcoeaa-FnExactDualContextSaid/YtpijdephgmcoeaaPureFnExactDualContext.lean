/- For every input the law answers true. No condition. -/
import Derived.Test.YtpijdephgmcoeaaPFnExactDualContextx4
set_option linter.unusedVariables false
set_option linter.unusedSimpArgs false
namespace Go.Proofs.Ytpijdephgmcoeaa.Pure
open Go.RowKit Go.Proofs.Ytpijdephgmcoeaa.PFnExactDualContext Go.Proofs.YtpijdephgmcoeaaW.PrintWords Go.Proofs.YtpijdephgmcoeaaW.PrintLast
/-- The full set of n elements. -/
def full (n : Int) : Int := (2 : Int) ^ n.toNat - 1
def isSetB (n s : Int) : Bool := decide (0 ≤ n ∧ n ≤ 8 ∧ 0 ≤ s ∧ s ≤ full n)
def hasB (s e : Int) : Bool := s.toNat.testBit e.toNat
theorem nine {n : Int} (h0 : 0 ≤ n) (h1 : n ≤ 8) : n = 0 ∨ n = 1 ∨ n = 2 ∨ n = 3 ∨ n = 4 ∨ n = 5 ∨ n = 6 ∨ n = 7 ∨ n = 8 := by omega
theorem full_bd {n : Int} (h0 : 0 ≤ n) (h1 : n ≤ 8) : 0 ≤ full n ∧ full n ≤ 255 := by
  rcases nine h0 h1 with rfl | rfl | rfl | rfl | rfl | rfl | rfl | rfl | rfl <;> decide +kernel
theorem isSetB_bd {n s : Int} (h : isSetB n s = true) : 0 ≤ n ∧ n ≤ 8 ∧ 0 ≤ s ∧ s ≤ full n ∧ s ≤ 255 := by
  unfold isSetB at h
  have h := of_decide_eq_true h
  have := full_bd h.1 h.2.1
  omega
theorem isSetB8 (s : Int) : isSetB 8 s = decide (0 ≤ s ∧ s ≤ 255) := by
  unfold isSetB
  have : full 8 = 255 := by decide +kernel
  rw [this]; simp
theorem shl_full {n : Int} (h0 : 0 ≤ n) (h1 : n ≤ 8) : wrap64 (shl .i64 1 n - 1) = full n := by
  rcases nine h0 h1 with rfl | rfl | rfl | rfl | rfl | rfl | rfl | rfl | rfl <;> decide +kernel
theorem u64_small {n : Int} (h0 : 0 ≤ n) (h1 : n < 18446744073709551616) : IntKind.u64.wrap n = n := by
  simp only [IntKind.wrap, IntKind.bits, IntKind.signed]; simp; omega
theorem u64_nonneg (n : Int) : 0 ≤ IntKind.u64.wrap n := by
  simp only [IntKind.wrap, IntKind.bits, IntKind.signed]; simp; omega
theorem w64 {n : Int} (h0 : -9223372036854775808 ≤ n) (h1 : n < 9223372036854775808) : wrap64 n = n := by unfold wrap64; omega
theorem i64_small (n : Int) (h0 : 0 ≤ n) (h1 : n < 2 ^ 63) : IntKind.i64.wrap n = n := by rw [IntKind.wrap_i64]; omega
theorem and_nat (a b : Nat) (ha : a < 2 ^ 63) (hb : b < 2 ^ 63) : Go.bits .and .i64 a b = ((a &&& b : Nat) : Int) := (bits_nat .i64 63 (by decide) (fun n h0 h1 => i64_small n h0 h1) a b ha hb).1
theorem or_nat (a b : Nat) (ha : a < 2 ^ 63) (hb : b < 2 ^ 63) : Go.bits .or .i64 a b = ((a ||| b : Nat) : Int) := (bits_nat .i64 63 (by decide) (fun n h0 h1 => i64_small n h0 h1) a b ha hb).2
/-- What is in a and not in b. -/
def dif (a b : Nat) : Nat := a ^^^ (a &&& b)
theorem dif_bit (a b i : Nat) : (dif a b).testBit i = (a.testBit i && !b.testBit i) := by
  unfold dif; rw [Nat.testBit_xor, Nat.testBit_and]; cases a.testBit i <;> cases b.testBit i <;> rfl
theorem dif_lt (a b n : Nat) (ha : a < 2 ^ n) : dif a b < 2 ^ n := Nat.xor_lt_two_pow ha (Nat.lt_of_le_of_lt Nat.and_le_left ha)
theorem andNot_nat (a b : Nat) (ha : a < 2 ^ 63) (hb : b < 2 ^ 63) : Go.bits .andNot .i64 a b = ((dif a b : Nat) : Int) := by
  simp only [Go.bits, BitVec.ofInt_natCast, IntKind.bits]
  have e : (BitVec.ofNat 64 a &&& ~~~BitVec.ofNat 64 b).toNat = dif a b := by
    apply Nat.eq_of_testBit_eq
    intro i
    rw [dif_bit, BitVec.testBit_toNat, BitVec.getLsbD_and, BitVec.getLsbD_not, BitVec.getLsbD_ofNat, BitVec.getLsbD_ofNat]
    by_cases hi : i < 64
    · simp [hi]
    · have : a.testBit i = false := Nat.testBit_lt_two_pow (Nat.lt_of_lt_of_le ha (Nat.pow_le_pow_right (by decide) (by omega)))
      simp [hi, this]
  have hl := dif_lt a b 63 ha
  have e2 : IntKind.i64.wrap ((dif a b : Nat) : Int) = ((dif a b : Nat) : Int) := i64_small _ (by omega) (by exact_mod_cast hl)
  exact (congrArg (fun n : Nat => IntKind.i64.wrap (n : Int)) e).trans e2
theorem and_eq_iff_dif (a b : Nat) : (a &&& b = a) ↔ dif a b = 0 := by
  constructor
  · intro h; unfold dif; rw [h, Nat.xor_self]
  · intro h
    apply Nat.eq_of_testBit_eq; intro i
    have h2 := dif_bit a b i
    rw [h, Nat.zero_testBit] at h2
    rw [Nat.testBit_and]
    cases ha : a.testBit i <;> cases hb : b.testBit i <;> simp [ha, hb] at h2 ⊢
theorem bit_nat (s e : Nat) (hs : s < 2 ^ 63) (he : e ≤ 63) : (Go.bits .and .i64 (shr .i64 (s : Int) (e : Int)) 1 == 1) = s.testBit e := by
  have h1 : shr .i64 (s : Int) (e : Int) = ((s / 2 ^ e : Nat) : Int) := by
    unfold shr
    rw [Int.toNat_natCast, Nat.min_eq_left (by simp [IntKind.bits]; omega)]
    simp
  have h2 : s / 2 ^ e < 2 ^ 63 := Nat.lt_of_le_of_lt (Nat.div_le_self _ _) hs
  rw [h1, show (1 : Int) = ((1 : Nat) : Int) from rfl, and_nat _ _ h2 (by decide), Nat.and_one_is_mod, Nat.testBit_eq_decide_div_mod_eq]
  have : ((((s / 2 ^ e % 2 : Nat) : Int)) == ((1 : Nat) : Int)) = decide (s / 2 ^ e % 2 = 1) := by
    generalize s / 2 ^ e % 2 = q
    rw [Bool.eq_iff_iff, beq_iff_eq, decide_eq_true_iff]; omega
  exact this
theorem bit_int {s e : Int} (hs0 : 0 ≤ s) (hs : s < 9223372036854775808) (he0 : 0 ≤ e) (he : e ≤ 63) : (Go.bits .and .i64 (shr .i64 s e) 1 == 1) = hasB s e := by
  obtain ⟨a, rfl⟩ := Int.eq_ofNat_of_zero_le hs0
  obtain ⟨b, rfl⟩ := Int.eq_ofNat_of_zero_le he0
  exact bit_nat a b (by omega) (by omega)

theorem wstep {i : Int} {n : Nat} (h0 : 0 ≤ i) (h : i < (n : Int)) (hn : n ≤ 281474976710656) : wrap64 (i + 1) = i + 1 := by unfold wrap64; omega
theorem eqIntS_loop (a b : List Int) (hl : a.length = b.length) (hn : a.length ≤ 281474976710656) : ∀ (d i k : Nat), i + d = a.length → d < k → laws_eqIntS.l0 k a b (i : Int) = some (decide (a.drop i = b.drop i))
  | 0, i, k, hi, hk => by
    obtain ⟨k, rfl⟩ : ∃ m, k = m + 1 := ⟨k - 1, by omega⟩
    simp only [laws_eqIntS.l0]; rw [if_neg (by omega), List.drop_eq_nil_of_le (by omega), List.drop_eq_nil_of_le (by omega)]; simp
  | d + 1, i, k, hi, hk => by
    obtain ⟨k, rfl⟩ : ∃ m, k = m + 1 := ⟨k - 1, by omega⟩
    have h1 : i < a.length := by omega
    have h2 : i < b.length := by omega
    have ih := eqIntS_loop a b hl hn d (i + 1) k (by omega) (by omega)
    simp only [laws_eqIntS.l0]
    rw [if_pos (by omega), if_pos (by omega), if_pos (by omega), wstep (n := a.length) (by omega) (by omega) hn]
    have ra : rd a (i : Int) = a[i] := by unfold rd; rw [Int.toNat_natCast, List.getD_eq_getElem?_getD, List.getElem?_eq_getElem h1]; rfl
    have rb : rd b (i : Int) = b[i] := by unfold rd; rw [Int.toNat_natCast, List.getD_eq_getElem?_getD, List.getElem?_eq_getElem h2]; rfl
    rw [ra, rb, List.drop_eq_getElem_cons h1, List.drop_eq_getElem_cons h2]
    by_cases e : a[i] = b[i]
    · rw [if_pos e, e]
      have : ((i : Int) + 1) = ((i + 1 : Nat) : Int) := by omega
      rw [this, ih]; simp only [List.cons.injEq, true_and]
    · rw [if_neg e]; simp only [List.cons.injEq, e, false_and, decide_false]
theorem eqIntS_eq (a b : List Int) (hn : a.length ≤ 281474976710656) {k : Nat} (hk : a.length < k) : laws_eqIntS.f k a b = some (decide (a = b)) := by
  unfold laws_eqIntS.f
  by_cases hl : a.length = b.length
  · rw [if_pos (by omega)]
    have := eqIntS_loop a b hl hn a.length 0 k (by omega) hk
    simpa using this
  · rw [if_neg (by omega)]
    have : a ≠ b := fun h => hl (by rw [h])
    simp [this]

theorem rd_nat (l : List Int) (i : Nat) (h : i < l.length) : rd l (i : Int) = l[i] := by unfold rd; rw [Int.toNat_natCast, List.getD_eq_getElem?_getD, List.getElem?_eq_getElem h]; rfl
theorem toIntS_loop (a : List Int) (hn : a.length ≤ 35184372088832) : ∀ (d i k : Nat), i + d = a.length → d < k → laws_toIntS.l0 k a (a.take i ++ List.replicate d 0) (i : Int) = some a
  | 0, i, k, hi, hk => by
    obtain ⟨k, rfl⟩ : ∃ m, k = m + 1 := ⟨k - 1, by omega⟩
    simp only [laws_toIntS.l0]; rw [if_neg (by omega), List.take_of_length_le (by omega)]; simp
  | d + 1, i, k, hi, hk => by
    obtain ⟨k, rfl⟩ : ∃ m, k = m + 1 := ⟨k - 1, by omega⟩
    have h1 : i < a.length := by omega
    have ih := toIntS_loop a hn d (i + 1) k (by omega) (by omega)
    have hl : (a.take i ++ List.replicate (d + 1) 0).length = a.length := by rw [List.length_append, List.length_take, List.length_replicate]; omega
    simp only [laws_toIntS.l0]
    have e : (a.take i ++ List.replicate (d + 1) 0).set ((i : Int)).toNat (rd a (i : Int)) = a.take (i + 1) ++ List.replicate d 0 := by
      rw [Int.toNat_natCast, rd_nat a i h1, List.set_append_right _ _ (by rw [List.length_take]; omega), List.length_take, Nat.min_eq_left (by omega), Nat.sub_self, List.replicate_succ, List.set_cons_zero, List.take_succ_eq_append_getElem h1, List.append_assoc]
      rfl
    rw [if_pos (by omega), if_pos (by omega), if_pos (by rw [hl]; omega), e, wstep (n := a.length) (by omega) (by omega) (by omega), show (i : Int) + 1 = ((i + 1 : Nat) : Int) from by omega]
    exact ih
theorem toIntS_eq (a : List Int) (hn : a.length ≤ 35184372088832) {k : Nat} (hk : a.length < k) : laws_toIntS.f k a = some a := by
  unfold laws_toIntS.f
  rw [if_pos (by omega), if_pos (by omega), Int.toNat_natCast]
  have := toIntS_loop a hn a.length 0 k (by omega) hk
  simpa using this
theorem szIntS_eq (a : List Int) (hm : a.length ≤ maxLen) : laws_szIntS.f a 1048576 = some (if a.length ≤ 1048576 then 1048576 - (a.length : Int) else -1) := by
  unfold maxLen at hm
  unfold laws_szIntS.f
  rw [w64 (by omega) (by omega)]
  by_cases h : a.length ≤ 1048576
  · rw [if_neg (by omega), if_pos h]
  · rw [if_pos (by omega), if_neg h]
theorem szContext_eq (n : Int) (a : List Int) (hm : a.length ≤ maxLen) : laws_szContext.f n a 1048576 = some (if a.length ≤ 1048576 then 1048576 - (a.length : Int) else -1) := by
  unfold laws_szContext.f
  rw [szIntS_eq a hm, Option.bind_some]
  by_cases h : a.length ≤ 1048576
  · rw [if_pos h, if_neg (by omega)]
  · rw [if_neg h]; simp
theorem toContext_eq (n : Int) (a : List Int) (hn : a.length ≤ 1048576) {k : Nat} (hk : a.length < k) : laws_toContext.f k n a = some (n, a) := by
  unfold laws_toContext.f
  rw [toIntS_eq a (by omega) hk]; rfl
theorem eqContext_eq (n : Int) (a : List Int) (m : Int) (b : List Int) (hn : a.length ≤ 281474976710656) {k : Nat} (hk : a.length < k) : laws_eqContext.f k n a m b = some (decide (n = m ∧ a = b)) := by
  unfold laws_eqContext.f
  rw [eqIntS_eq a b hn hk]
  by_cases h : n = m
  · by_cases h2 : a = b <;> simp [h, h2]
  · simp [h]

/-- Row g, as a natural number. -/
def row (a : List Int) (g : Nat) : Nat := (a.getD g 0).toNat
def RowsOk (a : List Int) : Prop := ∀ x ∈ a, 0 ≤ x ∧ x ≤ 255
theorem rd_row {a : List Int} (h : RowsOk a) {i : Nat} (hi : i < a.length) : rd a (i : Int) = (row a i : Int) := by
  rw [rd_nat a i hi]
  have := h a[i] (List.getElem_mem hi)
  unfold row
  rw [List.getD_eq_getElem?_getD, List.getElem?_eq_getElem hi, Option.getD_some, Int.toNat_of_nonneg this.1]
theorem row_lt {a : List Int} (h : RowsOk a) (i : Nat) : row a i < 256 := by
  unfold row
  by_cases hi : i < a.length
  · have := h a[i] (List.getElem_mem hi)
    rw [List.getD_eq_getElem?_getD, List.getElem?_eq_getElem hi, Option.getD_some]; omega
  · rw [List.getD_eq_getElem?_getD, List.getElem?_eq_none (by omega)]; decide
theorem shl_bit {b : Nat} (hb : b ≤ 1) {i : Nat} (hi : i ≤ 8) : shl .i64 (b : Int) (i : Int) = ((b * 2 ^ i : Nat) : Int) := by
  have h0 : b = 0 ∨ b = 1 := by omega
  have h1 : i = 0 ∨ i = 1 ∨ i = 2 ∨ i = 3 ∨ i = 4 ∨ i = 5 ∨ i = 6 ∨ i = 7 ∨ i = 8 := by omega
  rcases h0 with rfl | rfl <;> rcases h1 with rfl | rfl | rfl | rfl | rfl | rfl | rfl | rfl | rfl <;> decide +kernel
theorem shl_one {i : Nat} (hi : i ≤ 8) : shl .i64 1 (i : Int) = ((2 ^ i : Nat) : Int) := by
  have := shl_bit (b := 1) (by omega) hi
  rw [Nat.one_mul] at this
  exact this
theorem pow_le8 {i : Nat} (hi : i ≤ 8) : 2 ^ i ≤ 256 := Nat.le_trans (Nat.pow_le_pow_right (by decide) hi) (by decide)
theorem full_nat {n : Nat} : full (n : Int) = ((2 ^ n - 1 : Nat) : Int) := by
  unfold full
  rw [Int.toNat_natCast, Int.natCast_sub (Nat.two_pow_pos n)]; simp
theorem or_lt {a b n : Nat} (ha : a < 2 ^ n) (hb : b < 2 ^ n) : a ||| b < 2 ^ n := Nat.or_lt_two_pow ha hb
theorem two_pow_bit (i g : Nat) : (2 ^ i).testBit g = decide (i = g) := Nat.testBit_two_pow
theorem full_bit (n m : Nat) : (2 ^ n - 1).testBit m = decide (m < n) := Nat.testBit_two_pow_sub_one n m
/-- A set of n elements is below 2 ^ n. -/
theorem isSet_nat {n : Nat} {s : Int} (h : isSetB (n : Int) s = true) : ∃ t : Nat, s = (t : Int) ∧ t < 2 ^ n ∧ n ≤ 8 ∧ t < 256 := by
  have hb := isSetB_bd h
  obtain ⟨t, rfl⟩ := Int.eq_ofNat_of_zero_le hb.2.2.1
  rw [full_nat] at hb
  have := Nat.two_pow_pos n
  exact ⟨t, rfl, by omega, by omega, by omega⟩
theorem lt_bits {t n : Nat} (h : t < 2 ^ n) {m : Nat} (hm : n ≤ m) : t.testBit m = false := Nat.testBit_lt_two_pow (Nat.lt_of_lt_of_le h (Nat.pow_le_pow_right (by decide) hm))
theorem lt_of_bits {t n : Nat} (h : ∀ m, t.testBit m = true → m < n) : t < 2 ^ n := by
  refine Nat.lt_pow_two_of_testBit t fun i hi => ?_
  cases e : t.testBit i with
  | false => rfl
  | true => exact absurd (h i e) (by omega)
theorem isSet_mk {n t : Nat} (hn : n ≤ 8) (h : t < 2 ^ n) : isSetB (n : Int) (t : Int) = true := by
  unfold isSetB
  rw [full_nat]
  have := Nat.two_pow_pos n
  exact decide_eq_true ⟨by omega, by omega, by omega, by omega⟩

theorem spec_IsSet_eq (n s : Int) : spec_IsSet.f n s = some (isSetB n s) := by
  unfold spec_IsSet.f spec_l1In.f isSetB
  by_cases h0 : 0 ≤ n
  · by_cases h1 : n ≤ 8
    · have hw := u64_small h0 (by omega)
      rw [hw, shl_full h0 h1]
      by_cases h2 : 0 ≤ s <;> simp [h0, h1, h2]
    · simp [h0, h1]
  · simp [h0]

theorem impl_IsSet_eq (n s : Int) : impl_IsSet.f n s = some (isSetB n s) := by
  unfold impl_IsSet.f impl_within.f isSetB
  by_cases h0 : 0 ≤ n
  · by_cases h1 : n ≤ 8
    · rw [shl_full h0 h1]
      by_cases h2 : 0 ≤ s <;> simp [h0, h1, h2]
    · simp [h0, h1]
  · simp [h0]

/-- Is it a context? -/
def ctxB (n : Int) (a : List Int) : Bool := decide (0 ≤ n ∧ n ≤ 6) && (decide (a.length ≤ 8) && a.all (isSetB n))
theorem ctxB_out {n : Int} {a : List Int} (h : ctxB n a = true) : 0 ≤ n ∧ n ≤ 6 ∧ a.length ≤ 8 ∧ ∀ x ∈ a, isSetB n x = true := by
  unfold ctxB at h
  simp only [Bool.and_eq_true, decide_eq_true_eq, List.all_eq_true] at h
  exact ⟨h.1.1, h.1.2, h.2.1, h.2.2⟩
theorem spec_IsContext_loop (n : Int) (a : List Int) (hn : a.length ≤ 281474976710656) : ∀ (d i k : Nat), i + d = a.length → d < k → spec_IsContext.l0 k (i : Int) n a = some (decide (0 ≤ n ∧ n ≤ 6) && (decide (a.length ≤ 8) && (a.drop i).all (isSetB n)))
  | 0, i, k, hi, hk => by
    obtain ⟨k, rfl⟩ : ∃ m, k = m + 1 := ⟨k - 1, by omega⟩
    simp only [spec_IsContext.l0]; rw [if_neg (by omega), List.drop_eq_nil_of_le (by omega)]
    unfold spec_l1In.f
    have e : decide ((a.length : Int) ≤ 8) = decide (a.length ≤ 8) := by rw [decide_eq_decide]; omega
    rw [e]
    by_cases h0 : 0 ≤ n
    · by_cases h1 : n ≤ 6 <;> simp [h0, h1]
    · simp [h0]
  | d + 1, i, k, hi, hk => by
    obtain ⟨k, rfl⟩ : ∃ m, k = m + 1 := ⟨k - 1, by omega⟩
    have h1 : i < a.length := by omega
    have ih := spec_IsContext_loop n a hn d (i + 1) k (by omega) (by omega)
    simp only [spec_IsContext.l0]
    rw [if_pos (by omega), if_pos (by omega), rd_nat a i h1, spec_IsSet_eq, Option.bind_some, List.drop_eq_getElem_cons h1, List.all_cons, wstep (n := a.length) (by omega) (by omega) hn]
    cases hs : isSetB n a[i] with
    | true => rw [if_pos rfl, show (i : Int) + 1 = ((i + 1 : Nat) : Int) from by omega, ih, Bool.true_and]
    | false => simp
theorem spec_IsContext_eq (n : Int) (a : List Int) (hn : a.length ≤ 281474976710656) {k : Nat} (hk : a.length < k) : spec_IsContext.f k n a = some (ctxB n a) := by
  unfold spec_IsContext.f ctxB
  have := spec_IsContext_loop n a hn a.length 0 k (by omega) hk
  simpa using this
theorem impl_IsContext_eq (n : Int) (a : List Int) : impl_IsContext.f n a = some (ctxB n a) := by
  unfold impl_IsContext.f ctxB impl_within.f
  have e : ∀ x, impl_IsContext.row n x = isSetB n x := fun x => by unfold impl_IsContext.row; rw [impl_IsSet_eq]; rfl
  have e2 : (!(a.any fun x => !impl_IsContext.row n x)) = a.all (isSetB n) := by
    simp only [e]
    induction a with
    | nil => rfl
    | cons x l ih => simp only [List.any_cons, List.all_cons, Bool.not_or, Bool.not_not, ih]
  rw [e2]
  by_cases h0 : 0 ≤ n
  · by_cases h1 : n ≤ 6
    · by_cases h2 : a.length ≤ 8
      · have h3 : (a.length : Int) ≤ 8 := by omega
        simp [h0, h1, h2, h3]
      · have h3 : ¬ (a.length : Int) ≤ 8 := by omega
        simp [h0, h1, h2, h3]
    · simp [h0, h1]
  · simp [h0]

/-- The rows of a set s of objects, from i on, d of them, met with acc. -/
def andFrom (a : List Int) (s : Nat) : Nat → Nat → Nat → Nat
  | _, 0, acc => acc
  | i, d + 1, acc => andFrom a s (i + 1) d (if s.testBit i then acc &&& row a i else acc)
theorem andFrom_bit (a : List Int) (s m : Nat) : ∀ (d i acc : Nat), (andFrom a s i d acc).testBit m = true ↔ acc.testBit m = true ∧ ∀ g, i ≤ g → g < i + d → s.testBit g = true → (row a g).testBit m = true
  | 0, i, acc => by simp only [andFrom]; exact ⟨fun h => ⟨h, fun g h1 h2 => absurd h2 (by omega)⟩, fun h => h.1⟩
  | d + 1, i, acc => by
    simp only [andFrom]
    rw [andFrom_bit a s m d (i + 1)]
    cases hs : s.testBit i with
    | true =>
      rw [if_pos rfl, Nat.testBit_and, Bool.and_eq_true]
      constructor
      · rintro ⟨⟨h1, h2⟩, h3⟩
        refine ⟨h1, fun g hg hg2 hb => ?_⟩
        by_cases e : g = i
        · subst e; exact h2
        · exact h3 g (by omega) (by omega) hb
      · rintro ⟨h1, h2⟩
        exact ⟨⟨h1, h2 i (Nat.le_refl _) (by omega) hs⟩, fun g hg hg2 => h2 g (by omega) (by omega)⟩
    | false =>
      rw [if_neg (by simp)]
      constructor
      · rintro ⟨h1, h3⟩
        refine ⟨h1, fun g hg hg2 hb => ?_⟩
        by_cases e : g = i
        · subst e; rw [hs] at hb; cases hb
        · exact h3 g (by omega) (by omega) hb
      · rintro ⟨h1, h2⟩
        exact ⟨h1, fun g hg hg2 => h2 g (by omega) (by omega)⟩
theorem andFrom_lt (a : List Int) (s : Nat) : ∀ (d i acc : Nat) (n : Nat), acc < 2 ^ n → andFrom a s i d acc < 2 ^ n := by
  intro d i acc n h
  refine lt_of_bits fun m hm => ?_
  have h1 := ((andFrom_bit a s m d i acc).1 hm).1
  apply Decidable.byContradiction
  intro hlt
  rw [lt_bits h (by omega)] at h1
  cases h1
/-- The attributes that all objects of s have. -/
def intentN (n : Nat) (a : List Int) (s : Nat) : Nat := andFrom a s 0 a.length (2 ^ n - 1)
theorem intentN_lt (n : Nat) (a : List Int) (s : Nat) : intentN n a s < 2 ^ n := andFrom_lt a s _ _ _ n (Nat.sub_lt (Nat.two_pow_pos n) (by decide))
theorem intentN_bit (n : Nat) (a : List Int) (s m : Nat) : (intentN n a s).testBit m = true ↔ m < n ∧ ∀ g, g < a.length → s.testBit g = true → (row a g).testBit m = true := by
  unfold intentN
  rw [andFrom_bit, full_bit, decide_eq_true_eq]
  exact ⟨fun h => ⟨h.1, fun g hg => h.2 g (Nat.zero_le _) (by omega)⟩, fun h => ⟨h.1, fun g _ hg => h.2 g (by omega)⟩⟩
/-- The objects from i on whose rows have all of t, joined with acc. -/
def extFrom (a : List Int) (t : Nat) : Nat → Nat → Nat → Nat
  | _, 0, acc => acc
  | i, d + 1, acc => extFrom a t (i + 1) d (if row a i &&& t = t then acc ||| 2 ^ i else acc)
theorem extFrom_bit (a : List Int) (t g : Nat) : ∀ (d i acc : Nat), (extFrom a t i d acc).testBit g = true ↔ acc.testBit g = true ∨ (i ≤ g ∧ g < i + d ∧ row a g &&& t = t)
  | 0, i, acc => by simp only [extFrom]; exact ⟨fun h => .inl h, fun h => h.elim id (fun h => absurd h.2.1 (by omega))⟩
  | d + 1, i, acc => by
    simp only [extFrom]
    rw [extFrom_bit a t g d (i + 1)]
    by_cases hs : row a i &&& t = t
    · rw [if_pos hs, Nat.testBit_or, two_pow_bit, Bool.or_eq_true, decide_eq_true_eq]
      constructor
      · rintro ((h | rfl) | ⟨h1, h2, h3⟩)
        · exact .inl h
        · exact .inr ⟨Nat.le_refl _, by omega, hs⟩
        · exact .inr ⟨by omega, by omega, h3⟩
      · rintro (h | ⟨h1, h2, h3⟩)
        · exact .inl (.inl h)
        · by_cases e : i = g
          · exact .inl (.inr e)
          · exact .inr ⟨by omega, by omega, h3⟩
    · rw [if_neg hs]
      constructor
      · rintro (h | ⟨h1, h2, h3⟩)
        · exact .inl h
        · exact .inr ⟨by omega, by omega, h3⟩
      · rintro (h | ⟨h1, h2, h3⟩)
        · exact .inl h
        · by_cases e : i = g
          · subst e; exact absurd h3 hs
          · exact .inr ⟨by omega, by omega, h3⟩
/-- The objects that have all attributes of t. -/
def extentN (a : List Int) (t : Nat) : Nat := extFrom a t 0 a.length 0
theorem and_eq_bits (x t : Nat) : x &&& t = t ↔ ∀ m, t.testBit m = true → x.testBit m = true := by
  constructor
  · intro h m hm
    have := congrArg (fun z : Nat => z.testBit m) h
    simp only [Nat.testBit_and, hm, Bool.and_true] at this
    exact this
  · intro h
    apply Nat.eq_of_testBit_eq; intro i
    rw [Nat.testBit_and]
    cases ht : t.testBit i with
    | true => rw [h i ht]; rfl
    | false => simp
theorem extentN_bit (a : List Int) (t g : Nat) : (extentN a t).testBit g = true ↔ g < a.length ∧ ∀ m, t.testBit m = true → (row a g).testBit m = true := by
  unfold extentN
  rw [extFrom_bit, Nat.zero_testBit, and_eq_bits]
  constructor
  · rintro (h | h)
    · cases h
    · exact ⟨by omega, h.2.2⟩
  · intro h; exact .inr ⟨Nat.zero_le _, by omega, h.2⟩
theorem extentN_lt (a : List Int) (t : Nat) : extentN a t < 2 ^ a.length := lt_of_bits fun g hg => ((extentN_bit a t g).1 hg).1
/-- The objects from i on that have the attribute m, joined with acc. -/
def colFrom (a : List Int) (m : Nat) : Nat → Nat → Nat → Nat
  | _, 0, acc => acc
  | i, d + 1, acc => colFrom a m (i + 1) d (acc ||| (if (row a i).testBit m then 2 ^ i else 0))
theorem colFrom_bit (a : List Int) (m g : Nat) : ∀ (d i acc : Nat), (colFrom a m i d acc).testBit g = true ↔ acc.testBit g = true ∨ (i ≤ g ∧ g < i + d ∧ (row a g).testBit m = true)
  | 0, i, acc => by simp only [colFrom]; exact ⟨fun h => .inl h, fun h => h.elim id (fun h => absurd h.2.1 (by omega))⟩
  | d + 1, i, acc => by
    simp only [colFrom]
    rw [colFrom_bit a m g d (i + 1), Nat.testBit_or, Bool.or_eq_true]
    cases hs : (row a i).testBit m with
    | true =>
      rw [if_pos rfl, two_pow_bit, decide_eq_true_eq]
      constructor
      · rintro ((h | rfl) | ⟨h1, h2, h3⟩)
        · exact .inl h
        · exact .inr ⟨Nat.le_refl _, by omega, hs⟩
        · exact .inr ⟨by omega, by omega, h3⟩
      · rintro (h | ⟨h1, h2, h3⟩)
        · exact .inl (.inl h)
        · by_cases e : i = g
          · exact .inl (.inr e)
          · exact .inr ⟨by omega, by omega, h3⟩
    | false =>
      rw [if_neg (by simp), Nat.zero_testBit]
      constructor
      · rintro ((h | h) | ⟨h1, h2, h3⟩)
        · exact .inl h
        · cases h
        · exact .inr ⟨by omega, by omega, h3⟩
      · rintro (h | ⟨h1, h2, h3⟩)
        · exact .inl (.inl h)
        · by_cases e : i = g
          · subst e; rw [hs] at h3; cases h3
          · exact .inr ⟨by omega, by omega, h3⟩
/-- The objects that have the attribute m. -/
def colN (a : List Int) (m : Nat) : Nat := colFrom a m 0 a.length 0
theorem colN_bit (a : List Int) (m g : Nat) : (colN a m).testBit g = true ↔ g < a.length ∧ (row a g).testBit m = true := by
  unfold colN
  rw [colFrom_bit, Nat.zero_testBit]
  constructor
  · rintro (h | h)
    · cases h
    · exact ⟨by omega, h.2.2⟩
  · intro h; exact .inr ⟨Nat.zero_le _, by omega, h.2⟩
theorem colN_lt (a : List Int) (m : Nat) : colN a m < 2 ^ a.length := lt_of_bits fun g hg => ((colN_bit a m g).1 hg).1
theorem ctx_rows {n : Int} {a : List Int} (h : ctxB n a = true) : RowsOk a := fun x hx => by
  have := isSetB_bd ((ctxB_out h).2.2.2 x hx)
  omega
theorem ctx_row_lt {n : Nat} {a : List Int} (h : ctxB (n : Int) a = true) (g : Nat) : row a g < 2 ^ n := by
  unfold row
  by_cases hg : g < a.length
  · obtain ⟨t, ht, hl, _, _⟩ := isSet_nat ((ctxB_out h).2.2.2 a[g] (List.getElem_mem hg))
    rw [List.getD_eq_getElem?_getD, List.getElem?_eq_getElem hg, Option.getD_some, ht]; exact hl
  · rw [List.getD_eq_getElem?_getD, List.getElem?_eq_none (by omega)]; exact Nat.two_pow_pos n

def dualI (n : Int) (a : List Int) : Int × List Int × Bool := if ctxB n a && decide (a.length ≤ 6) then ((a.length : Int), (List.range n.toNat).map (fun m => ((colN a m : Nat) : Int)), true) else (0, [], false)

theorem spec_l2Has_eq {s e : Int} (hs0 : 0 ≤ s) (hs : s < 9223372036854775808) (he0 : 0 ≤ e) (he : e ≤ 63) : spec_l2Has.f s e = some (hasB s e) := by
  unfold spec_l2Has.f
  rw [u64_small he0 (by omega), if_pos he0, bit_int hs0 hs he0 he]

theorem spec_l3Column_loop (n : Int) (a : List Int) (ha : RowsOk a) (hl : a.length ≤ 8) (m : Nat) (hm : m ≤ 63) : ∀ (d i k acc : Nat), i + d = a.length → d < k → acc < 2 ^ i → spec_l3Column.l0 k (m : Int) (acc : Int) (i : Int) n a = some ((colFrom a m i d acc : Nat) : Int)
  | 0, i, k, acc, hi, hk, _ => by
    obtain ⟨k, rfl⟩ : ∃ m, k = m + 1 := ⟨k - 1, by omega⟩
    simp only [spec_l3Column.l0, colFrom]; rw [if_neg (by omega)]
  | d + 1, i, k, acc, hi, hk, hacc => by
    obtain ⟨k, rfl⟩ : ∃ m, k = m + 1 := ⟨k - 1, by omega⟩
    have h1 : i < a.length := by omega
    have hr := row_lt ha i
    have hp := pow_le8 (i := i) (by omega)
    have h2 : 2 ^ (i + 1) = 2 * 2 ^ i := by rw [Nat.pow_succ]; omega
    simp only [spec_l3Column.l0, colFrom]
    rw [if_pos (by omega), if_pos (by omega), rd_row ha h1, spec_l2Has_eq (by omega) (by omega) (by omega) (by omega), Option.bind_some, show hasB (row a i : Int) (m : Int) = (row a i).testBit m from rfl, u64_small (by omega) (by omega), if_pos (show (0 : Int) ≤ (i : Int) by omega), shl_one (by omega), or_nat _ _ (by omega) (by omega), wstep (n := a.length) (by omega) (by omega) (by omega), show (i : Int) + 1 = ((i + 1 : Nat) : Int) from by omega]
    cases hb : (row a i).testBit m with
    | true =>
      rw [if_pos rfl, if_pos rfl]
      exact spec_l3Column_loop n a ha hl m hm d (i + 1) k _ (by omega) (by omega) (or_lt (by omega) (by omega))
    | false =>
      rw [if_neg (by simp), if_neg (by simp), Nat.or_zero]
      exact spec_l3Column_loop n a ha hl m hm d (i + 1) k _ (by omega) (by omega) (by omega)
theorem spec_l3Column_eq {n : Int} {a : List Int} (h : ctxB n a = true) {m : Nat} (hm : m ≤ 63) {k : Nat} (hk : 9 ≤ k) : spec_l3Column.f k n a m = some ((colN a m : Nat) : Int) := by
  have hc := ctxB_out h
  unfold spec_l3Column.f
  exact spec_l3Column_loop n a (ctx_rows h) hc.2.2.1 m hm a.length 0 k 0 (by omega) (by omega) (by simp)

theorem spec_Dual_loop {n : Nat} {a : List Int} (h : ctxB (n : Int) a = true) : ∀ (d i k : Nat), i + d = n → d + 9 < k → spec_DualContext.l0 k (i : Int) (n : Int) a (a.length : Int) ((List.range i).map (fun m => ((colN a m : Nat) : Int))) = some ((a.length : Int), (List.range n).map (fun m => ((colN a m : Nat) : Int)), true)
  | 0, i, k, hi, hk => by
    obtain ⟨k, rfl⟩ : ∃ m, k = m + 1 := ⟨k - 1, by omega⟩
    simp only [spec_DualContext.l0]; rw [if_neg (by omega)]
    have : i = n := by omega
    rw [this]
  | d + 1, i, k, hi, hk => by
    obtain ⟨k, rfl⟩ : ∃ m, k = m + 1 := ⟨k - 1, by omega⟩
    have hc := ctxB_out h
    have hl : ((List.range i).map (fun m => ((colN a m : Nat) : Int))).length = i := by rw [List.length_map, List.length_range]
    have e2 : (List.range i).map (fun m => ((colN a m : Nat) : Int)) ++ [((colN a i : Nat) : Int)] = (List.range (i + 1)).map (fun m => ((colN a m : Nat) : Int)) := by rw [List.range_succ, List.map_append]; rfl
    simp only [spec_DualContext.l0]
    rw [if_pos (by omega), spec_l3Column_eq h (by omega) (by omega), Option.bind_some, if_pos (by omega), e2, wstep (n := n) (by omega) (by omega) (by omega), show (i : Int) + 1 = ((i + 1 : Nat) : Int) from by omega]
    exact spec_Dual_loop h d (i + 1) k (by omega) (by omega)
theorem spec_DualContext_eq (n : Int) (a : List Int) (hn : a.length ≤ 281474976710656) {k : Nat} (hk : a.length + 30 ≤ k) : spec_DualContext.f k n a = some (dualI n a) := by
  obtain ⟨k, rfl⟩ : ∃ m, k = m + 1 := ⟨k - 1, by omega⟩
  unfold spec_DualContext.f dualI
  rw [spec_IsContext_eq n a hn (by omega), Option.bind_some]
  cases h1 : ctxB n a with
  | false => simp [spec_DualContext.j0]
  | true =>
    have hc := ctxB_out h1
    obtain ⟨m, rfl⟩ := Int.eq_ofNat_of_zero_le hc.1
    by_cases h2 : a.length ≤ 6
    · have h3 : ¬ ((a.length : Int) > 6) := by omega
      have e := spec_Dual_loop h1 m 0 k (by omega) (by omega)
      rw [if_pos rfl, decide_eq_false h3, decide_eq_true h2]
      simp only [spec_DualContext.j0]
      rw [if_neg (by decide)]
      simpa using e
    · have h3 : (a.length : Int) > 6 := by omega
      rw [if_pos rfl, decide_eq_true h3, decide_eq_false h2]
      simp [spec_DualContext.j0]

theorem shr_and_one (x m : Nat) (hx : x < 2 ^ 63) (hm : m ≤ 63) : Go.bits .and .i64 (shr .i64 (x : Int) (m : Int)) 1 = (((if x.testBit m then 1 else 0) : Nat) : Int) := by
  have h1 : shr .i64 (x : Int) (m : Int) = ((x / 2 ^ m : Nat) : Int) := by
    unfold shr
    rw [Int.toNat_natCast, Nat.min_eq_left (by simp [IntKind.bits]; omega)]
    simp
  have h2 : x / 2 ^ m < 2 ^ 63 := Nat.lt_of_le_of_lt (Nat.div_le_self _ _) hx
  rw [h1, show (1 : Int) = ((1 : Nat) : Int) from rfl, and_nat _ _ h2 (by decide), Nat.and_one_is_mod, Nat.testBit_eq_decide_div_mod_eq]
  congr 1
  rcases Nat.mod_two_eq_zero_or_one (x / 2 ^ m) with h | h <;> rw [h] <;> rfl
theorem impl_isAttribute_eq (n : Int) (a : List Int) (m : Int) : impl_isAttribute.f n a m = some (ctxB n a && decide (0 ≤ m ∧ m < n)) := by
  unfold impl_isAttribute.f impl_within.f
  rw [impl_IsContext_eq, Option.bind_some]
  cases h : ctxB n a with
  | false => simp
  | true =>
    have hc := ctxB_out h
    rw [if_pos rfl, w64 (by omega) (by omega)]
    by_cases h0 : 0 ≤ m
    · have e : decide (m ≤ n - 1) = decide (m < n) := by rw [decide_eq_decide]; omega
      simp [h0, e]
    · simp [h0]
theorem impl_ColumnOf_loop (a : List Int) (ha : RowsOk a) (hl : a.length ≤ 8) (m : Nat) (hm : m ≤ 63) : ∀ (d i k acc : Nat), i + d = a.length → d < k → acc < 2 ^ i → impl_ColumnOf.l0 k (m : Int) (acc : Int) a (a.length : Int) (i : Int) = some ((colFrom a m i d acc : Nat) : Int)
  | 0, i, k, acc, hi, hk, _ => by
    obtain ⟨k, rfl⟩ : ∃ m, k = m + 1 := ⟨k - 1, by omega⟩
    simp only [impl_ColumnOf.l0, colFrom]; rw [if_neg (by omega)]
  | d + 1, i, k, acc, hi, hk, hacc => by
    obtain ⟨k, rfl⟩ : ∃ m, k = m + 1 := ⟨k - 1, by omega⟩
    have h1 : i < a.length := by omega
    have hr := row_lt ha i
    have hp := pow_le8 (i := i) (by omega)
    have h2 : 2 ^ (i + 1) = 2 * 2 ^ i := by rw [Nat.pow_succ]; omega
    have hz : (if (row a i).testBit m then 2 ^ i else 0) = (if (row a i).testBit m then 1 else 0) * 2 ^ i := by cases (row a i).testBit m <;> simp
    have hz2 : (if (row a i).testBit m then 2 ^ i else 0) ≤ 2 ^ i := by cases (row a i).testBit m <;> simp
    simp only [impl_ColumnOf.l0, colFrom]
    rw [if_pos (by omega), if_pos (by omega), if_pos (by omega), if_pos (by omega), rd_row ha h1, shr_and_one _ _ (by omega) hm, shl_bit (by split <;> omega) (by omega), ← hz, or_nat _ _ (by omega) (by omega), wstep (n := a.length) (by omega) (by omega) (by omega), show (i : Int) + 1 = ((i + 1 : Nat) : Int) from by omega]
    exact impl_ColumnOf_loop a ha hl m hm d (i + 1) k _ (by omega) (by omega) (or_lt (by omega) (by omega))
/-- ColumnOf. -/
def columnI (n : Int) (a : List Int) (m : Int) : Int := if ctxB n a && decide (0 ≤ m ∧ m < n) then ((colN a m.toNat : Nat) : Int) else 0
theorem impl_ColumnOf_eq (n : Int) (a : List Int) (m : Int) {k : Nat} (hk : 9 ≤ k) : impl_ColumnOf.f k n a m = some (columnI n a m) := by
  unfold impl_ColumnOf.f columnI
  rw [impl_isAttribute_eq, Option.bind_some]
  cases h : (ctxB n a && decide (0 ≤ m ∧ m < n)) with
  | false => simp
  | true =>
    rw [Bool.and_eq_true, decide_eq_true_eq] at h
    have hc := ctxB_out h.1
    obtain ⟨m, rfl⟩ := Int.eq_ofNat_of_zero_le h.2.1
    rw [if_pos rfl, if_pos rfl]
    exact impl_ColumnOf_loop a (ctx_rows h.1) hc.2.2.1 m (by omega) a.length 0 k 0 (by omega) (by omega) (by simp)

/-- All columns. -/
def cols (n : Nat) (a : List Int) : List Int := (List.range n).map (fun m => ((colN a m : Nat) : Int))
theorem impl_columns_loop {n : Nat} {a : List Int} (h : ctxB (n : Int) a = true) : ∀ (d i k : Nat), i + d = n → d + 9 < k → impl_columns.l0 k (cols i a) (n : Int) (i : Int) (n : Int) a = some (cols n a)
  | 0, i, k, hi, hk => by
    obtain ⟨k, rfl⟩ : ∃ m, k = m + 1 := ⟨k - 1, by omega⟩
    simp only [impl_columns.l0]; rw [if_neg (by omega)]
    have : i = n := by omega
    rw [this]
  | d + 1, i, k, hi, hk => by
    obtain ⟨k, rfl⟩ : ∃ m, k = m + 1 := ⟨k - 1, by omega⟩
    have hc := ctxB_out h
    have hl : (cols i a).length = i := by unfold cols; rw [List.length_map, List.length_range]
    have e : columnI (n : Int) a (i : Int) = ((colN a i : Nat) : Int) := by
      unfold columnI
      rw [h, decide_eq_true (by omega : (0 : Int) ≤ (i : Int) ∧ (i : Int) < (n : Int))]; rfl
    have e2 : cols i a ++ [((colN a i : Nat) : Int)] = cols (i + 1) a := by unfold cols; rw [List.range_succ, List.map_append]; rfl
    simp only [impl_columns.l0]
    rw [if_pos (by omega), impl_ColumnOf_eq _ _ _ (by omega), Option.bind_some, if_pos (by omega), e, e2, wstep (n := n) (by omega) (by omega) (by omega), show (i : Int) + 1 = ((i + 1 : Nat) : Int) from by omega]
    exact impl_columns_loop h d (i + 1) k (by omega) (by omega)
theorem impl_columns_eq {n : Nat} {a : List Int} (h : ctxB (n : Int) a = true) {k : Nat} (hk : 20 ≤ k) : impl_columns.f k n a = some (cols n a) := by
  have hc := ctxB_out h
  unfold impl_columns.f
  exact impl_columns_loop h n 0 k (by omega) (by omega)

theorem impl_DualContext_eq (n : Int) (a : List Int) {k : Nat} (hk : 20 ≤ k) : impl_DualContext.f k n a = some (dualI n a) := by
  unfold impl_DualContext.f dualI
  rw [impl_IsContext_eq, Option.bind_some]
  cases h1 : ctxB n a with
  | false => simp
  | true =>
    have hc := ctxB_out h1
    obtain ⟨m, rfl⟩ := Int.eq_ofNat_of_zero_le hc.1
    by_cases h2 : a.length ≤ 6
    · rw [if_pos rfl, if_neg (by omega), impl_columns_eq h1 hk, decide_eq_true h2]
      simp [cols]
    · rw [if_pos rfl, if_pos (by omega), decide_eq_false h2]
      simp

/-- n numbers from m on. -/
def marked (m : Int) : Nat → List Int
  | 0 => []
  | n + 1 => m :: marked (m + 1) n
theorem marked_len (m : Int) (n : Nat) : (marked m n).length = n := by induction n generalizing m with
  | zero => rfl
  | succ n ih => simp [marked, ih]
theorem marked_get (m : Int) (n i : Nat) (h : i < n) : (marked m n).getD i 0 = m + i := by induction n generalizing m i with
  | zero => omega
  | succ n ih =>
    cases i with
    | zero => simp [marked]
    | succ i => simp only [marked, List.getD_cons_succ]; rw [ih (m + 1) i (by omega)]; omega
theorem marked_snoc (m : Int) (n : Nat) : marked m (n + 1) = marked m n ++ [m + n] := by induction n generalizing m with
  | zero => simp [marked]
  | succ n ih => rw [marked, ih (m + 1)]; simp only [marked, List.cons_append]; congr 3; omega
theorem mark_loop (a : List Int) (m : Int) (hm0 : 0 ≤ m) (hn : m + a.length ≤ 4611686018427387904) : ∀ (d i k : Nat), i + d = a.length → d < k → laws_markIntS.l0 k (marked m i ++ a.drop i) (m + i) (i : Int) = some (m + a.length, marked m a.length)
  | 0, i, k, hi, hk => by
    obtain ⟨k, rfl⟩ : ∃ m, k = m + 1 := ⟨k - 1, by omega⟩
    have hl : (marked m i ++ a.drop i).length = a.length := by rw [List.length_append, marked_len, List.length_drop]; omega
    simp only [laws_markIntS.l0]; rw [if_neg (by omega), List.drop_eq_nil_of_le (by omega), List.append_nil]
    have : i = a.length := by omega
    rw [this]
  | d + 1, i, k, hi, hk => by
    obtain ⟨k, rfl⟩ : ∃ m, k = m + 1 := ⟨k - 1, by omega⟩
    have hl : (marked m i ++ a.drop i).length = a.length := by rw [List.length_append, marked_len, List.length_drop]; omega
    have h1 : i < a.length := by omega
    have ih := mark_loop a m hm0 hn d (i + 1) k (by omega) (by omega)
    simp only [laws_markIntS.l0]
    rw [if_pos (by omega), if_pos (by omega), w64 (by omega) (by omega), w64 (by omega) (by omega)]
    have e : (marked m i ++ a.drop i).set ((i : Int)).toNat (m + i) = marked m (i + 1) ++ a.drop (i + 1) := by
      rw [Int.toNat_natCast, List.set_append_right _ _ (by rw [marked_len]; omega), marked_len, Nat.sub_self, List.drop_eq_getElem_cons h1, List.set_cons_zero, marked_snoc]; simp
    rw [e, show m + (i : Int) + 1 = m + ((i + 1 : Nat) : Int) from by omega, show (i : Int) + 1 = ((i + 1 : Nat) : Int) from by omega]
    exact ih
theorem markIntS_eq (a : List Int) (m : Int) (hm0 : 0 ≤ m) (hn : m + a.length ≤ 4611686018427387904) {k : Nat} (hk : a.length < k) : laws_markIntS.f k a m = some (m + a.length, marked m a.length) := by
  have := mark_loop a m hm0 hn a.length 0 k (by omega) hk
  unfold laws_markIntS.f
  simpa [marked] using this
theorem held_loop (n : Nat) (m : Int) (hm0 : 0 ≤ m) (hn : m + n ≤ 4611686018427387904) : ∀ (d i k : Nat), i + d = n → d < k → laws_heldIntS.l0 k (marked m n) (m + i) (i : Int) = some (m + n)
  | 0, i, k, hi, hk => by
    obtain ⟨k, rfl⟩ : ∃ m, k = m + 1 := ⟨k - 1, by omega⟩
    simp only [laws_heldIntS.l0]; rw [marked_len, if_neg (by omega)]; congr 1; omega
  | d + 1, i, k, hi, hk => by
    obtain ⟨k, rfl⟩ : ∃ m, k = m + 1 := ⟨k - 1, by omega⟩
    have ih := held_loop n m hm0 hn d (i + 1) k (by omega) (by omega)
    simp only [laws_heldIntS.l0]; rw [marked_len, if_pos (by omega), if_pos (by omega), w64 (by omega) (by omega), w64 (by omega) (by omega)]
    have : rd (marked m n) (i : Int) = m + i := by unfold rd; rw [Int.toNat_natCast, marked_get m n i (by omega)]
    rw [if_pos this, show m + (i : Int) + 1 = m + ((i + 1 : Nat) : Int) from by omega, show (i : Int) + 1 = ((i + 1 : Nat) : Int) from by omega]
    exact ih
theorem heldIntS_eq (n : Nat) (m : Int) (hm0 : 0 ≤ m) (hn : m + n ≤ 4611686018427387904) {k : Nat} (hk : n < k) : laws_heldIntS.f k (marked m n) m = some (m + n) := by
  have := held_loop n m hm0 hn n 0 k (by omega) hk
  unfold laws_heldIntS.f
  simpa using this

theorem markContext_eq (n : Int) (a : List Int) (hn : a.length ≤ 1048576) {k : Nat} (hk : a.length < k) : laws_markContext.f k n a 1 = some (1 + (a.length : Int), marked 1 a.length) := by
  unfold laws_markContext.f
  rw [markIntS_eq a 1 (by omega) (by omega) hk]; rfl
theorem heldContext_eq (n : Int) (m : Nat) (hn : m ≤ 1048576) {k : Nat} (hk : m < k) : laws_heldContext.f k n (marked 1 m) 1 = some (1 + (m : Int)) := by
  unfold laws_heldContext.f
  rw [heldIntS_eq m 1 (by omega) (by omega) hk, Option.bind_some, if_neg (by omega)]

theorem FnExactDualContext : laws_FnExactDualContext.Pure := by
  intro n a hn hm hw
  refine ⟨a.length + 40, ?_⟩
  unfold laws_FnExactDualContext.f
  rw [szContext_eq n a hm, Option.bind_some]
  by_cases h : a.length ≤ 1048576
  · rw [if_pos h, if_neg (by omega), toContext_eq n a h (by omega)]
    have T (k : Nat) (hk : a.length < k) := toContext_eq n a h hk
    have E (k : Nat) (hk : a.length < k) : laws_eqContext.f k n a n a = some true := by rw [eqContext_eq n a n a (by omega) hk]; simp
    have S := spec_DualContext_eq n a (by omega) (k := a.length + 40) (by omega)
    have I (k : Nat) (hk : 20 ≤ k) := impl_DualContext_eq n a hk
    obtain ⟨⟨m, c, b⟩, hr, hl⟩ : ∃ r : Int × List Int × Bool, dualI n a = r ∧ r.2.1.length ≤ 6 := by
      refine ⟨_, rfl, ?_⟩
      unfold dualI
      split
      · rename_i hh
        rw [Bool.and_eq_true] at hh
        have := ctxB_out hh.1
        show ((List.range n.toNat).map _).length ≤ _; rw [List.length_map, List.length_range]; omega
      · exact Nat.zero_le _
    rw [hr] at S
    simp only [hr] at I
    dsimp only at hl
    have EC (k : Nat) (hk : 6 < k) : laws_eqContext.f k m c m c = some true := by rw [eqContext_eq m c m c (by omega) (by omega)]; simp
    have M (k : Nat) (hk : a.length < k) := markContext_eq n a h hk
    have MC (k : Nat) (hk : 6 < k) := markContext_eq m c (by omega) (k := k) (by omega)
    have HC (k : Nat) (hk : 6 < k) := heldContext_eq m c.length (by omega) (k := k) (by omega)
    have g1 : ¬ ((1 : Int) + (a.length : Int) < 0) := by omega
    have g2 : ¬ ((1 : Int) + (c.length : Int) < 0) := by omega
    simp [laws_FnExactDualContext.j0, laws_FnExactDualContext.j1, laws_FnExactDualContext.j2, S, I _ (Nat.le_trans (by decide : 20 ≤ 37) (Nat.le_add_left 37 _)), I _ (Nat.le_trans (by decide : 20 ≤ 38) (Nat.le_add_left 38 _)), I _ (Nat.le_trans (by decide : 20 ≤ 40) (Nat.le_add_left 40 _)), T, E, EC, M, MC, HC, g1, g2]
  · rw [if_neg h]; simp

end Go.Proofs.Ytpijdephgmcoeaa.Pure
