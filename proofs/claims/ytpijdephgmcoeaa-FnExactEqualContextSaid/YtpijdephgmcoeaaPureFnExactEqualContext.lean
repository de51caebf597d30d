/- For every input the law answers true. No condition. -/
import Derived.Test.YtpijdephgmcoeaaPFnExactEqualContextx2
set_option linter.unusedVariables false
set_option linter.unusedSimpArgs false
namespace Go.Proofs.Ytpijdephgmcoeaa.Pure
open Go.RowKit Go.Proofs.Ytpijdephgmcoeaa.PFnExactEqualContext Go.Proofs.YtpijdephgmcoeaaW.PrintWords Go.Proofs.YtpijdephgmcoeaaW.PrintLast
/-- The full set of n elements. -/
def full (n : Int) : Int := (2 : Int) ^ n.toNat - 1
def isSetB (n s : Int) : Bool := decide (0 ≤ n ∧ n ≤ 8 ∧ 0 ≤ s ∧ s ≤ full n)
def hasB (s e : Int) : Bool := s.toNat.testBit e.toNat
theorem nine {n : Int} (h0 : 0 ≤ n) (h1 : n ≤ 8) : n = 0 ∨ n = 1 ∨ n = 2 ∨ n = 3 ∨ n = 4 ∨ n = 5 ∨ n = 6 ∨ n = 7 ∨ n = 8 := by omega
theorem full_bd {n : Int} (h0 : 0 ≤ n) (h1 : n ≤ 8) : 0 ≤ full n ∧ full n ≤ 255 := by
  rcases nine h0 h1 with rfl | rfl | rfl | rfl | rfl | rfl | rfl | rfl | rfl <;> decide +kernel
theorem isSetB_bd {n s : Int} (h : isSetB n s = true) : 0 ≤ n ∧ n ≤ 8 ∧ 0 ≤ s ∧ s ≤ full n ∧ s ≤ 255 := by
  unfold isSetB at h
  have h := of_decide_eq_true h
  have := full_bd h.1 h.2.1
  omega
theorem isSetB8 (s : Int) : isSetB 8 s = decide (0 ≤ s ∧ s ≤ 255) := by
  unfold isSetB
  have : full 8 = 255 := by decide +kernel
  rw [this]; simp
theorem shl_full {n : Int} (h0 : 0 ≤ n) (h1 : n ≤ 8) : wrap64 (shl .i64 1 n - 1) = full n := by
  rcases nine h0 h1 with rfl | rfl | rfl | rfl | rfl | rfl | rfl | rfl | rfl <;> decide +kernel
theorem u64_small {n : Int} (h0 : 0 ≤ n) (h1 : n < 18446744073709551616) : IntKind.u64.wrap n = n := by
  simp only [IntKind.wrap, IntKind.bits, IntKind.signed]; simp; omega
theorem u64_nonneg (n : Int) : 0 ≤ IntKind.u64.wrap n := by
  simp only [IntKind.wrap, IntKind.bits, IntKind.signed]; simp; omega
theorem w64 {n : Int} (h0 : -9223372036854775808 ≤ n) (h1 : n < 9223372036854775808) : wrap64 n = n := by unfold wrap64; omega
theorem i64_small (n : Int) (h0 : 0 ≤ n) (h1 : n < 2 ^ 63) : IntKind.i64.wrap n = n := by rw [IntKind.wrap_i64]; omega
theorem and_nat (a b : Nat) (ha : a < 2 ^ 63) (hb : b < 2 ^ 63) : Go.bits .and .i64 a b = ((a &&& b : Nat) : Int) := (bits_nat .i64 63 (by decide) (fun n h0 h1 => i64_small n h0 h1) a b ha hb).1
theorem or_nat (a b : Nat) (ha : a < 2 ^ 63) (hb : b < 2 ^ 63) : Go.bits .or .i64 a b = ((a ||| b : Nat) : Int) := (bits_nat .i64 63 (by decide) (fun n h0 h1 => i64_small n h0 h1) a b ha hb).2
/-- What is in a and not in b. -/
def dif (a b : Nat) : Nat := a ^^^ (a &&& b)
theorem dif_bit (a b i : Nat) : (dif a b).testBit i = (a.testBit i && !b.testBit i) := by
  unfold dif; rw [Nat.testBit_xor, Nat.testBit_and]; cases a.testBit i <;> cases b.testBit i <;> rfl
theorem dif_lt (a b n : Nat) (ha : a < 2 ^ n) : dif a b < 2 ^ n := Nat.xor_lt_two_pow ha (Nat.lt_of_le_of_lt Nat.and_le_left ha)
theorem andNot_nat (a b : Nat) (ha : a < 2 ^ 63) (hb : b < 2 ^ 63) : Go.bits .andNot .i64 a b = ((dif a b : Nat) : Int) := by
  simp only [Go.bits, BitVec.ofInt_natCast, IntKind.bits]
  have e : (BitVec.ofNat 64 a &&& ~~~BitVec.ofNat 64 b).toNat = dif a b := by
    apply Nat.eq_of_testBit_eq
    intro i
    rw [dif_bit, BitVec.testBit_toNat, BitVec.getLsbD_and, BitVec.getLsbD_not, BitVec.getLsbD_ofNat, BitVec.getLsbD_ofNat]
    by_cases hi : i < 64
    · simp [hi]
    · have : a.testBit i = false := Nat.testBit_lt_two_pow (Nat.lt_of_lt_of_le ha (Nat.pow_le_pow_right (by decide) (by omega)))
      simp [hi, this]
  have hl := dif_lt a b 63 ha
  have e2 : IntKind.i64.wrap ((dif a b : Nat) : Int) = ((dif a b : Nat) : Int) := i64_small _ (by omega) (by exact_mod_cast hl)
  exact (congrArg (fun n : Nat => IntKind.i64.wrap (n : Int)) e).trans e2
theorem and_eq_iff_dif (a b : Nat) : (a &&& b = a) ↔ dif a b = 0 := by
  constructor
  · intro h; unfold dif; rw [h, Nat.xor_self]
  · intro h
    apply Nat.eq_of_testBit_eq; intro i
    have h2 := dif_bit a b i
    rw [h, Nat.zero_testBit] at h2
    rw [Nat.testBit_and]
    cases ha : a.testBit i <;> cases hb : b.testBit i <;> simp [ha, hb] at h2 ⊢
theorem bit_nat (s e : Nat) (hs : s < 2 ^ 63) (he : e ≤ 63) : (Go.bits .and .i64 (shr .i64 (s : Int) (e : Int)) 1 == 1) = s.testBit e := by
  have h1 : shr .i64 (s : Int) (e : Int) = ((s / 2 ^ e : Nat) : Int) := by
    unfold shr
    rw [Int.toNat_natCast, Nat.min_eq_left (by simp [IntKind.bits]; omega)]
    simp
  have h2 : s / 2 ^ e < 2 ^ 63 := Nat.lt_of_le_of_lt (Nat.div_le_self _ _) hs
  rw [h1, show (1 : Int) = ((1 : Nat) : Int) from rfl, and_nat _ _ h2 (by decide), Nat.and_one_is_mod, Nat.testBit_eq_decide_div_mod_eq]
  have : ((((s / 2 ^ e % 2 : Nat) : Int)) == ((1 : Nat) : Int)) = decide (s / 2 ^ e % 2 = 1) := by
    generalize s / 2 ^ e % 2 = q
    rw [Bool.eq_iff_iff, beq_iff_eq, decide_eq_true_iff]; omega
  exact this
theorem bit_int {s e : Int} (hs0 : 0 ≤ s) (hs : s < 9223372036854775808) (he0 : 0 ≤ e) (he : e ≤ 63) : (Go.bits .and .i64 (shr .i64 s e) 1 == 1) = hasB s e := by
  obtain ⟨a, rfl⟩ := Int.eq_ofNat_of_zero_le hs0
  obtain ⟨b, rfl⟩ := Int.eq_ofNat_of_zero_le he0
  exact bit_nat a b (by omega) (by omega)

theorem wstep {i : Int} {n : Nat} (h0 : 0 ≤ i) (h : i < (n : Int)) (hn : n ≤ 281474976710656) : wrap64 (i + 1) = i + 1 := by unfold wrap64; omega
theorem eqIntS_loop (a b : List Int) (hl : a.length = b.length) (hn : a.length ≤ 281474976710656) : ∀ (d i k : Nat), i + d = a.length → d < k → laws_eqIntS.l0 k a b (i : Int) = some (decide (a.drop i = b.drop i))
  | 0, i, k, hi, hk => by
    obtain ⟨k, rfl⟩ : ∃ m, k = m + 1 := ⟨k - 1, by omega⟩
    simp only [laws_eqIntS.l0]; rw [if_neg (by omega), List.drop_eq_nil_of_le (by omega), List.drop_eq_nil_of_le (by omega)]; simp
  | d + 1, i, k, hi, hk => by
    obtain ⟨k, rfl⟩ : ∃ m, k = m + 1 := ⟨k - 1, by omega⟩
    have h1 : i < a.length := by omega
    have h2 : i < b.length := by omega
    have ih := eqIntS_loop a b hl hn d (i + 1) k (by omega) (by omega)
    simp only [laws_eqIntS.l0]
    rw [if_pos (by omega), if_pos (by omega), if_pos (by omega), wstep (n := a.length) (by omega) (by omega) hn]
    have ra : rd a (i : Int) = a[i] := by unfold rd; rw [Int.toNat_natCast, List.getD_eq_getElem?_getD, List.getElem?_eq_getElem h1]; rfl
    have rb : rd b (i : Int) = b[i] := by unfold rd; rw [Int.toNat_natCast, List.getD_eq_getElem?_getD, List.getElem?_eq_getElem h2]; rfl
    rw [ra, rb, List.drop_eq_getElem_cons h1, List.drop_eq_getElem_cons h2]
    by_cases e : a[i] = b[i]
    · rw [if_pos e, e]
      have : ((i : Int) + 1) = ((i + 1 : Nat) : Int) := by omega
      rw [this, ih]; simp only [List.cons.injEq, true_and]
    · rw [if_neg e]; simp only [List.cons.injEq, e, false_and, decide_false]
theorem eqIntS_eq (a b : List Int) (hn : a.length ≤ 281474976710656) {k : Nat} (hk : a.length < k) : laws_eqIntS.f k a b = some (decide (a = b)) := by
  unfold laws_eqIntS.f
  by_cases hl : a.length = b.length
  · rw [if_pos (by omega)]
    have := eqIntS_loop a b hl hn a.length 0 k (by omega) hk
    simpa using this
  · rw [if_neg (by omega)]
    have : a ≠ b := fun h => hl (by rw [h])
    simp [this]

theorem rd_nat (l : List Int) (i : Nat) (h : i < l.length) : rd l (i : Int) = l[i] := by unfold rd; rw [Int.toNat_natCast, List.getD_eq_getElem?_getD, List.getElem?_eq_getElem h]; rfl
theorem toIntS_loop (a : List Int) (hn : a.length ≤ 35184372088832) : ∀ (d i k : Nat), i + d = a.length → d < k → laws_toIntS.l0 k a (a.take i ++ List.replicate d 0) (i : Int) = some a
  | 0, i, k, hi, hk => by
    obtain ⟨k, rfl⟩ : ∃ m, k = m + 1 := ⟨k - 1, by omega⟩
    simp only [laws_toIntS.l0]; rw [if_neg (by omega), List.take_of_length_le (by omega)]; simp
  | d + 1, i, k, hi, hk => by
    obtain ⟨k, rfl⟩ : ∃ m, k = m + 1 := ⟨k - 1, by omega⟩
    have h1 : i < a.length := by omega
    have ih := toIntS_loop a hn d (i + 1) k (by omega) (by omega)
    have hl : (a.take i ++ List.replicate (d + 1) 0).length = a.length := by rw [List.length_append, List.length_take, List.length_replicate]; omega
    simp only [laws_toIntS.l0]
    have e : (a.take i ++ List.replicate (d + 1) 0).set ((i : Int)).toNat (rd a (i : Int)) = a.take (i + 1) ++ List.replicate d 0 := by
      rw [Int.toNat_natCast, rd_nat a i h1, List.set_append_right _ _ (by rw [List.length_take]; omega), List.length_take, Nat.min_eq_left (by omega), Nat.sub_self, List.replicate_succ, List.set_cons_zero, List.take_succ_eq_append_getElem h1, List.append_assoc]
      rfl
    rw [if_pos (by omega), if_pos (by omega), if_pos (by rw [hl]; omega), e, wstep (n := a.length) (by omega) (by omega) (by omega), show (i : Int) + 1 = ((i + 1 : Nat) : Int) from by omega]
    exact ih
theorem toIntS_eq (a : List Int) (hn : a.length ≤ 35184372088832) {k : Nat} (hk : a.length < k) : laws_toIntS.f k a = some a := by
  unfold laws_toIntS.f
  rw [if_pos (by omega), if_pos (by omega), Int.toNat_natCast]
  have := toIntS_loop a hn a.length 0 k (by omega) hk
  simpa using this
theorem szIntS_eq (a : List Int) (hm : a.length ≤ maxLen) : laws_szIntS.f a 1048576 = some (if a.length ≤ 1048576 then 1048576 - (a.length : Int) else -1) := by
  unfold maxLen at hm
  unfold laws_szIntS.f
  rw [w64 (by omega) (by omega)]
  by_cases h : a.length ≤ 1048576
  · rw [if_neg (by omega), if_pos h]
  · rw [if_pos (by omega), if_neg h]
theorem szContext_eq (n : Int) (a : List Int) (hm : a.length ≤ maxLen) : laws_szContext.f n a 1048576 = some (if a.length ≤ 1048576 then 1048576 - (a.length : Int) else -1) := by
  unfold laws_szContext.f
  rw [szIntS_eq a hm, Option.bind_some]
  by_cases h : a.length ≤ 1048576
  · rw [if_pos h, if_neg (by omega)]
  · rw [if_neg h]; simp
theorem toContext_eq (n : Int) (a : List Int) (hn : a.length ≤ 1048576) {k : Nat} (hk : a.length < k) : laws_toContext.f k n a = some (n, a) := by
  unfold laws_toContext.f
  rw [toIntS_eq a (by omega) hk]; rfl
theorem eqContext_eq (n : Int) (a : List Int) (m : Int) (b : List Int) (hn : a.length ≤ 281474976710656) {k : Nat} (hk : a.length < k) : laws_eqContext.f k n a m b = some (decide (n = m ∧ a = b)) := by
  unfold laws_eqContext.f
  rw [eqIntS_eq a b hn hk]
  by_cases h : n = m
  · by_cases h2 : a = b <;> simp [h, h2]
  · simp [h]

theorem l2Same_loop (a b : List Int) (hl : a.length = b.length) (hn : a.length ≤ 281474976710656) : ∀ (d i k : Nat), i + d = a.length → d < k → spec_l2Same.l0 k a b (i : Int) = some (decide (a.drop i = b.drop i))
  | 0, i, k, hi, hk => by
    obtain ⟨k, rfl⟩ : ∃ m, k = m + 1 := ⟨k - 1, by omega⟩
    simp only [spec_l2Same.l0]; rw [if_neg (by omega), List.drop_eq_nil_of_le (by omega), List.drop_eq_nil_of_le (by omega)]; simp
  | d + 1, i, k, hi, hk => by
    obtain ⟨k, rfl⟩ : ∃ m, k = m + 1 := ⟨k - 1, by omega⟩
    have h1 : i < a.length := by omega
    have h2 : i < b.length := by omega
    have ih := l2Same_loop a b hl hn d (i + 1) k (by omega) (by omega)
    simp only [spec_l2Same.l0]
    rw [if_pos (by omega), if_pos (by omega), if_pos (by omega), wstep (n := a.length) (by omega) (by omega) hn]
    have ra : rd a (i : Int) = a[i] := by unfold rd; rw [Int.toNat_natCast, List.getD_eq_getElem?_getD, List.getElem?_eq_getElem h1]; rfl
    have rb : rd b (i : Int) = b[i] := by unfold rd; rw [Int.toNat_natCast, List.getD_eq_getElem?_getD, List.getElem?_eq_getElem h2]; rfl
    rw [ra, rb, List.drop_eq_getElem_cons h1, List.drop_eq_getElem_cons h2]
    by_cases e : a[i] = b[i]
    · rw [if_pos e, e]
      have : ((i : Int) + 1) = ((i + 1 : Nat) : Int) := by omega
      rw [this, ih]; simp only [List.cons.injEq, true_and]
    · rw [if_neg e]; simp only [List.cons.injEq, e, false_and, decide_false]
theorem l2Same_eq (a b : List Int) (hn : a.length ≤ 281474976710656) {k : Nat} (hk : a.length < k) : spec_l2Same.f k a b = some (decide (a = b)) := by
  unfold spec_l2Same.f
  by_cases hl : a.length = b.length
  · rw [if_pos (by omega)]
    have := l2Same_loop a b hl hn a.length 0 k (by omega) hk
    simpa using this
  · rw [if_neg (by omega)]
    have : a ≠ b := fun h => hl (by rw [h])
    simp [this]

theorem slEqual_loop (a b : List Int) (hl : a.length = b.length) (hn : a.length ≤ 281474976710656) : ∀ (d i k : Nat), i + d = a.length → d < k → slices_Equal_int_int.l0 k a b (a.length : Int) (i : Int) = some (decide (a.drop i = b.drop i))
  | 0, i, k, hi, hk => by
    obtain ⟨k, rfl⟩ : ∃ m, k = m + 1 := ⟨k - 1, by omega⟩
    simp only [slices_Equal_int_int.l0]; rw [if_neg (by omega), List.drop_eq_nil_of_le (by omega), List.drop_eq_nil_of_le (by omega)]; simp
  | d + 1, i, k, hi, hk => by
    obtain ⟨k, rfl⟩ : ∃ m, k = m + 1 := ⟨k - 1, by omega⟩
    have h1 : i < a.length := by omega
    have h2 : i < b.length := by omega
    have ih := slEqual_loop a b hl hn d (i + 1) k (by omega) (by omega)
    simp only [slices_Equal_int_int.l0]
    rw [if_pos (by omega), if_pos (by omega), if_pos (by omega), if_pos (by omega), wstep (n := a.length) (by omega) (by omega) hn]
    have ra : rd a (i : Int) = a[i] := by unfold rd; rw [Int.toNat_natCast, List.getD_eq_getElem?_getD, List.getElem?_eq_getElem h1]; rfl
    have rb : rd b (i : Int) = b[i] := by unfold rd; rw [Int.toNat_natCast, List.getD_eq_getElem?_getD, List.getElem?_eq_getElem h2]; rfl
    rw [ra, rb, List.drop_eq_getElem_cons h1, List.drop_eq_getElem_cons h2]
    by_cases e : a[i] = b[i]
    · rw [if_pos e, e]
      have : ((i : Int) + 1) = ((i + 1 : Nat) : Int) := by omega
      rw [this, ih]; simp only [List.cons.injEq, true_and]
    · rw [if_neg e]; simp only [List.cons.injEq, e, false_and, decide_false]
theorem slEqual_eq (a b : List Int) (hn : a.length ≤ 281474976710656) {k : Nat} (hk : a.length < k) : slices_Equal_int_int.f k a b = some (decide (a = b)) := by
  unfold slices_Equal_int_int.f
  by_cases hl : a.length = b.length
  · rw [if_pos (by omega)]
    have := slEqual_loop a b hl hn a.length 0 k (by omega) hk
    simpa using this
  · rw [if_neg (by omega)]
    have : a ≠ b := fun h => hl (by rw [h])
    simp [this]

theorem szIntS_from (a : List Int) (L : Int) (hm : a.length ≤ maxLen) (h0 : 0 ≤ L) (h1 : L ≤ 1048576) : laws_szIntS.f a L = some (if (a.length : Int) ≤ L then L - (a.length : Int) else -1) := by
  unfold maxLen at hm
  unfold laws_szIntS.f
  rw [w64 (by omega) (by omega)]
  by_cases h : (a.length : Int) ≤ L
  · rw [if_neg (by omega), if_pos h]
  · rw [if_pos (by omega), if_neg h]
theorem szContext_from (n : Int) (a : List Int) (L : Int) (hm : a.length ≤ maxLen) (h0 : 0 ≤ L) (h1 : L ≤ 1048576) : laws_szContext.f n a L = some (if (a.length : Int) ≤ L then L - (a.length : Int) else -1) := by
  unfold laws_szContext.f
  rw [szIntS_from a L hm h0 h1, Option.bind_some]
  by_cases h : (a.length : Int) ≤ L
  · rw [if_pos h, if_neg (by omega)]
  · rw [if_neg h]; simp
theorem FnExactEqualContext : laws_FnExactEqualContext.Pure := by
  intro n a m b hn hm hw hm1 hm2 hw2
  refine ⟨a.length + b.length + 20, ?_⟩
  unfold laws_FnExactEqualContext.f
  rw [szContext_eq n a hm, Option.bind_some]
  by_cases h : a.length ≤ 1048576
  · rw [if_pos h, if_neg (by omega), szContext_from m b _ hm2 (by omega) (by omega), Option.bind_some]
    by_cases h2 : (b.length : Int) ≤ 1048576 - (a.length : Int)
    · rw [if_pos h2, if_neg (by omega)]
      have k1 := toContext_eq n a (by omega) (k := a.length + b.length + 20) (by omega)
      have k2 := toContext_eq m b (by omega) (k := a.length + b.length + 20) (by omega)
      have e1 := eqContext_eq n a n a (by omega) (k := a.length + b.length + 20) (by omega)
      have e2 := eqContext_eq m b m b (by omega) (k := a.length + b.length + 20) (by omega)
      have e3 := l2Same_eq a b (by omega) (k := a.length + b.length + 20) (by omega)
      have e4 := slEqual_eq a b (by omega) (k := a.length + b.length + 20) (by omega)
      have e5 : spec_EqualContext.f (a.length + b.length + 20) n a m b = some (decide (n = m ∧ a = b)) := by
        unfold spec_EqualContext.f
        rw [e3]
        by_cases h : n = m <;> simp [h]
      have e6 : impl_EqualContext.f (a.length + b.length + 20) n a m b = some (decide (n = m ∧ a = b)) := by
        unfold impl_EqualContext.f
        rw [e4]
        by_cases h : n = m <;> simp [h]
      simp [k1, k2, e1, e2, e5, e6]
    · rw [if_neg h2]; simp
  · rw [if_neg h]; simp

end Go.Proofs.Ytpijdephgmcoeaa.Pure
