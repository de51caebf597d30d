/- For every input the law answers true. No condition. -/
import Derived.Test.YtapfgfkpnmjhnaaDoorPFnExactContextTextx5
set_option linter.unusedVariables false
set_option linter.unusedSimpArgs false
namespace Go.Proofs.YtapfgfkpnmjhnaaDoor.Pure
open Go.RowKit Go.Proofs.YtapfgfkpnmjhnaaDoor.PFnExactContextText Go.Proofs.YtapfgfkpnmjhnaaDoorW.PrintWords Go.Proofs.YtapfgfkpnmjhnaaDoorW.PrintLast
/-- The full set of n elements. -/
def full (n : Int) : Int := (2 : Int) ^ n.toNat - 1
def isSetB (n s : Int) : Bool := decide (0 ≤ n ∧ n ≤ 8 ∧ 0 ≤ s ∧ s ≤ full n)
def hasB (s e : Int) : Bool := s.toNat.testBit e.toNat
theorem nine {n : Int} (h0 : 0 ≤ n) (h1 : n ≤ 8) : n = 0 ∨ n = 1 ∨ n = 2 ∨ n = 3 ∨ n = 4 ∨ n = 5 ∨ n = 6 ∨ n = 7 ∨ n = 8 := by omega
theorem full_bd {n : Int} (h0 : 0 ≤ n) (h1 : n ≤ 8) : 0 ≤ full n ∧ full n ≤ 255 := by
  rcases nine h0 h1 with rfl | rfl | rfl | rfl | rfl | rfl | rfl | rfl | rfl <;> decide +kernel
theorem isSetB_bd {n s : Int} (h : isSetB n s = true) : 0 ≤ n ∧ n ≤ 8 ∧ 0 ≤ s ∧ s ≤ full n ∧ s ≤ 255 := by
  unfold isSetB at h
  have h := of_decide_eq_true h
  have := full_bd h.1 h.2.1
  omega
theorem isSetB8 (s : Int) : isSetB 8 s = decide (0 ≤ s ∧ s ≤ 255) := by
  unfold isSetB
  have : full 8 = 255 := by decide +kernel
  rw [this]; simp
theorem shl_full {n : Int} (h0 : 0 ≤ n) (h1 : n ≤ 8) : wrap64 (shl .i64 1 n - 1) = full n := by
  rcases nine h0 h1 with rfl | rfl | rfl | rfl | rfl | rfl | rfl | rfl | rfl <;> decide +kernel
theorem u64_small {n : Int} (h0 : 0 ≤ n) (h1 : n < 18446744073709551616) : IntKind.u64.wrap n = n := by
  simp only [IntKind.wrap, IntKind.bits, IntKind.signed]; simp; omega
theorem u64_nonneg (n : Int) : 0 ≤ IntKind.u64.wrap n := by
  simp only [IntKind.wrap, IntKind.bits, IntKind.signed]; simp; omega
theorem w64 {n : Int} (h0 : -9223372036854775808 ≤ n) (h1 : n < 9223372036854775808) : wrap64 n = n := by unfold wrap64; omega
theorem i64_small (n : Int) (h0 : 0 ≤ n) (h1 : n < 2 ^ 63) : IntKind.i64.wrap n = n := by rw [IntKind.wrap_i64]; omega
theorem and_nat (a b : Nat) (ha : a < 2 ^ 63) (hb : b < 2 ^ 63) : Go.bits .and .i64 a b = ((a &&& b : Nat) : Int) := (bits_nat .i64 63 (by decide) (fun n h0 h1 => i64_small n h0 h1) a b ha hb).1
theorem or_nat (a b : Nat) (ha : a < 2 ^ 63) (hb : b < 2 ^ 63) : Go.bits .or .i64 a b = ((a ||| b : Nat) : Int) := (bits_nat .i64 63 (by decide) (fun n h0 h1 => i64_small n h0 h1) a b ha hb).2
/-- What is in a and not in b. -/
def dif (a b : Nat) : Nat := a ^^^ (a &&& b)
theorem dif_bit (a b i : Nat) : (dif a b).testBit i = (a.testBit i && !b.testBit i) := by
  unfold dif; rw [Nat.testBit_xor, Nat.testBit_and]; cases a.testBit i <;> cases b.testBit i <;> rfl
theorem dif_lt (a b n : Nat) (ha : a < 2 ^ n) : dif a b < 2 ^ n := Nat.xor_lt_two_pow ha (Nat.lt_of_le_of_lt Nat.and_le_left ha)
theorem andNot_nat (a b : Nat) (ha : a < 2 ^ 63) (hb : b < 2 ^ 63) : Go.bits .andNot .i64 a b = ((dif a b : Nat) : Int) := by
  simp only [Go.bits, BitVec.ofInt_natCast, IntKind.bits]
  have e : (BitVec.ofNat 64 a &&& ~~~BitVec.ofNat 64 b).toNat = dif a b := by
    apply Nat.eq_of_testBit_eq
    intro i
    rw [dif_bit, BitVec.testBit_toNat, BitVec.getLsbD_and, BitVec.getLsbD_not, BitVec.getLsbD_ofNat, BitVec.getLsbD_ofNat]
    by_cases hi : i < 64
    · simp [hi]
    · have : a.testBit i = false := Nat.testBit_lt_two_pow (Nat.lt_of_lt_of_le ha (Nat.pow_le_pow_right (by decide) (by omega)))
      simp [hi, this]
  have hl := dif_lt a b 63 ha
  have e2 : IntKind.i64.wrap ((dif a b : Nat) : Int) = ((dif a b : Nat) : Int) := i64_small _ (by omega) (by exact_mod_cast hl)
  exact (congrArg (fun n : Nat => IntKind.i64.wrap (n : Int)) e).trans e2
theorem and_eq_iff_dif (a b : Nat) : (a &&& b = a) ↔ dif a b = 0 := by
  constructor
  · intro h; unfold dif; rw [h, Nat.xor_self]
  · intro h
    apply Nat.eq_of_testBit_eq; intro i
    have h2 := dif_bit a b i
    rw [h, Nat.zero_testBit] at h2
    rw [Nat.testBit_and]
    cases ha : a.testBit i <;> cases hb : b.testBit i <;> simp [ha, hb] at h2 ⊢
theorem bit_nat (s e : Nat) (hs : s < 2 ^ 63) (he : e ≤ 63) : (Go.bits .and .i64 (shr .i64 (s : Int) (e : Int)) 1 == 1) = s.testBit e := by
  have h1 : shr .i64 (s : Int) (e : Int) = ((s / 2 ^ e : Nat) : Int) := by
    unfold shr
    rw [Int.toNat_natCast, Nat.min_eq_left (by simp [IntKind.bits]; omega)]
    simp
  have h2 : s / 2 ^ e < 2 ^ 63 := Nat.lt_of_le_of_lt (Nat.div_le_self _ _) hs
  rw [h1, show (1 : Int) = ((1 : Nat) : Int) from rfl, and_nat _ _ h2 (by decide), Nat.and_one_is_mod, Nat.testBit_eq_decide_div_mod_eq]
  have : ((((s / 2 ^ e % 2 : Nat) : Int)) == ((1 : Nat) : Int)) = decide (s / 2 ^ e % 2 = 1) := by
    generalize s / 2 ^ e % 2 = q
    rw [Bool.eq_iff_iff, beq_iff_eq, decide_eq_true_iff]; omega
  exact this
theorem bit_int {s e : Int} (hs0 : 0 ≤ s) (hs : s < 9223372036854775808) (he0 : 0 ≤ e) (he : e ≤ 63) : (Go.bits .and .i64 (shr .i64 s e) 1 == 1) = hasB s e := by
  obtain ⟨a, rfl⟩ := Int.eq_ofNat_of_zero_le hs0
  obtain ⟨b, rfl⟩ := Int.eq_ofNat_of_zero_le he0
  exact bit_nat a b (by omega) (by omega)

theorem wstep {i : Int} {n : Nat} (h0 : 0 ≤ i) (h : i < (n : Int)) (hn : n ≤ 281474976710656) : wrap64 (i + 1) = i + 1 := by unfold wrap64; omega
theorem rd_nat (l : List Int) (i : Nat) (h : i < l.length) : rd l (i : Int) = l[i] := by unfold rd; rw [Int.toNat_natCast, List.getD_eq_getElem?_getD, List.getElem?_eq_getElem h]; rfl

theorem eqIntS_loop (a b : List Int) (hl : a.length = b.length) (hn : a.length ≤ 281474976710656) : ∀ (d i k : Nat), i + d = a.length → d < k → laws_eqIntS.l0 k a b (i : Int) = some (decide (a.drop i = b.drop i))
  | 0, i, k, hi, hk => by
    obtain ⟨k, rfl⟩ : ∃ m, k = m + 1 := ⟨k - 1, by omega⟩
    simp only [laws_eqIntS.l0]; rw [if_neg (by omega), List.drop_eq_nil_of_le (by omega), List.drop_eq_nil_of_le (by omega)]; simp
  | d + 1, i, k, hi, hk => by
    obtain ⟨k, rfl⟩ : ∃ m, k = m + 1 := ⟨k - 1, by omega⟩
    have h1 : i < a.length := by omega
    have h2 : i < b.length := by omega
    have ih := eqIntS_loop a b hl hn d (i + 1) k (by omega) (by omega)
    simp only [laws_eqIntS.l0]
    rw [if_pos (by omega), if_pos (by omega), if_pos (by omega), wstep (n := a.length) (by omega) (by omega) hn]
    have ra : rd a (i : Int) = a[i] := by unfold rd; rw [Int.toNat_natCast, List.getD_eq_getElem?_getD, List.getElem?_eq_getElem h1]; rfl
    have rb : rd b (i : Int) = b[i] := by unfold rd; rw [Int.toNat_natCast, List.getD_eq_getElem?_getD, List.getElem?_eq_getElem h2]; rfl
    rw [ra, rb, List.drop_eq_getElem_cons h1, List.drop_eq_getElem_cons h2]
    by_cases e : a[i] = b[i]
    · rw [if_pos e, e]
      have : ((i : Int) + 1) = ((i + 1 : Nat) : Int) := by omega
      rw [this, ih]; simp only [List.cons.injEq, true_and]
    · rw [if_neg e]; simp only [List.cons.injEq, e, false_and, decide_false]
theorem eqIntS_eq (a b : List Int) (hn : a.length ≤ 281474976710656) {k : Nat} (hk : a.length < k) : laws_eqIntS.f k a b = some (decide (a = b)) := by
  unfold laws_eqIntS.f
  by_cases hl : a.length = b.length
  · rw [if_pos (by omega)]
    have := eqIntS_loop a b hl hn a.length 0 k (by omega) hk
    simpa using this
  · rw [if_neg (by omega)]
    have : a ≠ b := fun h => hl (by rw [h])
    simp [this]

theorem toIntS_loop (a : List Int) (hn : a.length ≤ 35184372088832) : ∀ (d i k : Nat), i + d = a.length → d < k → laws_toIntS.l0 k a (a.take i ++ List.replicate d 0) (i : Int) = some a
  | 0, i, k, hi, hk => by
    obtain ⟨k, rfl⟩ : ∃ m, k = m + 1 := ⟨k - 1, by omega⟩
    simp only [laws_toIntS.l0]; rw [if_neg (by omega), List.take_of_length_le (by omega)]; simp
  | d + 1, i, k, hi, hk => by
    obtain ⟨k, rfl⟩ : ∃ m, k = m + 1 := ⟨k - 1, by omega⟩
    have h1 : i < a.length := by omega
    have ih := toIntS_loop a hn d (i + 1) k (by omega) (by omega)
    have hl : (a.take i ++ List.replicate (d + 1) 0).length = a.length := by rw [List.length_append, List.length_take, List.length_replicate]; omega
    simp only [laws_toIntS.l0]
    have e : (a.take i ++ List.replicate (d + 1) 0).set ((i : Int)).toNat (rd a (i : Int)) = a.take (i + 1) ++ List.replicate d 0 := by
      rw [Int.toNat_natCast, rd_nat a i h1, List.set_append_right _ _ (by rw [List.length_take]; omega), List.length_take, Nat.min_eq_left (by omega), Nat.sub_self, List.replicate_succ, List.set_cons_zero, List.take_succ_eq_append_getElem h1, List.append_assoc]
      rfl
    rw [if_pos (by omega), if_pos (by omega), if_pos (by rw [hl]; omega), e, wstep (n := a.length) (by omega) (by omega) (by omega), show (i : Int) + 1 = ((i + 1 : Nat) : Int) from by omega]
    exact ih
theorem toIntS_eq (a : List Int) (hn : a.length ≤ 35184372088832) {k : Nat} (hk : a.length < k) : laws_toIntS.f k a = some a := by
  unfold laws_toIntS.f
  rw [if_pos (by omega), if_pos (by omega), Int.toNat_natCast]
  have := toIntS_loop a hn a.length 0 k (by omega) hk
  simpa using this

theorem szIntS_eq (a : List Int) (hm : a.length ≤ maxLen) : laws_szIntS.f a 1048576 = some (if a.length ≤ 1048576 then 1048576 - (a.length : Int) else -1) := by
  unfold maxLen at hm
  unfold laws_szIntS.f
  rw [w64 (by omega) (by omega)]
  by_cases h : a.length ≤ 1048576
  · rw [if_neg (by omega), if_pos h]
  · rw [if_pos (by omega), if_neg h]
theorem szContext_eq (n : Int) (a : List Int) (hm : a.length ≤ maxLen) : laws_szContext.f n a 1048576 = some (if a.length ≤ 1048576 then 1048576 - (a.length : Int) else -1) := by
  unfold laws_szContext.f
  rw [szIntS_eq a hm, Option.bind_some]
  by_cases h : a.length ≤ 1048576
  · rw [if_pos h, if_neg (by omega)]
  · rw [if_neg h]; simp
theorem toContext_eq (n : Int) (a : List Int) (hn : a.length ≤ 1048576) {k : Nat} (hk : a.length < k) : laws_toContext.f k n a = some (n, a) := by
  unfold laws_toContext.f
  rw [toIntS_eq a (by omega) hk]; rfl
theorem eqContext_eq (n : Int) (a : List Int) (m : Int) (b : List Int) (hn : a.length ≤ 281474976710656) {k : Nat} (hk : a.length < k) : laws_eqContext.f k n a m b = some (decide (n = m ∧ a = b)) := by
  unfold laws_eqContext.f
  rw [eqIntS_eq a b hn hk]
  by_cases h : n = m
  · by_cases h2 : a = b <;> simp [h, h2]
  · simp [h]

theorem spec_IsSet_eq (n s : Int) : spec_IsSet.f n s = some (isSetB n s) := by
  unfold spec_IsSet.f spec_l1In.f isSetB
  by_cases h0 : 0 ≤ n
  · by_cases h1 : n ≤ 8
    · have hw := u64_small h0 (by omega)
      rw [hw, shl_full h0 h1]
      by_cases h2 : 0 ≤ s <;> simp [h0, h1, h2]
    · simp [h0, h1]
  · simp [h0]

theorem impl_IsSet_eq (n s : Int) : impl_IsSet.f n s = some (isSetB n s) := by
  unfold impl_IsSet.f impl_within.f isSetB
  by_cases h0 : 0 ≤ n
  · by_cases h1 : n ≤ 8
    · rw [shl_full h0 h1]
      by_cases h2 : 0 ≤ s <;> simp [h0, h1, h2]
    · simp [h0, h1]
  · simp [h0]

/-- Is it a context? -/
def ctxB (n : Int) (a : List Int) : Bool := decide (0 ≤ n ∧ n ≤ 6) && (decide (a.length ≤ 8) && a.all (isSetB n))
theorem ctxB_out {n : Int} {a : List Int} (h : ctxB n a = true) : 0 ≤ n ∧ n ≤ 6 ∧ a.length ≤ 8 ∧ ∀ x ∈ a, isSetB n x = true := by
  unfold ctxB at h
  simp only [Bool.and_eq_true, decide_eq_true_eq, List.all_eq_true] at h
  exact ⟨h.1.1, h.1.2, h.2.1, h.2.2⟩
theorem spec_IsContext_loop (n : Int) (a : List Int) (hn : a.length ≤ 281474976710656) : ∀ (d i k : Nat), i + d = a.length → d < k → spec_IsContext.l0 k (i : Int) n a = some (decide (0 ≤ n ∧ n ≤ 6) && (decide (a.length ≤ 8) && (a.drop i).all (isSetB n)))
  | 0, i, k, hi, hk => by
    obtain ⟨k, rfl⟩ : ∃ m, k = m + 1 := ⟨k - 1, by omega⟩
    simp only [spec_IsContext.l0]; rw [if_neg (by omega), List.drop_eq_nil_of_le (by omega)]
    unfold spec_l1In.f
    have e : decide ((a.length : Int) ≤ 8) = decide (a.length ≤ 8) := by rw [decide_eq_decide]; omega
    rw [e]
    by_cases h0 : 0 ≤ n
    · by_cases h1 : n ≤ 6 <;> simp [h0, h1]
    · simp [h0]
  | d + 1, i, k, hi, hk => by
    obtain ⟨k, rfl⟩ : ∃ m, k = m + 1 := ⟨k - 1, by omega⟩
    have h1 : i < a.length := by omega
    have ih := spec_IsContext_loop n a hn d (i + 1) k (by omega) (by omega)
    simp only [spec_IsContext.l0]
    rw [if_pos (by omega), if_pos (by omega), rd_nat a i h1, spec_IsSet_eq, Option.bind_some, List.drop_eq_getElem_cons h1, List.all_cons, wstep (n := a.length) (by omega) (by omega) hn]
    cases hs : isSetB n a[i] with
    | true => rw [if_pos rfl, show (i : Int) + 1 = ((i + 1 : Nat) : Int) from by omega, ih, Bool.true_and]
    | false => simp
theorem spec_IsContext_eq (n : Int) (a : List Int) (hn : a.length ≤ 281474976710656) {k : Nat} (hk : a.length < k) : spec_IsContext.f k n a = some (ctxB n a) := by
  unfold spec_IsContext.f ctxB
  have := spec_IsContext_loop n a hn a.length 0 k (by omega) hk
  simpa using this
theorem impl_IsContext_eq (n : Int) (a : List Int) : impl_IsContext.f n a = some (ctxB n a) := by
  unfold impl_IsContext.f ctxB impl_within.f
  have e : ∀ x, impl_IsContext.row n x = isSetB n x := fun x => by unfold impl_IsContext.row; rw [impl_IsSet_eq]; rfl
  have e2 : (!(a.any fun x => !impl_IsContext.row n x)) = a.all (isSetB n) := by
    simp only [e]
    induction a with
    | nil => rfl
    | cons x l ih => simp only [List.any_cons, List.all_cons, Bool.not_or, Bool.not_not, ih]
  rw [e2]
  by_cases h0 : 0 ≤ n
  · by_cases h1 : n ≤ 6
    · by_cases h2 : a.length ≤ 8
      · have h3 : (a.length : Int) ≤ 8 := by omega
        simp [h0, h1, h2, h3]
      · have h3 : ¬ (a.length : Int) ≤ 8 := by omega
        simp [h0, h1, h2, h3]
    · simp [h0, h1]
  · simp [h0]

theorem bt_list (s : ByteArray) (i : Nat) (h : i < s.size) : bt s (i : Int) = ((s.data.toList[i]'(by rw [Array.length_toList]; exact h)).toNat : Int) := by
  unfold bt
  rw [dif_pos (by rw [Int.toNat_natCast]; exact h)]
  simp only [Int.toNat_natCast]
  rfl
theorem size_list (s : ByteArray) : s.data.toList.length = s.size := by rw [Array.length_toList]; rfl

open Go.Lib in
theorem decDigits_step {u : Nat} (h : 10 ≤ u) : decDigits u = decDigits (u / 10) ++ [UInt8.ofNat (48 + u % 10)] := by
  rw [decDigits, dif_neg (by omega)]
/-- The digits of u; none of 0. -/
def decD (u : Nat) : List UInt8 := if u = 0 then [] else Go.Lib.decDigits u
theorem decD_step {u : Nat} (h : u ≠ 0) : decD u = decD (u / 10) ++ [UInt8.ofNat (48 + u % 10)] := by
  unfold decD
  rw [if_neg h]
  by_cases h1 : u < 10
  · rw [Go.Lib.decDigits_one h1, if_pos (by omega), List.nil_append, Nat.mod_eq_of_lt h1]
  · rw [decDigits_step (by omega), if_neg (by omega)]
theorem one_digit {x : Nat} (h : x < 10) (y : ByteArray) : ((strOfNums [((48 + x : Nat) : Int)]) ++ y).data.toList = UInt8.ofNat (48 + x) :: y.data.toList := by
  rw [ByteArray.data_append, Array.toList_append, strOfNums_data]; rfl
theorem fmt_loop (b : Bool) : ∀ (d : Nat) (n : Int) (k : Nat) (out : ByteArray), n.natAbs < 10 ^ d → d < k → n.natAbs ≤ 9223372036854775808 → -9223372036854775808 ≤ n → n ≤ 9223372036854775807 → out.size + d ≤ 1000 →
    ∃ r, spec_FormatInt.l0 k n b out = some r ∧ r.data.toList = (if b = true then [45] else []) ++ (decD n.natAbs ++ out.data.toList)
  | d, n, 0, out, _, hk, _, _, _, _ => absurd hk (Nat.not_lt_zero _)
  | d, n, k + 1, out, hd, hk, hn, hlo, hhi, hs => by
    simp only [spec_FormatInt.l0]
    by_cases h0 : n = 0
    · subst h0
      rw [if_pos rfl]
      cases b with
      | true =>
        rw [if_pos rfl, if_pos (by omega)]
        exact ⟨_, rfl, by rw [ByteArray.data_append, Array.toList_append]; rfl⟩
      | false => exact ⟨_, rfl, rfl⟩
    · rw [if_neg h0]
      have hm := Int.natAbs_tmod n 10
      have hq : (n.tdiv 10).natAbs = n.natAbs / 10 := Int.natAbs_tdiv n 10
      have e10 : (10 : Int).natAbs = 10 := rfl
      rw [e10] at hm
      have hd1 : d ≠ 0 := fun e => by subst e; simp at hd; omega
      obtain ⟨d, rfl⟩ : ∃ d', d = d' + 1 := ⟨d - 1, by omega⟩
      have hpow : 10 ^ (d + 1) = 10 ^ d * 10 := Nat.pow_succ ..
      have hnew : (n.tdiv 10).natAbs < 10 ^ d := by rw [hq]; omega
      have hx : n.natAbs % 10 < 10 := Nat.mod_lt _ (by decide)
      have hlo2 : -9223372036854775808 ≤ n.tdiv 10 := by omega
      have hhi2 : n.tdiv 10 ≤ 9223372036854775807 := by omega
      have ew : wrap64 (n.tdiv 10) = n.tdiv 10 := w64 (by omega) (by omega)
      have hsz : ∀ z : Int, (strOfNums [z]).size = 1 := fun z => strOfNums_size [z]
      have key : ∀ y : ByteArray, y.data.toList = UInt8.ofNat (48 + n.natAbs % 10) :: out.data.toList → y.size = out.size + 1 → ∃ r, spec_FormatInt.l0 k (wrap64 (n.tdiv 10)) b y = some r ∧ r.data.toList = (if b = true then [45] else []) ++ (decD n.natAbs ++ out.data.toList) := fun y hy hys => by
        obtain ⟨r, h1, h2⟩ := fmt_loop b d (n.tdiv 10) k y hnew (by omega) (by omega) hlo2 hhi2 (by omega)
        refine ⟨r, by rw [ew]; exact h1, ?_⟩
        rw [h2, hy, hq, decD_step (u := n.natAbs) (by omega), List.append_assoc]; rfl
      by_cases hneg : n.tmod 10 < 0
      · have e1 : wrap64 (48 + wrap64 (-(n.tmod 10))) % 256 = ((48 + n.natAbs % 10 : Nat) : Int) := by
          rw [w64 (n := -(n.tmod 10)) (by omega) (by omega), w64 (by omega) (by omega)]; omega
        rw [if_pos hneg, e1]; simp only [Option.bind_some]
        rw [if_pos (by rw [hsz]; omega)]
        exact key _ (one_digit hx out) (by rw [ByteArray.size_append, hsz]; omega)
      · have e1 : wrap64 (48 + n.tmod 10) % 256 = ((48 + n.natAbs % 10 : Nat) : Int) := by
          rw [w64 (by omega) (by omega)]; omega
        rw [if_neg hneg, e1]; simp only [Option.bind_some]
        rw [if_pos (by rw [hsz]; omega)]
        exact key _ (one_digit hx out) (by rw [ByteArray.size_append, hsz]; omega)
theorem itoa_zero : Go.Lib.itoa 0 = [48] := by
  unfold Go.Lib.itoa
  rw [if_neg (by decide)]
  exact Go.Lib.decDigits_one (i := 0) (by decide)
/-- FormatInt: the decimal numeral. -/
theorem spec_FormatInt_eq (n : Int) (hlo : -9223372036854775808 ≤ n) (hhi : n ≤ 9223372036854775807) {k : Nat} (hk : 30 ≤ k) : spec_FormatInt.f k n = some ⟨(Go.Lib.itoa n).toArray⟩ := by
  unfold spec_FormatInt.f
  by_cases h0 : n = 0
  · subst h0; rw [if_pos rfl, itoa_zero]
  · rw [if_neg h0]
    have h20 : n.natAbs < 10 ^ 20 := Nat.lt_of_le_of_lt (show n.natAbs ≤ 9223372036854775808 by omega) (by decide)
    obtain ⟨r, h1, h2⟩ := fmt_loop (decide (n < 0)) 20 n k ⟨#[]⟩ h20 (by omega) (by omega) hlo hhi (by decide)
    rw [h1]
    obtain ⟨⟨r⟩⟩ := r
    have h3 : r = Go.Lib.itoa n := by
      rw [show r = (if decide (n < 0) = true then [45] else []) ++ (decD n.natAbs ++ []) from h2, List.append_nil]
      have e2 : decD n.natAbs = Go.Lib.decDigits n.natAbs := by unfold decD; rw [if_neg (by omega)]
      rw [e2]
      unfold Go.Lib.itoa
      by_cases hn : n < 0
      · rw [decide_eq_true hn, if_pos rfl, if_pos hn]; rfl
      · rw [decide_eq_false hn, if_neg (by decide), if_neg hn, List.nil_append, show n.toNat = n.natAbs from by omega]
    rw [h3]
theorem impl_FormatInt_eq (n : Int) (hlo : -9223372036854775808 ≤ n) (hhi : n ≤ 9223372036854775807) : impl_FormatInt.f n = some ⟨(Go.Lib.itoa n).toArray⟩ := by
  unfold impl_FormatInt.f strconv_Itoa.f
  rw [if_pos ⟨hlo, hhi⟩]; rfl

theorem all256 {P : Int → Prop} (h : ∀ s : Fin 256, P ((s.val : Nat) : Int)) {s : Int} (hs : isSetB 8 s = true) : P s := by
  have hb := isSetB_bd hs
  obtain ⟨a, rfl⟩ := Int.eq_ofNat_of_zero_le hb.2.2.1
  exact h ⟨a, by omega⟩

theorem spec_l2Has_eq {s e : Int} (hs0 : 0 ≤ s) (hs : s < 9223372036854775808) (he0 : 0 ≤ e) (he : e ≤ 63) : spec_l2Has.f s e = some (hasB s e) := by
  unfold spec_l2Has.f
  rw [u64_small he0 (by omega), if_pos he0, bit_int hs0 hs he0 he]

theorem spec_HasElement_eq (s e : Int) : spec_HasElement.f s e = some (isSetB 8 s && (decide (0 ≤ e ∧ e ≤ 7) && hasB s e)) := by
  unfold spec_HasElement.f spec_l1In.f
  rw [spec_IsSet_eq]
  by_cases h : isSetB 8 s = true
  · have := isSetB_bd h
    by_cases h0 : 0 ≤ e
    · by_cases h1 : e ≤ 7
      · have h2 := spec_l2Has_eq (s := s) (e := e) (by omega) (by omega) h0 (by omega)
        simp [h, h0, h1, h2]
      · simp [h, h0, h1]
    · simp [h, h0]
  · simp [h]

/-- The elements of s, from 0 on. -/
def elems (s : Int) : List Int := ((List.range 8).filter (fun e => s.toNat.testBit e)).map (fun e : Nat => (e : Int))
theorem spec_ElementsOf_set {s : Int} (hs : isSetB 8 s = true) : spec_ElementsOf.f 9 s = some (elems s) :=
  all256 (P := fun s => spec_ElementsOf.f 9 s = some (elems s)) (by decide +kernel) hs
theorem spec_ElementsOf_no {s : Int} (hs : isSetB 8 s = false) : spec_ElementsOf.f 9 s = some [] := by
  have h (e : Int) : spec_HasElement.f s e = some false := by rw [spec_HasElement_eq, hs]; rfl
  unfold spec_ElementsOf.f
  simp [spec_ElementsOf.l0, h, wrap64]
theorem elems_len : ∀ s : Int, (elems s).length ≤ 8 := by
  intro s; unfold elems; rw [List.length_map]; exact List.length_filter_le _ (List.range 8)

theorem impl_isAnySet_eq (s : Int) : impl_isAnySet.f s = some (isSetB 8 s) := by
  unfold impl_isAnySet.f; rw [impl_IsSet_eq]; rfl

theorem impl_HasElement_eq (s e : Int) : impl_HasElement.f s e = some (isSetB 8 s && (decide (0 ≤ e ∧ e ≤ 7) && hasB s e)) := by
  unfold impl_HasElement.f impl_within.f
  rw [impl_isAnySet_eq]
  by_cases h : isSetB 8 s = true
  · have := isSetB_bd h
    by_cases h0 : 0 ≤ e
    · by_cases h1 : e ≤ 7
      · have h2 := bit_int (s := s) (e := e) (by omega) (by omega) h0 (by omega)
        simp [h, h0, h1, h2]
      · simp [h, h0, h1]
    · simp [h, h0]
  · simp [h]

theorem impl_ElementsOf_set {s : Int} (hs : isSetB 8 s = true) : impl_ElementsOf.f 9 s = some (elems s) :=
  all256 (P := fun s => impl_ElementsOf.f 9 s = some (elems s)) (by decide +kernel) hs
theorem impl_ElementsOf_no {s : Int} (hs : isSetB 8 s = false) : impl_ElementsOf.f 9 s = some [] := by
  have h (e : Int) : impl_HasElement.f s e = some false := by rw [impl_HasElement_eq, hs]; rfl
  unfold impl_ElementsOf.f
  simp [impl_ElementsOf.l0, h, wrap64]

/-- The letters of s. -/
def letters (s : Int) : List UInt8 := if s = 0 then [45] else ((List.range 8).filter (fun e => s.toNat.testBit e)).map (fun e : Nat => (97 + e).toUInt8)
/-- SetText. -/
def setText (s : Int) : List UInt8 := if isSetB 8 s then letters s else []
theorem map_some {α β : Type} {o : Option α} {f : α → β} {y : β} (h : o.map f = some y) : ∃ x, o = some x ∧ f x = y := by
  cases o with
  | none => cases h
  | some x => exact ⟨x, rfl, Option.some.inj h⟩
theorem spec_SetText_eq (s : Int) : ∃ b, spec_SetText.f 10 s = some b ∧ b.data.toList = setText s := by
  apply map_some (f := fun b : ByteArray => b.data.toList)
  cases hs : isSetB 8 s with
  | true => exact all256 (P := fun s => (spec_SetText.f 10 s).map (fun b : ByteArray => b.data.toList) = some (setText s)) (by decide +kernel) hs
  | false => unfold spec_SetText.f setText; rw [spec_IsSet_eq, hs]; rfl
theorem impl_SetText_eq (s : Int) : ∃ b, impl_SetText.f 10 s = some b ∧ b.data.toList = setText s := by
  apply map_some (f := fun b : ByteArray => b.data.toList)
  cases hs : isSetB 8 s with
  | true => exact all256 (P := fun s => (impl_SetText.f 10 s).map (fun b : ByteArray => b.data.toList) = some (setText s)) (by decide +kernel) hs
  | false => unfold impl_SetText.f setText; rw [impl_isAnySet_eq, hs]; rfl

theorem rdS (l : List ByteArray) (i : Nat) (h : i < l.length) : rdOf ByteArray.empty l (i : Int) = l[i] := by unfold rdOf; rw [Int.toNat_natCast, List.getD_eq_getElem?_getD, List.getElem?_eq_getElem h]; rfl
def sumSz (l : List ByteArray) : Nat := (l.map (·.size)).sum
theorem sumSz_take (l : List ByteArray) (i : Nat) (h : i < l.length) : sumSz (l.take (i + 1)) = sumSz (l.take i) + l[i].size := by
  unfold sumSz; rw [List.take_succ_eq_append_getElem h, List.map_append, List.sum_append_nat, List.map_singleton, List.sum_singleton]
theorem sumSz_drop (l : List ByteArray) (i : Nat) (h : i < l.length) : sumSz (l.drop i) = l[i].size + sumSz (l.drop (i + 1)) := by
  unfold sumSz; rw [List.drop_eq_getElem_cons h, List.map_cons, List.sum_cons]
theorem sumSz_le (l : List ByteArray) (i : Nat) : sumSz (l.take i) + sumSz (l.drop i) = sumSz l := by
  unfold sumSz
  rw [← List.sum_append_nat, ← List.map_append, List.take_append_drop]

/-- Bytes, as numbers. -/
def nums (b : List UInt8) : List Int := b.map fun x => (x.toNat : Int)
theorem bytesOf_nums (s : ByteArray) : bytesOf s = nums s.data.toList := rfl
theorem nums_len (b : List UInt8) : (nums b).length = b.length := List.length_map _
theorem nums_app (a b : List UInt8) : nums a ++ nums b = nums (a ++ b) := (List.map_append).symm
theorem strOfNums_nums (b : List UInt8) : strOfNums (nums b) = ⟨b.toArray⟩ := by
  unfold strOfNums nums
  rw [List.map_map]
  have e : ((fun n : Int => UInt8.ofNat n.toNat) ∘ fun x : UInt8 => (x.toNat : Int)) = id := by
    funext x
    show UInt8.ofNat ((x.toNat : Int)).toNat = x
    rw [Int.toNat_natCast, UInt8.ofNat_toNat]
  rw [e, List.map_id]
theorem dlen (s : ByteArray) : s.data.toList.length = s.size := by rw [Array.length_toList]; rfl
theorem join_snoc (l : List ByteArray) (s x : ByteArray) : joinB (l ++ [x]) s = if l = [] then x.data.toList else joinB l s ++ s.data.toList ++ x.data.toList := by
  cases l with
  | nil => rw [if_pos rfl]; exact Go.Lib.join_one _ _
  | cons y r =>
    rw [if_neg (by simp)]
    unfold joinB
    rw [List.cons_append, List.map_cons, List.map_cons, Go.Lib.join_cons, Go.Lib.join_cons, List.map_append]
    unfold Go.Lib.joinTail
    rw [List.map_append, List.flatten_append]
    simp
theorem join_take (l : List ByteArray) (s : ByteArray) (i : Nat) (h : i < l.length) : joinB (l.take (i + 1)) s = if i = 0 then l[i].data.toList else joinB (l.take i) s ++ s.data.toList ++ l[i].data.toList := by
  rw [List.take_succ_eq_append_getElem h, join_snoc]
  by_cases h0 : i = 0
  · subst h0; rfl
  · rw [if_neg h0, if_neg (fun e => h0 (by have := congrArg List.length e; rw [List.length_take, List.length_nil] at this; omega))]
theorem join_len (l : List ByteArray) (s : ByteArray) : ∀ i, i ≤ l.length → (joinB (l.take i) s).length = (i - 1) * s.size + sumSz (l.take i)
  | 0, _ => by
    rw [List.take_zero]
    show 0 = (0 - 1) * s.size + 0
    rw [Nat.zero_sub, Nat.zero_mul]
  | i + 1, h => by
    have ih := join_len l s i (by omega)
    rw [join_take l s i (by omega), sumSz_take l i (by omega)]
    by_cases h0 : i = 0
    · rw [if_pos h0, dlen]; subst h0; show _ = 0 * s.size + (0 + _); omega
    · rw [if_neg h0, List.length_append, List.length_append, ih, dlen, dlen]
      obtain ⟨j, rfl⟩ : ∃ j, i = j + 1 := ⟨i - 1, by omega⟩
      have e1 : j + 1 - 1 = j := rfl
      have e2 : j + 1 + 1 - 1 = j + 1 := rfl
      rw [e1, e2, Nat.add_mul, Nat.one_mul]
      omega
theorem join_mono (l : List ByteArray) (s : ByteArray) {i : Nat} (h : i ≤ l.length) : (joinB (l.take i) s).length ≤ (joinB l s).length := by
  have e := join_len l s l.length (Nat.le_refl _)
  rw [List.take_length] at e
  rw [join_len l s i h, e]
  have h1 := sumSz_le l i
  have h2 : (i - 1) * s.size ≤ (l.length - 1) * s.size := Nat.mul_le_mul_right _ (by omega)
  omega
/-- What Join answers. -/
def joinR (l : List ByteArray) (s : ByteArray) : ByteArray := if (joinB l s).length ≤ 1048576 then ⟨(joinB l s).toArray⟩ else ⟨#[]⟩

theorem spec_Join_loop (l : List ByteArray) (s : ByteArray) (hl : l.length ≤ 1048576) (hs : s.size ≤ 1048576) (hx : ∀ x ∈ l, x.size ≤ 1048576) (d : Nat) : ∀ (i k : Nat), i + d = l.length → d < k → (joinB (l.take i) s).length ≤ 1048576 →
    spec_Join.l0 k l s (nums (joinB (l.take i) s)) (i : Int) = some (joinR l s) := by
  induction d with
  | zero =>
    intro i k hi hk hp
    obtain ⟨k, rfl⟩ : ∃ m, k = m + 1 := ⟨k - 1, by omega⟩
    rw [List.take_of_length_le (by omega)] at hp ⊢
    simp only [spec_Join.l0]
    rw [if_neg (by omega), strOfNums_nums]
    unfold joinR
    rw [if_pos hp]
  | succ d ih =>
    intro i k hi hk hp
    obtain ⟨k, rfl⟩ : ∃ m, k = m + 1 := ⟨k - 1, by omega⟩
    have h1 : i < l.length := by omega
    have hw : wrap64 ((i : Int) + 1) = ((i + 1 : Nat) : Int) := by rw [wstep (n := l.length) (by omega) (by omega) (by omega)]; omega
    have hxi := hx _ (List.getElem_mem h1)
    have ht := join_take l s i h1
    have hmono := join_mono l s (i := i + 1) (by omega)
    have ih' := ih (i + 1) k (by omega) (by omega)
    have hbig : ¬ (joinB (l.take (i + 1)) s).length ≤ 1048576 → joinR l s = (⟨#[]⟩ : ByteArray) := fun h => by unfold joinR; rw [if_neg (by omega)]
    simp only [spec_Join.l0]
    rw [if_pos (by omega), rdS l i h1, hw]
    by_cases h0 : i = 0
    · rw [if_pos h0] at ht
      have hnil : nums (joinB (l.take i) s) = [] := by rw [h0]; rfl
      rw [if_neg (by omega), if_pos (by omega), hnil, if_pos (by simp only [List.length_nil]; omega), Option.bind_some, List.nil_append, bytesOf_nums, ← ht]
      by_cases hb : (joinB (l.take (i + 1)) s).length ≤ 1048576
      · rw [if_neg (by rw [nums_len]; omega)]; exact ih' hb
      · rw [if_pos (by rw [nums_len]; omega), hbig hb]
    · rw [if_neg h0] at ht
      have hlt : (nums (joinB (l.take i) s)).length + s.size < 140737488355328 := by rw [nums_len]; omega
      have hlt2 : (nums (joinB (l.take i) s ++ s.data.toList)).length + l[i].size < 140737488355328 := by rw [nums_len, List.length_append, dlen]; omega
      rw [if_pos (by omega), if_pos hlt, Option.bind_some, if_pos (by omega), bytesOf_nums, nums_app, if_pos hlt2, Option.bind_some, bytesOf_nums, nums_app, ← ht]
      by_cases hb : (joinB (l.take (i + 1)) s).length ≤ 1048576
      · rw [if_neg (by rw [nums_len]; omega)]; exact ih' hb
      · rw [if_pos (by rw [nums_len]; omega), hbig hb]
theorem spec_Join_eq (l : List ByteArray) (s : ByteArray) (hl : l.length ≤ 1048576) (hs : s.size ≤ 1048576) (hx : ∀ x ∈ l, x.size ≤ 1048576) {k : Nat} (hk : l.length < k) : spec_Join.f k l s = some (joinR l s) := by
  unfold spec_Join.f
  exact spec_Join_loop l s hl hs hx l.length 0 k (by omega) (by omega) (by show 0 ≤ _; omega)

theorem impl_Join_loop (l : List ByteArray) (s : ByteArray) (hl : l.length ≤ 1048576) (hs : s.size ≤ 1048576) (hsz : sumSz l ≤ 1099511627776) (d : Nat) : ∀ (i k : Nat), i + d = l.length → d < k →
    impl_Join.l0 k l s (((l.length - 1) * s.size + sumSz (l.take i) : Nat) : Int) l (l.length : Int) (i : Int) = some (joinR l s) := by
  have hm : (l.length - 1) * s.size ≤ 1048576 * 1048576 := Nat.mul_le_mul (by omega) hs
  have he := join_len l s l.length (Nat.le_refl _)
  rw [List.take_length] at he
  induction d with
  | zero =>
    intro i k hi hk
    obtain ⟨k, rfl⟩ : ∃ m, k = m + 1 := ⟨k - 1, by omega⟩
    rw [List.take_of_length_le (by omega), ← he]
    simp only [impl_Join.l0]
    rw [if_neg (by omega)]
    unfold joinR
    by_cases hb : (joinB l s).length ≤ 1048576
    · rw [if_neg (by omega), if_pos hb]
      unfold strings_Join.f
      rw [if_pos ⟨by omega, by omega⟩]; rfl
    · rw [if_pos (by omega), if_neg hb]
  | succ d ih =>
    intro i k hi hk
    obtain ⟨k, rfl⟩ : ∃ m, k = m + 1 := ⟨k - 1, by omega⟩
    have h1 : i < l.length := by omega
    have hw : wrap64 ((i : Int) + 1) = ((i + 1 : Nat) : Int) := by rw [wstep (n := l.length) (by omega) (by omega) (by omega)]; omega
    have hst := sumSz_take l i h1
    have hle := sumSz_le l (i + 1)
    have hs2 : wrap64 ((((l.length - 1) * s.size + sumSz (l.take i) : Nat) : Int) + (l[i].size : Int)) = (((l.length - 1) * s.size + sumSz (l.take (i + 1)) : Nat) : Int) := by
      generalize (l.length - 1) * s.size = M at hm ⊢
      rw [w64 (by omega) (by omega)]; omega
    simp only [impl_Join.l0]
    rw [if_pos (by omega), if_pos (by omega), if_pos (by omega), rdS l i h1, hw, hs2]
    exact ih (i + 1) k (by omega) (by omega)
theorem impl_Join_eq (l : List ByteArray) (s : ByteArray) (hl : l.length ≤ 1048576) (hs : s.size ≤ 1048576) (hsz : sumSz l ≤ 1099511627776) {k : Nat} (hk : l.length < k) : impl_Join.f k l s = some (joinR l s) := by
  have hm : (l.length - 1) * s.size ≤ 1048576 * 1048576 := Nat.mul_le_mul (by omega) hs
  have e : wrap64 ((mx (wrap64 ((l.length : Int) - 1)) 0) * (s.size : Int)) = (((l.length - 1) * s.size + sumSz (l.take 0) : Nat) : Int) := by
    have e1 : mx (wrap64 ((l.length : Int) - 1)) 0 = ((l.length - 1 : Nat) : Int) := by
      rw [w64 (by omega) (by omega)]
      unfold mx
      by_cases h : (l.length : Int) - 1 < 0
      · rw [if_pos h]; omega
      · rw [if_neg h]; omega
    have e2 : sumSz (l.take 0) = 0 := rfl
    rw [e1, e2, ← Int.natCast_mul, w64 (by omega) (by omega)]; rfl
  unfold impl_Join.f
  rw [e]
  exact impl_Join_loop l s hl hs hsz l.length 0 k (by omega) hk

theorem l2Sets_loop (l : List Int) (hn : l.length ≤ 281474976710656) : ∀ (d i k : Nat), i + d = l.length → d < k → spec_l2Sets.l0 k l (i : Int) = some ((l.drop i).all (isSetB 8))
  | 0, i, k, hi, hk => by
    obtain ⟨k, rfl⟩ : ∃ m, k = m + 1 := ⟨k - 1, by omega⟩
    simp only [spec_l2Sets.l0]; rw [if_neg (by omega), List.drop_of_length_le (by omega)]; rfl
  | d + 1, i, k, hi, hk => by
    obtain ⟨k, rfl⟩ : ∃ m, k = m + 1 := ⟨k - 1, by omega⟩
    have h1 : i < l.length := by omega
    have ih := l2Sets_loop l hn d (i + 1) k (by omega) (by omega)
    simp only [spec_l2Sets.l0]
    rw [if_pos (by omega), if_pos (by omega), rd_nat l i h1, spec_IsSet_eq, Option.bind_some, wstep (n := l.length) (by omega) (by omega) (by omega), show (i : Int) + 1 = ((i + 1 : Nat) : Int) from by omega, ih, List.drop_eq_getElem_cons h1, List.all_cons]
    cases isSetB 8 l[i] <;> simp
theorem l2Sets_eq (l : List Int) (hn : l.length ≤ 281474976710656) {k : Nat} (hk : l.length < k) : spec_l2Sets.f k l = some (l.all (isSetB 8)) := by
  unfold spec_l2Sets.f
  have := l2Sets_loop l hn l.length 0 k (by omega) hk
  simpa using this

def txt (s : Int) : ByteArray := ⟨(setText s).toArray⟩
theorem txt_of {b : ByteArray} {s : Int} (h : b.data.toList = setText s) : b = txt s := by
  obtain ⟨d⟩ := b
  unfold txt
  rw [← h]
theorem spec_txt (s : Int) (d : Nat) : spec_SetText.f (10 + d) s = some (txt s) := by
  induction d with
  | zero => obtain ⟨b, h1, h2⟩ := spec_SetText_eq s; rw [← txt_of h2]; exact h1
  | succ d ih => exact spec_SetText.mono s (10 + d) _ ih
theorem impl_txt (s : Int) (d : Nat) : impl_SetText.f (10 + d) s = some (txt s) := by
  induction d with
  | zero => obtain ⟨b, h1, h2⟩ := impl_SetText_eq s; rw [← txt_of h2]; exact h1
  | succ d ih => exact impl_SetText.mono s (10 + d) _ ih
theorem txt_size (s : Int) : (txt s).size ≤ 8 := by
  show (setText s).toArray.size ≤ 8
  rw [List.size_toArray]
  unfold setText letters
  split
  · split
    · decide
    · rw [List.length_map]
      refine Nat.le_trans (List.length_filter_le _ _) ?_
      rw [List.length_range]; exact Nat.le_refl _
  · exact Nat.zero_le _
def comma : ByteArray := ⟨#[44]⟩
theorem txt_sum (l : List Int) : sumSz (l.map txt) ≤ 8 * l.length := by
  unfold sumSz
  induction l with
  | nil => exact Nat.le_refl _
  | cons x l ih =>
    have := txt_size x
    rw [List.map_cons, List.map_cons, List.sum_cons, List.length_cons]
    omega
theorem spec_texts_loop (l : List Int) (hl : l.length ≤ 1048576) (d : Nat) : ∀ (i k : Nat), i + d = l.length → d + 1048600 ≤ k → spec_SetsText.l0 k l ((l.take i).map txt) (i : Int) = some (joinR (l.map txt) comma) := by
  induction d with
  | zero =>
    intro i k hi hk
    obtain ⟨k, rfl⟩ : ∃ m, k = m + 1 := ⟨k - 1, by omega⟩
    have hj := spec_Join_eq (l.map txt) comma (by rw [List.length_map]; exact hl) (by decide) (fun x hx => by obtain ⟨s, _, rfl⟩ := List.mem_map.1 hx; have := txt_size s; omega) (k := k) (by rw [List.length_map]; omega)
    simp only [spec_SetsText.l0]
    rw [if_neg (by omega), List.take_of_length_le (by omega)]
    exact congrArg (fun o : Option ByteArray => o.bind fun t => some t) hj
  | succ d ih =>
    intro i k hi hk
    obtain ⟨k, rfl⟩ : ∃ m, k = m + 1 := ⟨k - 1, by omega⟩
    have h1 : i < l.length := by omega
    have hw : wrap64 ((i : Int) + 1) = ((i + 1 : Nat) : Int) := by rw [wstep (n := l.length) (by omega) (by omega) (by omega)]; omega
    have hlt : ((l.take i).map txt).length < 8796093022208 := by rw [List.length_map, List.length_take]; omega
    have ht : (l.take i).map txt ++ [txt l[i]] = (l.take (i + 1)).map txt := by rw [List.take_succ_eq_append_getElem h1, List.map_append]; rfl
    have hk2 : k = 10 + (k - 10) := by omega
    have es := spec_txt l[i] (k - 10)
    rw [← hk2] at es
    simp only [spec_SetsText.l0]
    rw [if_pos (by omega), if_pos (by omega), rd_nat l i h1, es, Option.bind_some, if_pos hlt, ht, hw]
    exact ih (i + 1) k (by omega) (by omega)
theorem impl_texts_loop (l : List Int) (hl : l.length ≤ 1048576) (d : Nat) : ∀ (i k : Nat), i + d = l.length → d + 1048600 ≤ k → impl_SetsText.l0 k ((l.take i).map txt) l (l.length : Int) (i : Int) = some (if (l.drop i).all (isSetB 8) then joinR (l.map txt) comma else ⟨#[]⟩) := by
  induction d with
  | zero =>
    intro i k hi hk
    obtain ⟨k, rfl⟩ : ∃ m, k = m + 1 := ⟨k - 1, by omega⟩
    have hj := impl_Join_eq (l.map txt) comma (by rw [List.length_map]; exact hl) (by decide) (by have := txt_sum l; omega) (k := k) (by rw [List.length_map]; omega)
    simp only [impl_SetsText.l0]
    rw [if_neg (by omega), List.take_of_length_le (by omega), List.drop_of_length_le (by omega)]
    exact congrArg (fun o : Option ByteArray => o.bind fun t => some t) hj
  | succ d ih =>
    intro i k hi hk
    obtain ⟨k, rfl⟩ : ∃ m, k = m + 1 := ⟨k - 1, by omega⟩
    have h1 : i < l.length := by omega
    have hw : wrap64 ((i : Int) + 1) = ((i + 1 : Nat) : Int) := by rw [wstep (n := l.length) (by omega) (by omega) (by omega)]; omega
    have hlt : ((l.take i).map txt).length < 8796093022208 := by rw [List.length_map, List.length_take]; omega
    have ht : (l.take i).map txt ++ [txt l[i]] = (l.take (i + 1)).map txt := by rw [List.take_succ_eq_append_getElem h1, List.map_append]; rfl
    have hk2 : k = 10 + (k - 10) := by omega
    have es := impl_txt l[i] (k - 10)
    rw [← hk2] at es
    simp only [impl_SetsText.l0]
    rw [if_pos (by omega), if_pos (by omega), if_pos (by omega), rd_nat l i h1, impl_isAnySet_eq, Option.bind_some, List.drop_eq_getElem_cons h1, List.all_cons]
    cases hs : isSetB 8 l[i] with
    | false => rw [if_neg (by decide)]; rfl
    | true =>
      rw [if_pos rfl, es, Option.bind_some, if_pos hlt, ht, hw, Bool.true_and]
      exact ih (i + 1) k (by omega) (by omega)
theorem SetsText_both (l : List Int) (hl : l.length ≤ 1048576) : ∃ v, spec_SetsText.f 3000000 l = some v ∧ impl_SetsText.f 3000000 l = some v := by
  unfold spec_SetsText.f impl_SetsText.f
  rw [l2Sets_eq l (by omega) (by omega), Option.bind_some]
  have ez : ((0 : Nat) : Int) = 0 := rfl
  have es := spec_texts_loop l hl l.length 0 3000000 (by omega) (by omega)
  have ei := impl_texts_loop l hl l.length 0 3000000 (by omega) (by omega)
  rw [ez, List.take_zero] at es ei
  rw [List.drop_zero] at ei
  by_cases h0 : (l.length : Int) = 0
  · have hn : l = [] := List.eq_nil_of_length_eq_zero (by omega)
    subst hn
    exact ⟨_, rfl, rfl⟩
  · rw [if_neg h0, if_neg h0]
    cases ha : l.all (isSetB 8) with
    | true =>
      rw [ha] at ei
      rw [if_pos rfl]
      exact ⟨_, es, ei⟩
    | false =>
      rw [ha] at ei
      rw [if_neg (by decide)]
      exact ⟨_, rfl, ei⟩

theorem joinR_size (l : List ByteArray) (b : ByteArray) : (joinR l b).size ≤ 1048576 := by
  unfold joinR
  split
  · show (joinB l b).toArray.size ≤ 1048576
    rw [List.size_toArray]; assumption
  · decide
/-- SetsText of a list of sets. -/
def setsR (a : List Int) : ByteArray := if a.length = 0 then (⟨#[110, 111, 110, 101]⟩ : ByteArray) else joinR (a.map txt) comma
theorem setsR_size (a : List Int) : (setsR a).size ≤ 1048576 := by
  unfold setsR
  split
  · decide
  · exact joinR_size _ _
theorem sets_at (a : List Int) (hl : a.length ≤ 8) (hs : a.all (isSetB 8) = true) {k : Nat} (hk : 1048700 ≤ k) : spec_SetsText.f k a = some (setsR a) ∧ impl_SetsText.f k a = some (setsR a) := by
  unfold spec_SetsText.f impl_SetsText.f setsR
  rw [l2Sets_eq a (by omega) (by omega), Option.bind_some, hs, if_pos rfl]
  have ez : ((0 : Nat) : Int) = 0 := rfl
  have es := spec_texts_loop a (by omega) a.length 0 k (by omega) (by omega)
  have ei := impl_texts_loop a (by omega) a.length 0 k (by omega) (by omega)
  rw [ez, List.take_zero] at es ei
  rw [List.drop_zero, hs] at ei
  by_cases h0 : a.length = 0
  · rw [if_pos (by omega), if_pos h0, if_pos (by omega)]; exact ⟨rfl, rfl⟩
  · rw [if_neg (by omega), if_neg h0, if_neg (by omega)]; exact ⟨es, ei⟩
/-- ContextText. -/
def ctxText (n : Int) (a : List Int) : ByteArray := if ctxB n a = true then (((⟨(Go.Lib.itoa n).toArray⟩ : ByteArray) ++ (⟨#[32]⟩ : ByteArray)) ++ setsR a) else ⟨#[]⟩
theorem ctx_all {n : Int} {a : List Int} (h : ctxB n a = true) : a.all (isSetB 8) = true := by
  rw [List.all_eq_true]
  intro x hx
  have hb := isSetB_bd ((ctxB_out h).2.2.2 x hx)
  rw [isSetB8, decide_eq_true (by omega)]
theorem itoa_small (n : Int) (h0 : 0 ≤ n) (h1 : n ≤ 6) : (Go.Lib.itoa n) = [UInt8.ofNat (48 + n.toNat)] := by
  unfold Go.Lib.itoa
  rw [if_neg (by omega), Go.Lib.decDigits_one (by omega)]
theorem ctxText_both (n : Int) (a : List Int) (hn : a.length ≤ 281474976710656) {k : Nat} (hk : 1048700 ≤ k) (hk2 : a.length < k) : spec_ContextText.f k n a = some (ctxText n a) ∧ impl_ContextText.f k n a = some (ctxText n a) := by
  unfold spec_ContextText.f impl_ContextText.f ctxText
  rw [spec_IsContext_eq n a hn hk2, impl_IsContext_eq]; simp only [Option.bind_some]
  cases h : ctxB n a with
  | false => exact ⟨rfl, rfl⟩
  | true =>
    have hc := ctxB_out h
    have hs := sets_at a (by omega) (ctx_all h) hk
    have hz := setsR_size a
    have h1 : (⟨(Go.Lib.itoa n).toArray⟩ : ByteArray).size = 1 := by rw [itoa_small n hc.1 hc.2.1]; rfl
    simp only [if_true]
    rw [spec_FormatInt_eq n (by omega) (by omega) (by omega), impl_FormatInt_eq n (by omega) (by omega)]; simp only [Option.bind_some]
    rw [h1, if_pos (by decide), if_pos (by decide), hs.1, hs.2]; simp only [Option.bind_some]
    rw [if_pos (by omega)]
    exact ⟨rfl, rfl⟩

theorem FnExactContextText : laws_FnExactContextText.Pure := by
  intro n a hn hm hw
  refine ⟨3000000, ?_⟩
  unfold laws_FnExactContextText.f
  rw [szContext_eq n a hm, Option.bind_some]
  by_cases h : a.length ≤ 1048576
  · have e1 := toContext_eq n a h (k := 3000000) (by omega)
    have e2 := ctxText_both n a (by omega) (k := 3000000) (by omega) (by omega)
    have e3 : laws_eqContext.f 3000000 n a n a = some true := by rw [eqContext_eq n a n a (by omega) (by omega)]; simp
    rw [if_pos h, if_neg (by omega), e1]; simp only [Option.bind_some]
    rw [e2.1]; simp only [Option.bind_some]
    rw [e2.2]; simp only [Option.bind_some]
    rw [if_pos trivial, e3]; rfl
  · rw [if_neg h]; simp

end Go.Proofs.YtapfgfkpnmjhnaaDoor.Pure
