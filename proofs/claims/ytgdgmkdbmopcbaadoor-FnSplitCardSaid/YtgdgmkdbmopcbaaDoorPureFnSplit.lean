/- For every input the law answers true. No condition. -/
import Derived.Test.YtgdgmkdbmopcbaaDoorPFnSplitx2
set_option linter.unusedVariables false
set_option linter.unusedSimpArgs false
namespace Go.Proofs.YtgdgmkdbmopcbaaDoor.Pure
open Go.RowKit Go.Proofs.YtgdgmkdbmopcbaaDoor.PFnSplit Go.Proofs.YtgdgmkdbmopcbaaDoorW.PrintWords Go.Proofs.YtgdgmkdbmopcbaaDoorW.PrintLast
/-- The full set of n elements. -/
def full (n : Int) : Int := (2 : Int) ^ n.toNat - 1
def isSetB (n s : Int) : Bool := decide (0 ≤ n ∧ n ≤ 8 ∧ 0 ≤ s ∧ s ≤ full n)
def hasB (s e : Int) : Bool := s.toNat.testBit e.toNat
theorem nine {n : Int} (h0 : 0 ≤ n) (h1 : n ≤ 8) : n = 0 ∨ n = 1 ∨ n = 2 ∨ n = 3 ∨ n = 4 ∨ n = 5 ∨ n = 6 ∨ n = 7 ∨ n = 8 := by omega
theorem full_bd {n : Int} (h0 : 0 ≤ n) (h1 : n ≤ 8) : 0 ≤ full n ∧ full n ≤ 255 := by
  rcases nine h0 h1 with rfl | rfl | rfl | rfl | rfl | rfl | rfl | rfl | rfl <;> decide +kernel
theorem isSetB_bd {n s : Int} (h : isSetB n s = true) : 0 ≤ n ∧ n ≤ 8 ∧ 0 ≤ s ∧ s ≤ full n ∧ s ≤ 255 := by
  unfold isSetB at h
  have h := of_decide_eq_true h
  have := full_bd h.1 h.2.1
  omega
theorem isSetB8 (s : Int) : isSetB 8 s = decide (0 ≤ s ∧ s ≤ 255) := by
  unfold isSetB
  have : full 8 = 255 := by decide +kernel
  rw [this]; simp
theorem shl_full {n : Int} (h0 : 0 ≤ n) (h1 : n ≤ 8) : wrap64 (shl .i64 1 n - 1) = full n := by
  rcases nine h0 h1 with rfl | rfl | rfl | rfl | rfl | rfl | rfl | rfl | rfl <;> decide +kernel
theorem u64_small {n : Int} (h0 : 0 ≤ n) (h1 : n < 18446744073709551616) : IntKind.u64.wrap n = n := by
  simp only [IntKind.wrap, IntKind.bits, IntKind.signed]; simp; omega
theorem u64_nonneg (n : Int) : 0 ≤ IntKind.u64.wrap n := by
  simp only [IntKind.wrap, IntKind.bits, IntKind.signed]; simp; omega
theorem w64 {n : Int} (h0 : -9223372036854775808 ≤ n) (h1 : n < 9223372036854775808) : wrap64 n = n := by unfold wrap64; omega
theorem i64_small (n : Int) (h0 : 0 ≤ n) (h1 : n < 2 ^ 63) : IntKind.i64.wrap n = n := by rw [IntKind.wrap_i64]; omega
theorem and_nat (a b : Nat) (ha : a < 2 ^ 63) (hb : b < 2 ^ 63) : Go.bits .and .i64 a b = ((a &&& b : Nat) : Int) := (bits_nat .i64 63 (by decide) (fun n h0 h1 => i64_small n h0 h1) a b ha hb).1
theorem or_nat (a b : Nat) (ha : a < 2 ^ 63) (hb : b < 2 ^ 63) : Go.bits .or .i64 a b = ((a ||| b : Nat) : Int) := (bits_nat .i64 63 (by decide) (fun n h0 h1 => i64_small n h0 h1) a b ha hb).2
/-- What is in a and not in b. -/
def dif (a b : Nat) : Nat := a ^^^ (a &&& b)
theorem dif_bit (a b i : Nat) : (dif a b).testBit i = (a.testBit i && !b.testBit i) := by
  unfold dif; rw [Nat.testBit_xor, Nat.testBit_and]; cases a.testBit i <;> cases b.testBit i <;> rfl
theorem dif_lt (a b n : Nat) (ha : a < 2 ^ n) : dif a b < 2 ^ n := Nat.xor_lt_two_pow ha (Nat.lt_of_le_of_lt Nat.and_le_left ha)
theorem andNot_nat (a b : Nat) (ha : a < 2 ^ 63) (hb : b < 2 ^ 63) : Go.bits .andNot .i64 a b = ((dif a b : Nat) : Int) := by
  simp only [Go.bits, BitVec.ofInt_natCast, IntKind.bits]
  have e : (BitVec.ofNat 64 a &&& ~~~BitVec.ofNat 64 b).toNat = dif a b := by
    apply Nat.eq_of_testBit_eq
    intro i
    rw [dif_bit, BitVec.testBit_toNat, BitVec.getLsbD_and, BitVec.getLsbD_not, BitVec.getLsbD_ofNat, BitVec.getLsbD_ofNat]
    by_cases hi : i < 64
    · simp [hi]
    · have : a.testBit i = false := Nat.testBit_lt_two_pow (Nat.lt_of_lt_of_le ha (Nat.pow_le_pow_right (by decide) (by omega)))
      simp [hi, this]
  have hl := dif_lt a b 63 ha
  have e2 : IntKind.i64.wrap ((dif a b : Nat) : Int) = ((dif a b : Nat) : Int) := i64_small _ (by omega) (by exact_mod_cast hl)
  exact (congrArg (fun n : Nat => IntKind.i64.wrap (n : Int)) e).trans e2
theorem and_eq_iff_dif (a b : Nat) : (a &&& b = a) ↔ dif a b = 0 := by
  constructor
  · intro h; unfold dif; rw [h, Nat.xor_self]
  · intro h
    apply Nat.eq_of_testBit_eq; intro i
    have h2 := dif_bit a b i
    rw [h, Nat.zero_testBit] at h2
    rw [Nat.testBit_and]
    cases ha : a.testBit i <;> cases hb : b.testBit i <;> simp [ha, hb] at h2 ⊢
theorem bit_nat (s e : Nat) (hs : s < 2 ^ 63) (he : e ≤ 63) : (Go.bits .and .i64 (shr .i64 (s : Int) (e : Int)) 1 == 1) = s.testBit e := by
  have h1 : shr .i64 (s : Int) (e : Int) = ((s / 2 ^ e : Nat) : Int) := by
    unfold shr
    rw [Int.toNat_natCast, Nat.min_eq_left (by simp [IntKind.bits]; omega)]
    simp
  have h2 : s / 2 ^ e < 2 ^ 63 := Nat.lt_of_le_of_lt (Nat.div_le_self _ _) hs
  rw [h1, show (1 : Int) = ((1 : Nat) : Int) from rfl, and_nat _ _ h2 (by decide), Nat.and_one_is_mod, Nat.testBit_eq_decide_div_mod_eq]
  have : ((((s / 2 ^ e % 2 : Nat) : Int)) == ((1 : Nat) : Int)) = decide (s / 2 ^ e % 2 = 1) := by
    generalize s / 2 ^ e % 2 = q
    rw [Bool.eq_iff_iff, beq_iff_eq, decide_eq_true_iff]; omega
  exact this
theorem bit_int {s e : Int} (hs0 : 0 ≤ s) (hs : s < 9223372036854775808) (he0 : 0 ≤ e) (he : e ≤ 63) : (Go.bits .and .i64 (shr .i64 s e) 1 == 1) = hasB s e := by
  obtain ⟨a, rfl⟩ := Int.eq_ofNat_of_zero_le hs0
  obtain ⟨b, rfl⟩ := Int.eq_ofNat_of_zero_le he0
  exact bit_nat a b (by omega) (by omega)

theorem wstep {i : Int} {n : Nat} (h0 : 0 ≤ i) (h : i < (n : Int)) (hn : n ≤ 281474976710656) : wrap64 (i + 1) = i + 1 := by unfold wrap64; omega
theorem rd_nat (l : List Int) (i : Nat) (h : i < l.length) : rd l (i : Int) = l[i] := by unfold rd; rw [Int.toNat_natCast, List.getD_eq_getElem?_getD, List.getElem?_eq_getElem h]; rfl

/-- Row g, as a natural number. -/
def row (a : List Int) (g : Nat) : Nat := (a.getD g 0).toNat
def RowsOk (a : List Int) : Prop := ∀ x ∈ a, 0 ≤ x ∧ x ≤ 255
theorem rd_row {a : List Int} (h : RowsOk a) {i : Nat} (hi : i < a.length) : rd a (i : Int) = (row a i : Int) := by
  rw [rd_nat a i hi]
  have := h a[i] (List.getElem_mem hi)
  unfold row
  rw [List.getD_eq_getElem?_getD, List.getElem?_eq_getElem hi, Option.getD_some, Int.toNat_of_nonneg this.1]
theorem row_lt {a : List Int} (h : RowsOk a) (i : Nat) : row a i < 256 := by
  unfold row
  by_cases hi : i < a.length
  · have := h a[i] (List.getElem_mem hi)
    rw [List.getD_eq_getElem?_getD, List.getElem?_eq_getElem hi, Option.getD_some]; omega
  · rw [List.getD_eq_getElem?_getD, List.getElem?_eq_none (by omega)]; decide
theorem shl_bit {b : Nat} (hb : b ≤ 1) {i : Nat} (hi : i ≤ 8) : shl .i64 (b : Int) (i : Int) = ((b * 2 ^ i : Nat) : Int) := by
  have h0 : b = 0 ∨ b = 1 := by omega
  have h1 : i = 0 ∨ i = 1 ∨ i = 2 ∨ i = 3 ∨ i = 4 ∨ i = 5 ∨ i = 6 ∨ i = 7 ∨ i = 8 := by omega
  rcases h0 with rfl | rfl <;> rcases h1 with rfl | rfl | rfl | rfl | rfl | rfl | rfl | rfl | rfl <;> decide +kernel
theorem shl_one {i : Nat} (hi : i ≤ 8) : shl .i64 1 (i : Int) = ((2 ^ i : Nat) : Int) := by
  have := shl_bit (b := 1) (by omega) hi
  rw [Nat.one_mul] at this
  exact this
theorem pow_le8 {i : Nat} (hi : i ≤ 8) : 2 ^ i ≤ 256 := Nat.le_trans (Nat.pow_le_pow_right (by decide) hi) (by decide)
theorem full_nat {n : Nat} : full (n : Int) = ((2 ^ n - 1 : Nat) : Int) := by
  unfold full
  rw [Int.toNat_natCast, Int.natCast_sub (Nat.two_pow_pos n)]; simp
theorem or_lt {a b n : Nat} (ha : a < 2 ^ n) (hb : b < 2 ^ n) : a ||| b < 2 ^ n := Nat.or_lt_two_pow ha hb
theorem two_pow_bit (i g : Nat) : (2 ^ i).testBit g = decide (i = g) := Nat.testBit_two_pow
theorem full_bit (n m : Nat) : (2 ^ n - 1).testBit m = decide (m < n) := Nat.testBit_two_pow_sub_one n m
/-- A set of n elements is below 2 ^ n. -/
theorem isSet_nat {n : Nat} {s : Int} (h : isSetB (n : Int) s = true) : ∃ t : Nat, s = (t : Int) ∧ t < 2 ^ n ∧ n ≤ 8 ∧ t < 256 := by
  have hb := isSetB_bd h
  obtain ⟨t, rfl⟩ := Int.eq_ofNat_of_zero_le hb.2.2.1
  rw [full_nat] at hb
  have := Nat.two_pow_pos n
  exact ⟨t, rfl, by omega, by omega, by omega⟩
theorem lt_bits {t n : Nat} (h : t < 2 ^ n) {m : Nat} (hm : n ≤ m) : t.testBit m = false := Nat.testBit_lt_two_pow (Nat.lt_of_lt_of_le h (Nat.pow_le_pow_right (by decide) hm))
theorem lt_of_bits {t n : Nat} (h : ∀ m, t.testBit m = true → m < n) : t < 2 ^ n := by
  refine Nat.lt_pow_two_of_testBit t fun i hi => ?_
  cases e : t.testBit i with
  | false => rfl
  | true => exact absurd (h i e) (by omega)
theorem isSet_mk {n t : Nat} (hn : n ≤ 8) (h : t < 2 ^ n) : isSetB (n : Int) (t : Int) = true := by
  unfold isSetB
  rw [full_nat]
  have := Nat.two_pow_pos n
  exact decide_eq_true ⟨by omega, by omega, by omega, by omega⟩

theorem and255_bd (n : Int) : 0 ≤ Go.bits .and .i64 n 255 ∧ Go.bits .and .i64 n 255 ≤ 255 := by
  have h : (BitVec.ofInt 64 255).toNat = 2 ^ 8 - 1 := by decide
  have key : (BitVec.ofInt 64 n &&& BitVec.ofInt 64 255).toNat = (n % ((2 ^ 64 : Nat) : Int)).toNat % 2 ^ 8 := by
    rw [BitVec.toNat_and, BitVec.toNat_ofInt, h, Nat.and_two_pow_sub_one_eq_mod]
  have e : Go.bits .and .i64 n 255 = n % 256 := by
    show IntKind.i64.wrap ((BitVec.ofInt 64 n &&& BitVec.ofInt 64 255).toNat : Nat) = n % 256
    rw [key, IntKind.wrap_i64]
    omega
  omega
theorem l1New_loop (l : List Int) (hm : l.length ≤ maxLen) : ∀ (d i k : Nat) (s : Int), i + d = 4000 → d < k → ∃ s', spec_l1New.l0 k l s (i : Int) = some (l, 0, s')
  | 0, i, k, s, hi, hk => by
    obtain ⟨k, rfl⟩ : ∃ m, k = m + 1 := ⟨k - 1, by omega⟩
    simp only [spec_l1New.l0]
    by_cases h : (i : Int) < (l.length : Int)
    · rw [if_pos h, if_neg (by omega)]; exact ⟨_, rfl⟩
    · rw [if_neg h]; exact ⟨_, rfl⟩
  | d + 1, i, k, s, hi, hk => by
    obtain ⟨k, rfl⟩ : ∃ m, k = m + 1 := ⟨k - 1, by omega⟩
    simp only [spec_l1New.l0]
    by_cases h : (i : Int) < (l.length : Int)
    · rw [if_pos h, if_pos (by omega), if_pos (by omega), show wrap64 ((i : Int) + 1) = ((i + 1 : Nat) : Int) from by rw [w64 (by omega) (by omega)]; omega]
      exact l1New_loop l hm d (i + 1) k _ (by omega) (by omega)
    · rw [if_neg h]; exact ⟨_, rfl⟩
theorem l1New_ok (l : List Int) (hm : l.length ≤ maxLen) {k : Nat} (hk : 4001 ≤ k) : ∃ s, spec_l1New.f k l = some (l, 0, s) := by
  unfold spec_l1New.f
  exact l1New_loop l hm 4000 0 k _ (by omega) (by omega)
theorem l1Byte_ok (l : List Int) (hm : l.length ≤ maxLen) (i s : Int) (hi : 0 ≤ i) : ∃ b i' s', spec_l1Byte.f l i s = some (b, i', s') ∧ 0 ≤ i' ∧ 0 ≤ b ∧ b ≤ 255 := by
  unfold spec_l1Byte.f
  unfold maxLen at hm
  by_cases h : i < (l.length : Int)
  · rw [if_pos h, if_pos hi]
    exact ⟨_, _, _, rfl, by rw [w64 (by omega) (by omega)]; omega, (and255_bd _).1, (and255_bd _).2⟩
  · rw [if_neg h]
    exact ⟨_, _, _, rfl, hi, (and255_bd _).1, (and255_bd _).2⟩
theorem l1Below_ok (l : List Int) (hm : l.length ≤ maxLen) (i s a : Int) (hi : 0 ≤ i) : ∃ r i' s', spec_l1Below.f l i s a = some (r, i', s') ∧ 0 ≤ i' ∧ (0 < a → a ≤ 256 → 0 ≤ r ∧ r < a) := by
  unfold spec_l1Below.f
  by_cases h0 : a ≤ 0
  · rw [if_pos h0]; exact ⟨_, _, _, rfl, hi, fun h => absurd h (by omega)⟩
  · rw [if_neg h0]
    obtain ⟨b, i1, s1, e, h1, h2, h3⟩ := l1Byte_ok l hm i s hi
    by_cases h4 : a ≤ 256
    · rw [if_pos h4, e, Option.bind_some, if_neg (by omega)]
      refine ⟨_, _, _, rfl, h1, fun _ _ => ?_⟩
      rw [Int.tmod_eq_emod_of_nonneg h2]
      exact ⟨Int.emod_nonneg _ (by omega), Int.emod_lt_of_pos _ (by omega)⟩
    · obtain ⟨b2, i2, s2, e2, h12, _, _⟩ := l1Byte_ok l hm i1 s1 h1
      obtain ⟨b3, i3, s3, e3, h13, _, _⟩ := l1Byte_ok l hm i2 s2 h12
      obtain ⟨b4, i4, s4, e4, h14, _, _⟩ := l1Byte_ok l hm i3 s3 h13
      rw [if_neg h4, e]; simp only [Option.bind_some]
      rw [e2]; simp only [Option.bind_some]
      rw [e3]; simp only [Option.bind_some]
      rw [e4]; simp only [Option.bind_some]
      rw [if_neg (by omega)]
      exact ⟨_, _, _, rfl, h14, fun _ h => absurd h h4⟩
theorem l1PickInt_ok (l : List Int) (hm : l.length ≤ maxLen) (i s : Int) (z : List Int) (hi : 0 ≤ i) (hz : 0 < z.length) (hz2 : z.length ≤ 256) : ∃ r i' s', spec_l1PickInt.f l i s z = some (r, i', s') ∧ 0 ≤ i' := by
  unfold spec_l1PickInt.f
  obtain ⟨b, i1, s1, e, h1, h2⟩ := l1Below_ok l hm i s (z.length : Int) hi
  have := h2 (by omega) (by omega)
  rw [e]; simp only [Option.bind_some]
  rw [if_pos this.1, if_pos this.2]; exact ⟨_, _, _, rfl, h1⟩

theorem l1Pick_ok (l : List Int) (hm : l.length ≤ maxLen) (i s : Int) (z : List ByteArray) (hi : 0 ≤ i) (hz : 0 < z.length) (hz2 : z.length ≤ 256) (B : Nat) (hB : ∀ x ∈ z, x.size ≤ B) : ∃ r i' s', spec_l1Pick.f l i s z = some (r, i', s') ∧ 0 ≤ i' ∧ r.size ≤ B := by
  unfold spec_l1Pick.f
  obtain ⟨b, i1, s1, e, h1, h2⟩ := l1Below_ok l hm i s (z.length : Int) hi
  have h3 := h2 (by omega) (by omega)
  rw [e]; simp only [Option.bind_some]
  rw [if_pos h3.1, if_pos h3.2]
  refine ⟨_, _, _, rfl, h1, ?_⟩
  unfold rdOf
  have hl : b.toNat < z.length := by omega
  rw [List.getD_eq_getElem?_getD, List.getElem?_eq_getElem hl]
  exact hB _ (List.getElem_mem hl)

theorem bt_list (s : ByteArray) (i : Nat) (h : i < s.size) : bt s (i : Int) = ((s.data.toList[i]'(by rw [Array.length_toList]; exact h)).toNat : Int) := by
  unfold bt
  rw [dif_pos (by rw [Int.toNat_natCast]; exact h)]
  simp only [Int.toNat_natCast]
  rfl
theorem size_list (s : ByteArray) : s.data.toList.length = s.size := by rw [Array.length_toList]; rfl

/-- The pieces of l between the bytes c. -/
def splitC (c : UInt8) : List UInt8 → List (List UInt8)
  | [] => [[]]
  | b :: l => if b = c then [] :: splitC c l else match splitC c l with
    | [] => [[b]]
    | h :: t => (b :: h) :: t
def splitAcc (c : UInt8) : List UInt8 → List UInt8 → List (List UInt8)
  | p, [] => [p]
  | p, b :: l => if b = c then p :: splitAcc c [] l else splitAcc c (p ++ [b]) l
theorem splitC_ne (c : UInt8) : ∀ l, splitC c l ≠ []
  | [] => by simp [splitC]
  | b :: l => by
    simp only [splitC]
    split
    · simp
    · split <;> simp
theorem splitAcc_eq (c : UInt8) : ∀ (l p : List UInt8), splitAcc c p l = match splitC c l with
    | [] => [p]
    | h :: t => (p ++ h) :: t
  | [], p => by simp [splitAcc, splitC]
  | b :: l, p => by
    simp only [splitAcc, splitC]
    by_cases e : b = c
    · rw [if_pos e, if_pos e, splitAcc_eq c l []]
      cases h : splitC c l with
      | nil => exact absurd h (splitC_ne c l)
      | cons x t => simp
    · rw [if_neg e, if_neg e, splitAcc_eq c l]
      cases h : splitC c l with
      | nil => exact absurd h (splitC_ne c l)
      | cons x t => simp
theorem splitAcc_nil (c : UInt8) (l : List UInt8) : splitAcc c [] l = splitC c l := by
  rw [splitAcc_eq]
  cases h : splitC c l with
  | nil => exact absurd h (splitC_ne c l)
  | cons x t => rfl
open Go.Lib in
theorem splitK_one (c : UInt8) : ∀ l : List UInt8, splitK [c] 0 (count l [c]) l = splitC c l
  | [] => by
    rw [count_miss (by simp [index])]; rfl
  | b :: l => by
    have ih := splitK_one c l
    simp only [splitC]
    by_cases e : b = c
    · subst e
      have hix : index (b :: l) [b] = 0 := by rw [index]; simp [List.isPrefixOf]
      rw [if_pos rfl, count_cons_eq, Nat.add_comm 1]
      simp only [splitK, hix]
      rw [if_neg (by decide)]
      simp only [Int.toNat_zero, List.length_singleton, Nat.zero_add, List.drop_succ_cons, List.drop_zero, List.take_zero]
      rw [ih]
    · rw [if_neg e, count_cons_ne b c l e, ← ih]
      have hp : ([c] : List UInt8).isPrefixOf (b :: l) = false := by simp [List.isPrefixOf, Ne.symm e]
      have hix : index (b :: l) [c] = if index l [c] == -1 then -1 else index l [c] + 1 := by rw [index, hp]; simp
      cases hc : count l [c] with
      | zero => rfl
      | succ k =>
        by_cases hm : index l [c] = -1
        · rw [count_miss hm] at hc; cases hc
        · have hge := index_ge l [c]
          obtain ⟨j, hj⟩ : ∃ j : Nat, index l [c] = j := ⟨(index l [c]).toNat, by omega⟩
          have hb : (index l [c] == -1) = false := by rw [beq_eq_false_iff_ne]; exact hm
          have hix2 : index (b :: l) [c] = ((j + 1 : Nat) : Int) := by rw [hix, hb, if_neg (by decide), hj]; omega
          have hb2 : (((j + 1 : Nat) : Int) == -1) = false := by rw [beq_eq_false_iff_ne]; omega
          have hb3 : ((j : Int) == -1) = false := by rw [beq_eq_false_iff_ne]; omega
          simp only [splitK, hix2, hj, hb2, hb3, Bool.false_eq_true, if_false, Int.toNat_natCast, List.length_singleton, Nat.add_zero, List.take_succ_cons, List.drop_succ_cons]
def mkB (l : List UInt8) : ByteArray := ⟨l.toArray⟩
theorem mkB_data (b : ByteArray) : mkB b.data.toList = b := by obtain ⟨⟨l⟩⟩ := b; rfl
def cB (x : Int) : UInt8 := UInt8.ofNat x.toNat
theorem splitL_eq (s : ByteArray) (x : Int) : splitL s (strOfNums [x]) = (splitC (cB x) s.data.toList).map mkB := by
  have h : (splitL s (strOfNums [x])).map (·.data.toList) = splitC (cB x) s.data.toList := by
    unfold splitL
    rw [Go.Lib.splitB_data]
    exact splitK_one (cB x) s.data.toList
  rw [← h, List.map_map]
  conv => lhs; rw [← List.map_id (splitL s (strOfNums [x]))]
  apply List.map_congr_left
  intro b _
  exact (mkB_data b).symm
theorem splitC_len (c : UInt8) : ∀ l : List UInt8, (splitC c l).length ≤ l.length + 1
  | [] => by simp [splitC]
  | b :: l => by
    have ih := splitC_len c l
    simp only [splitC]
    split
    · simp; exact ih
    · cases h : splitC c l with
      | nil => simp
      | cons x t => rw [h] at ih; simp at ih ⊢; omega
theorem impl_SplitByte_eq (s : ByteArray) (x : Int) (hs : s.size ≤ 1048576) : impl_SplitByte.f s x = some ((splitC (cB x) s.data.toList).map mkB) := by
  unfold impl_SplitByte.f strings_Split.f
  rw [if_pos ⟨by omega, by rw [strOfNums_size]; exact Nat.le_refl _⟩, splitL_eq]; rfl
theorem cut_list (s : ByteArray) (a b : Nat) : (s.extract a b).data.toList = (s.data.toList.drop a).take (b - a) := by
  rw [ByteArray.data_extract, Array.toList_extract, List.extract_eq_take_drop]
theorem split_loop (s : ByteArray) (x : Int) (hx0 : 0 ≤ x) (hx1 : x ≤ 255) (hs : s.size ≤ 1048576) : ∀ (d f i k : Nat) (out : List ByteArray), i + d = s.size → f ≤ i → d + 2 < k → out.length ≤ i → spec_SplitByte.l0 k s x out (f : Int) (i : Int) = some (out ++ (splitAcc (cB x) ((s.data.toList.drop f).take (i - f)) (s.data.toList.drop i)).map mkB)
  | 0, f, i, k, out, hi, hf, hk, ho => by
    obtain ⟨k, rfl⟩ : ∃ m, k = m + 1 + 1 := ⟨k - 2, by omega⟩
    have hl := size_list s
    have e1 : wrap64 ((i : Int) + 1) = ((i + 1 : Nat) : Int) := by rw [w64 (by omega) (by omega)]; omega
    simp only [spec_SplitByte.l0]
    rw [if_pos (by omega), if_pos (by omega), if_pos (by omega), if_pos (by omega), if_pos (by omega), e1, if_neg (by omega), List.drop_eq_nil_of_le (by omega : s.data.toList.length ≤ i)]
    simp only [splitAcc, List.map_cons, List.map_nil, Int.toNat_natCast]
    rw [← cut_list, mkB_data]
  | d + 1, f, i, k, out, hi, hf, hk, ho => by
    obtain ⟨k, rfl⟩ : ∃ m, k = m + 1 := ⟨k - 1, by omega⟩
    have hl := size_list s
    have h1 : i < s.data.toList.length := by omega
    have e1 : wrap64 ((i : Int) + 1) = ((i + 1 : Nat) : Int) := by rw [w64 (by omega) (by omega)]; omega
    simp only [spec_SplitByte.l0]
    rw [if_pos (by omega), if_neg (by omega), if_pos (by omega), if_pos (by omega), bt_list s i (by omega), List.drop_eq_getElem_cons h1]
    simp only [splitAcc, Int.toNat_natCast]
    by_cases hc : s.data.toList[i] = cB x
    · have hb : (((s.data.toList[i]'h1).toNat : Nat) : Int) = x := by rw [hc]; unfold cB; rw [UInt8.toNat_ofNat']; omega
      rw [if_pos hb, if_pos (by omega), if_pos (by omega), if_pos (by omega), e1, if_pos hc]
      have := split_loop s x hx0 hx1 hs d (i + 1) (i + 1) k (out ++ [s.extract f i]) (by omega) (Nat.le_refl _) (by omega) (by rw [List.length_append, List.length_singleton]; omega)
      rw [this, Nat.sub_self, List.take_zero, List.append_assoc, ← cut_list, List.map_cons, mkB_data]; rfl
    · have hb : ¬ (((s.data.toList[i]'h1).toNat : Nat) : Int) = x := fun e => hc (by
        unfold cB
        rw [← e, Int.toNat_natCast, UInt8.ofNat_toNat])
      rw [if_neg hb, e1, if_neg hc]
      have := split_loop s x hx0 hx1 hs d f (i + 1) k out (by omega) (by omega) (by omega) (by omega)
      rw [this]
      congr 2
      have hd : (s.data.toList.drop f).take (i + 1 - f) = (s.data.toList.drop f).take (i - f) ++ [s.data.toList[i]] := by
        have h2 : i - f < (s.data.toList.drop f).length := by rw [List.length_drop]; omega
        rw [show i + 1 - f = (i - f) + 1 from by omega, List.take_succ_eq_append_getElem h2, List.getElem_drop]
        congr 3; omega
      rw [hd]
theorem spec_SplitByte_eq (s : ByteArray) (x : Int) (hx0 : 0 ≤ x) (hx1 : x ≤ 255) (hs : s.size ≤ 1048576) {k : Nat} (hk : s.size + 3 ≤ k) : spec_SplitByte.f k s x = some ((splitC (cB x) s.data.toList).map mkB) := by
  unfold spec_SplitByte.f
  have := split_loop s x hx0 hx1 hs s.size 0 0 k [] (by omega) (Nat.le_refl _) (by omega) (Nat.le_refl _)
  rw [show ((0 : Nat) : Int) = 0 from rfl] at this
  rw [this, List.nil_append]
  simp only [List.drop_zero, Nat.sub_self, List.take_zero, splitAcc_nil]

theorem join_two (p q : List UInt8) (r : List (List UInt8)) (c : UInt8) : Go.Lib.join (p :: q :: r) [c] = p ++ c :: Go.Lib.join (q :: r) [c] := by
  rw [Go.Lib.join_cons, Go.Lib.join_cons]
  unfold Go.Lib.joinTail
  simp
theorem join_head (b : UInt8) (h : List UInt8) (t : List (List UInt8)) (c : UInt8) : Go.Lib.join ((b :: h) :: t) [c] = b :: Go.Lib.join (h :: t) [c] := by
  rw [Go.Lib.join_cons, Go.Lib.join_cons]; rfl
theorem join_split (c : UInt8) : ∀ l : List UInt8, Go.Lib.join (splitC c l) [c] = l
  | [] => Go.Lib.join_one _ _
  | b :: l => by
    have ih := join_split c l
    simp only [splitC]
    by_cases e : b = c
    · rw [if_pos e]
      cases h : splitC c l with
      | nil => exact absurd h (splitC_ne c l)
      | cons x t => rw [join_two, ← h, ih, e]; rfl
    · rw [if_neg e]
      cases h : splitC c l with
      | nil => exact absurd h (splitC_ne c l)
      | cons x t => rw [h] at ih; simp only; rw [join_head, ih]
theorem splitC_no (c : UInt8) : ∀ l : List UInt8, c ∉ l → splitC c l = [l]
  | [], _ => rfl
  | b :: l, h => by
    simp only [splitC]
    rw [if_neg (fun e => h (by rw [e]; exact List.mem_cons_self ..)), splitC_no c l (fun e => h (List.mem_cons_of_mem _ e))]
theorem splitC_mem (c : UInt8) : ∀ (l p : List UInt8), p ∈ splitC c l → c ∉ p
  | [], p, h => by
    simp only [splitC, List.mem_singleton] at h
    subst h; exact List.not_mem_nil
  | b :: l, p, h => by
    simp only [splitC] at h
    by_cases e : b = c
    · rw [if_pos e] at h
      rcases List.mem_cons.1 h with rfl | h
      · exact List.not_mem_nil
      · exact splitC_mem c l p h
    · rw [if_neg e] at h
      cases hh : splitC c l with
      | nil => exact absurd hh (splitC_ne c l)
      | cons x t =>
        rw [hh] at h
        rcases List.mem_cons.1 h with rfl | h
        · intro hc
          rcases List.mem_cons.1 hc with hc | hc
          · exact e hc.symm
          · exact splitC_mem c l x (by rw [hh]; exact List.mem_cons_self ..) hc
        · exact splitC_mem c l p (by rw [hh]; exact List.mem_cons_of_mem _ h)
theorem splitC_app (c : UInt8) (l : List UInt8) : ∀ p : List UInt8, c ∉ p → splitC c (p ++ c :: l) = p :: splitC c l
  | [], _ => by simp [splitC]
  | b :: p, h => by
    have ih := splitC_app c l p (fun e => h (List.mem_cons_of_mem _ e))
    simp only [List.cons_append, splitC]
    rw [if_neg (fun e => h (by rw [e]; exact List.mem_cons_self ..)), ih]
theorem split_join (c : UInt8) : ∀ ps : List (List UInt8), ps ≠ [] → (∀ p ∈ ps, c ∉ p) → splitC c (Go.Lib.join ps [c]) = ps
  | [], h, _ => absurd rfl h
  | [p], _, h => by rw [Go.Lib.join_one]; exact splitC_no c p (h p (List.mem_cons_self ..))
  | p :: q :: r, _, h => by
    rw [join_two, splitC_app c _ p (h p (List.mem_cons_self ..)), split_join c (q :: r) (List.cons_ne_nil _ _) (fun x hx => h x (List.mem_cons_of_mem _ hx))]

theorem rdS (l : List ByteArray) (i : Nat) (h : i < l.length) : rdOf ByteArray.empty l (i : Int) = l[i] := by unfold rdOf; rw [Int.toNat_natCast, List.getD_eq_getElem?_getD, List.getElem?_eq_getElem h]; rfl
def sumSz (l : List ByteArray) : Nat := (l.map (·.size)).sum
theorem sumSz_take (l : List ByteArray) (i : Nat) (h : i < l.length) : sumSz (l.take (i + 1)) = sumSz (l.take i) + l[i].size := by
  unfold sumSz; rw [List.take_succ_eq_append_getElem h, List.map_append, List.sum_append_nat, List.map_singleton, List.sum_singleton]
theorem sumSz_drop (l : List ByteArray) (i : Nat) (h : i < l.length) : sumSz (l.drop i) = l[i].size + sumSz (l.drop (i + 1)) := by
  unfold sumSz; rw [List.drop_eq_getElem_cons h, List.map_cons, List.sum_cons]
theorem sumSz_le (l : List ByteArray) (i : Nat) : sumSz (l.take i) + sumSz (l.drop i) = sumSz l := by
  unfold sumSz
  rw [← List.sum_append_nat, ← List.map_append, List.take_append_drop]

/-- Bytes, as numbers. -/
def nums (b : List UInt8) : List Int := b.map fun x => (x.toNat : Int)
theorem bytesOf_nums (s : ByteArray) : bytesOf s = nums s.data.toList := rfl
theorem nums_len (b : List UInt8) : (nums b).length = b.length := List.length_map _
theorem nums_app (a b : List UInt8) : nums a ++ nums b = nums (a ++ b) := (List.map_append).symm
theorem strOfNums_nums (b : List UInt8) : strOfNums (nums b) = ⟨b.toArray⟩ := by
  unfold strOfNums nums
  rw [List.map_map]
  have e : ((fun n : Int => UInt8.ofNat n.toNat) ∘ fun x : UInt8 => (x.toNat : Int)) = id := by
    funext x
    show UInt8.ofNat ((x.toNat : Int)).toNat = x
    rw [Int.toNat_natCast, UInt8.ofNat_toNat]
  rw [e, List.map_id]
theorem dlen (s : ByteArray) : s.data.toList.length = s.size := by rw [Array.length_toList]; rfl
theorem join_snoc (l : List ByteArray) (s x : ByteArray) : joinB (l ++ [x]) s = if l = [] then x.data.toList else joinB l s ++ s.data.toList ++ x.data.toList := by
  cases l with
  | nil => rw [if_pos rfl]; exact Go.Lib.join_one _ _
  | cons y r =>
    rw [if_neg (by simp)]
    unfold joinB
    rw [List.cons_append, List.map_cons, List.map_cons, Go.Lib.join_cons, Go.Lib.join_cons, List.map_append]
    unfold Go.Lib.joinTail
    rw [List.map_append, List.flatten_append]
    simp
theorem join_take (l : List ByteArray) (s : ByteArray) (i : Nat) (h : i < l.length) : joinB (l.take (i + 1)) s = if i = 0 then l[i].data.toList else joinB (l.take i) s ++ s.data.toList ++ l[i].data.toList := by
  rw [List.take_succ_eq_append_getElem h, join_snoc]
  by_cases h0 : i = 0
  · subst h0; rfl
  · rw [if_neg h0, if_neg (fun e => h0 (by have := congrArg List.length e; rw [List.length_take, List.length_nil] at this; omega))]
theorem join_len (l : List ByteArray) (s : ByteArray) : ∀ i, i ≤ l.length → (joinB (l.take i) s).length = (i - 1) * s.size + sumSz (l.take i)
  | 0, _ => by
    rw [List.take_zero]
    show 0 = (0 - 1) * s.size + 0
    rw [Nat.zero_sub, Nat.zero_mul]
  | i + 1, h => by
    have ih := join_len l s i (by omega)
    rw [join_take l s i (by omega), sumSz_take l i (by omega)]
    by_cases h0 : i = 0
    · rw [if_pos h0, dlen]; subst h0; show _ = 0 * s.size + (0 + _); omega
    · rw [if_neg h0, List.length_append, List.length_append, ih, dlen, dlen]
      obtain ⟨j, rfl⟩ : ∃ j, i = j + 1 := ⟨i - 1, by omega⟩
      have e1 : j + 1 - 1 = j := rfl
      have e2 : j + 1 + 1 - 1 = j + 1 := rfl
      rw [e1, e2, Nat.add_mul, Nat.one_mul]
      omega
theorem join_mono (l : List ByteArray) (s : ByteArray) {i : Nat} (h : i ≤ l.length) : (joinB (l.take i) s).length ≤ (joinB l s).length := by
  have e := join_len l s l.length (Nat.le_refl _)
  rw [List.take_length] at e
  rw [join_len l s i h, e]
  have h1 := sumSz_le l i
  have h2 : (i - 1) * s.size ≤ (l.length - 1) * s.size := Nat.mul_le_mul_right _ (by omega)
  omega
/-- What Join answers. -/
def joinR (l : List ByteArray) (s : ByteArray) : ByteArray := if (joinB l s).length ≤ 1048576 then ⟨(joinB l s).toArray⟩ else ⟨#[]⟩

theorem impl_Join_loop (l : List ByteArray) (s : ByteArray) (hl : l.length ≤ 1048576) (hs : s.size ≤ 1048576) (hsz : sumSz l ≤ 1099511627776) (d : Nat) : ∀ (i k : Nat), i + d = l.length → d < k →
    impl_Join.l0 k l s (((l.length - 1) * s.size + sumSz (l.take i) : Nat) : Int) l (l.length : Int) (i : Int) = some (joinR l s) := by
  have hm : (l.length - 1) * s.size ≤ 1048576 * 1048576 := Nat.mul_le_mul (by omega) hs
  have he := join_len l s l.length (Nat.le_refl _)
  rw [List.take_length] at he
  induction d with
  | zero =>
    intro i k hi hk
    obtain ⟨k, rfl⟩ : ∃ m, k = m + 1 := ⟨k - 1, by omega⟩
    rw [List.take_of_length_le (by omega), ← he]
    simp only [impl_Join.l0]
    rw [if_neg (by omega)]
    unfold joinR
    by_cases hb : (joinB l s).length ≤ 1048576
    · rw [if_neg (by omega), if_pos hb]
      unfold strings_Join.f
      rw [if_pos ⟨by omega, by omega⟩]; rfl
    · rw [if_pos (by omega), if_neg hb]
  | succ d ih =>
    intro i k hi hk
    obtain ⟨k, rfl⟩ : ∃ m, k = m + 1 := ⟨k - 1, by omega⟩
    have h1 : i < l.length := by omega
    have hw : wrap64 ((i : Int) + 1) = ((i + 1 : Nat) : Int) := by rw [wstep (n := l.length) (by omega) (by omega) (by omega)]; omega
    have hst := sumSz_take l i h1
    have hle := sumSz_le l (i + 1)
    have hs2 : wrap64 ((((l.length - 1) * s.size + sumSz (l.take i) : Nat) : Int) + (l[i].size : Int)) = (((l.length - 1) * s.size + sumSz (l.take (i + 1)) : Nat) : Int) := by
      generalize (l.length - 1) * s.size = M at hm ⊢
      rw [w64 (by omega) (by omega)]; omega
    simp only [impl_Join.l0]
    rw [if_pos (by omega), if_pos (by omega), if_pos (by omega), rdS l i h1, hw, hs2]
    exact ih (i + 1) k (by omega) (by omega)
theorem impl_Join_eq (l : List ByteArray) (s : ByteArray) (hl : l.length ≤ 1048576) (hs : s.size ≤ 1048576) (hsz : sumSz l ≤ 1099511627776) {k : Nat} (hk : l.length < k) : impl_Join.f k l s = some (joinR l s) := by
  have hm : (l.length - 1) * s.size ≤ 1048576 * 1048576 := Nat.mul_le_mul (by omega) hs
  have e : wrap64 ((mx (wrap64 ((l.length : Int) - 1)) 0) * (s.size : Int)) = (((l.length - 1) * s.size + sumSz (l.take 0) : Nat) : Int) := by
    have e1 : mx (wrap64 ((l.length : Int) - 1)) 0 = ((l.length - 1 : Nat) : Int) := by
      rw [w64 (by omega) (by omega)]
      unfold mx
      by_cases h : (l.length : Int) - 1 < 0
      · rw [if_pos h]; omega
      · rw [if_neg h]; omega
    have e2 : sumSz (l.take 0) = 0 := rfl
    rw [e1, e2, ← Int.natCast_mul, w64 (by omega) (by omega)]; rfl
  unfold impl_Join.f
  rw [e]
  exact impl_Join_loop l s hl hs hsz l.length 0 k (by omega) hk

theorem DrawSplitByte_ok (l : List Int) (hm : l.length ≤ maxLen) {k : Nat} (hk : 4001 ≤ k) : ∃ (s : ByteArray) (x : Int), spec_DrawSplitByte.f k l = some (s, x) ∧ s.size ≤ 5 ∧ 0 ≤ x ∧ x ≤ 255 := by
  unfold spec_DrawSplitByte.f
  obtain ⟨s0, e0⟩ := l1New_ok l hm hk
  rw [e0]; simp only [Option.bind_some]
  obtain ⟨s, i1, s1, e1, h1, hs⟩ := l1Pick_ok l hm 0 s0 [(⟨#[]⟩ : ByteArray), (⟨#[97]⟩ : ByteArray), (⟨#[97, 44, 98]⟩ : ByteArray), (⟨#[44]⟩ : ByteArray), (⟨#[97, 44, 44, 98, 44]⟩ : ByteArray), (⟨#[97, 10, 98, 10]⟩ : ByteArray)] (by decide) (by decide) (by decide) 5 (by
    intro x hx
    simp only [List.mem_cons, List.not_mem_nil, or_false] at hx
    rcases hx with rfl | rfl | rfl | rfl | rfl | rfl <;> decide)
  rw [e1]; simp only [Option.bind_some]
  obtain ⟨q, i2, s2, e2, h2⟩ := l1PickInt_ok l hm i1 s1 [44, 10] h1 (by decide) (by decide)
  rw [e2]; simp only [Option.bind_some]
  exact ⟨s, q % 256, rfl, hs, Int.emod_nonneg _ (by decide), by omega⟩
theorem split_l0 (x : Int) (ps : List ByteArray) (hn : ps.length ≤ 100) (hp : ∀ p ∈ ps, impl_SplitByte.f p x = some [p]) (d : Nat) : ∀ (i k : Nat), i + d = ps.length → d < k → laws_FnSplit.l0 k x ps (i : Int) = some true := by
  induction d with
  | zero =>
    intro i k hi hk
    obtain ⟨k, rfl⟩ : ∃ m, k = m + 1 := ⟨k - 1, by omega⟩
    simp only [laws_FnSplit.l0]; rw [if_neg (by omega)]
  | succ d ih =>
    intro i k hi hk
    obtain ⟨k, rfl⟩ : ∃ m, k = m + 1 := ⟨k - 1, by omega⟩
    have h1 : i < ps.length := by omega
    have hr : rdOf ByteArray.empty ps (i : Int) = ps[i] := by unfold rdOf; rw [Int.toNat_natCast, List.getD_eq_getElem?_getD, List.getElem?_eq_getElem h1]; rfl
    have hw : wrap64 ((i : Int) + 1) = ((i + 1 : Nat) : Int) := by rw [w64 (by omega) (by omega)]; omega
    simp only [laws_FnSplit.l0]
    rw [if_pos (by omega), if_pos (by omega), hr, hp _ (List.getElem_mem h1)]; simp only [Option.bind_some]
    rw [if_pos (show (([ps[i]] : List ByteArray).length : Int) = 1 from rfl), hw]
    exact ih (i + 1) k (by omega) (by omega)
theorem FnSplit : laws_FnSplit.Pure := by
  intro l hm hw
  refine ⟨5001, ?_⟩
  unfold laws_FnSplit.f laws_big.f
  simp only [Option.bind_some]
  by_cases hbig : (l.length : Int) > 1048576
  · rw [decide_eq_true hbig, if_pos rfl]
  rw [decide_eq_false hbig, if_neg (by decide)]
  obtain ⟨s, x, e1, hs, hx0, hx1⟩ := DrawSplitByte_ok l hm (k := 5001) (by decide)
  have hl := size_list s
  have e2 := impl_SplitByte_eq s x (by omega)
  have e3 := spec_SplitByte_eq s x hx0 hx1 (by omega) (k := 5001) (by omega)
  have hlen := splitC_len (cB x) s.data.toList
  obtain ⟨z, hz⟩ : ∃ z, z = (splitC (cB x) s.data.toList).map mkB := ⟨_, rfl⟩
  rw [← hz] at e2 e3
  have hzl : z.length ≤ 6 := by rw [hz, List.length_map]; omega
  have hsz : ∀ p ∈ splitC (cB x) s.data.toList, p.length ≤ 5 := fun p hp => by
    have h1 := join_split (cB x) s.data.toList
    have h2 : ∀ (ps : List (List UInt8)) (p : List UInt8), p ∈ ps → p.length ≤ (Go.Lib.join ps [cB x]).length := by
      intro ps
      induction ps with
      | nil => intro p hp; cases hp
      | cons q r ih =>
        intro p hp
        cases r with
        | nil => rw [Go.Lib.join_one]; rw [List.mem_singleton] at hp; rw [hp]; exact Nat.le_refl _
        | cons y r =>
          rw [join_two, List.length_append, List.length_cons]
          rcases List.mem_cons.1 hp with rfl | hp
          · omega
          · have := ih p hp; omega
    have := h2 _ p hp
    rw [h1] at this; omega
  have hps : ∀ p ∈ z, impl_SplitByte.f p x = some [p] := fun p hp => by
    rw [hz] at hp
    obtain ⟨q, hq, rfl⟩ := List.mem_map.1 hp
    have h5 := hsz q hq
    have hd : (mkB q).data.toList = q := rfl
    rw [impl_SplitByte_eq (mkB q) x (by rw [← size_list, hd]; omega), hd, splitC_no _ _ (splitC_mem _ _ _ hq)]; rfl
  have hsum : sumSz z ≤ 1099511627776 := by
    have h2 : ∀ (zs : List ByteArray), (∀ p ∈ zs, p.size ≤ 5) → sumSz zs ≤ 5 * zs.length := by
      intro zs
      induction zs with
      | nil => intro _; exact Nat.le_refl _
      | cons y r ih =>
        intro h
        have h3 := h y (List.mem_cons_self ..)
        have h4 := ih (fun p hp => h p (List.mem_cons_of_mem _ hp))
        unfold sumSz at h4 ⊢
        rw [List.map_cons, List.sum_cons, List.length_cons]; omega
    have := h2 z (fun p hp => by
      rw [hz] at hp
      obtain ⟨q, hq, rfl⟩ := List.mem_map.1 hp
      have h5 := hsz q hq
      rw [← size_list]; exact h5)
    omega
  have e4 := impl_Join_eq z (strOfNums [x]) (by omega) (by rw [strOfNums_size]; show 1 ≤ 1048576; decide) hsum (k := 5001) (by omega)
  have hj : joinB z (strOfNums [x]) = s.data.toList := by
    unfold joinB
    have h6 : z.map (·.data.toList) = splitC (cB x) s.data.toList := by
      rw [hz, List.map_map]
      conv => rhs; rw [← List.map_id (splitC (cB x) s.data.toList)]
      exact List.map_congr_left fun q _ => rfl
    rw [h6]
    exact join_split (cB x) s.data.toList
  have e5 : joinR z (strOfNums [x]) = s := by
    unfold joinR
    rw [hj, if_pos (by omega)]
  rw [e5] at e4
  have e6 := split_l0 x z (by omega) hps z.length 0 5000 (by omega) (by omega)
  rw [e1]; simp only [Option.bind_some]
  rw [e2]; simp only [Option.bind_some]
  rw [e4]; simp only [Option.bind_some]
  rw [if_pos trivial, e3]; simp only [Option.bind_some]
  rw [bne_self_eq_false]
  simp only [laws_FnSplit.j0]
  rw [if_neg (by decide)]
  exact e6

end Go.Proofs.YtgdgmkdbmopcbaaDoor.Pure
