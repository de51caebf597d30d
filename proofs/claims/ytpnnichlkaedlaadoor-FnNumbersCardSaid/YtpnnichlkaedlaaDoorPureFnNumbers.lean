/- For every input the law answers true. No condition. -/
import Derived.Test.YtpnnichlkaedlaaDoorPFnNumbersx3
set_option linter.unusedVariables false
set_option linter.unusedSimpArgs false
namespace Go.Proofs.YtpnnichlkaedlaaDoor.Pure
open Go.RowKit Go.Proofs.YtpnnichlkaedlaaDoor.PFnNumbers Go.Proofs.YtpnnichlkaedlaaDoorW.PrintWords Go.Proofs.YtpnnichlkaedlaaDoorW.PrintLast
/-- The full set of n elements. -/
def full (n : Int) : Int := (2 : Int) ^ n.toNat - 1
def isSetB (n s : Int) : Bool := decide (0 ≤ n ∧ n ≤ 8 ∧ 0 ≤ s ∧ s ≤ full n)
def hasB (s e : Int) : Bool := s.toNat.testBit e.toNat
theorem nine {n : Int} (h0 : 0 ≤ n) (h1 : n ≤ 8) : n = 0 ∨ n = 1 ∨ n = 2 ∨ n = 3 ∨ n = 4 ∨ n = 5 ∨ n = 6 ∨ n = 7 ∨ n = 8 := by omega
theorem full_bd {n : Int} (h0 : 0 ≤ n) (h1 : n ≤ 8) : 0 ≤ full n ∧ full n ≤ 255 := by
  rcases nine h0 h1 with rfl | rfl | rfl | rfl | rfl | rfl | rfl | rfl | rfl <;> decide +kernel
theorem isSetB_bd {n s : Int} (h : isSetB n s = true) : 0 ≤ n ∧ n ≤ 8 ∧ 0 ≤ s ∧ s ≤ full n ∧ s ≤ 255 := by
  unfold isSetB at h
  have h := of_decide_eq_true h
  have := full_bd h.1 h.2.1
  omega
theorem isSetB8 (s : Int) : isSetB 8 s = decide (0 ≤ s ∧ s ≤ 255) := by
  unfold isSetB
  have : full 8 = 255 := by decide +kernel
  rw [this]; simp
theorem shl_full {n : Int} (h0 : 0 ≤ n) (h1 : n ≤ 8) : wrap64 (shl .i64 1 n - 1) = full n := by
  rcases nine h0 h1 with rfl | rfl | rfl | rfl | rfl | rfl | rfl | rfl | rfl <;> decide +kernel
theorem u64_small {n : Int} (h0 : 0 ≤ n) (h1 : n < 18446744073709551616) : IntKind.u64.wrap n = n := by
  simp only [IntKind.wrap, IntKind.bits, IntKind.signed]; simp; omega
theorem u64_nonneg (n : Int) : 0 ≤ IntKind.u64.wrap n := by
  simp only [IntKind.wrap, IntKind.bits, IntKind.signed]; simp; omega
theorem w64 {n : Int} (h0 : -9223372036854775808 ≤ n) (h1 : n < 9223372036854775808) : wrap64 n = n := by unfold wrap64; omega
theorem i64_small (n : Int) (h0 : 0 ≤ n) (h1 : n < 2 ^ 63) : IntKind.i64.wrap n = n := by rw [IntKind.wrap_i64]; omega
theorem and_nat (a b : Nat) (ha : a < 2 ^ 63) (hb : b < 2 ^ 63) : Go.bits .and .i64 a b = ((a &&& b : Nat) : Int) := (bits_nat .i64 63 (by decide) (fun n h0 h1 => i64_small n h0 h1) a b ha hb).1
theorem or_nat (a b : Nat) (ha : a < 2 ^ 63) (hb : b < 2 ^ 63) : Go.bits .or .i64 a b = ((a ||| b : Nat) : Int) := (bits_nat .i64 63 (by decide) (fun n h0 h1 => i64_small n h0 h1) a b ha hb).2
/-- What is in a and not in b. -/
def dif (a b : Nat) : Nat := a ^^^ (a &&& b)
theorem dif_bit (a b i : Nat) : (dif a b).testBit i = (a.testBit i && !b.testBit i) := by
  unfold dif; rw [Nat.testBit_xor, Nat.testBit_and]; cases a.testBit i <;> cases b.testBit i <;> rfl
theorem dif_lt (a b n : Nat) (ha : a < 2 ^ n) : dif a b < 2 ^ n := Nat.xor_lt_two_pow ha (Nat.lt_of_le_of_lt Nat.and_le_left ha)
theorem andNot_nat (a b : Nat) (ha : a < 2 ^ 63) (hb : b < 2 ^ 63) : Go.bits .andNot .i64 a b = ((dif a b : Nat) : Int) := by
  simp only [Go.bits, BitVec.ofInt_natCast, IntKind.bits]
  have e : (BitVec.ofNat 64 a &&& ~~~BitVec.ofNat 64 b).toNat = dif a b := by
    apply Nat.eq_of_testBit_eq
    intro i
    rw [dif_bit, BitVec.testBit_toNat, BitVec.getLsbD_and, BitVec.getLsbD_not, BitVec.getLsbD_ofNat, BitVec.getLsbD_ofNat]
    by_cases hi : i < 64
    · simp [hi]
    · have : a.testBit i = false := Nat.testBit_lt_two_pow (Nat.lt_of_lt_of_le ha (Nat.pow_le_pow_right (by decide) (by omega)))
      simp [hi, this]
  have hl := dif_lt a b 63 ha
  have e2 : IntKind.i64.wrap ((dif a b : Nat) : Int) = ((dif a b : Nat) : Int) := i64_small _ (by omega) (by exact_mod_cast hl)
  exact (congrArg (fun n : Nat => IntKind.i64.wrap (n : Int)) e).trans e2
theorem and_eq_iff_dif (a b : Nat) : (a &&& b = a) ↔ dif a b = 0 := by
  constructor
  · intro h; unfold dif; rw [h, Nat.xor_self]
  · intro h
    apply Nat.eq_of_testBit_eq; intro i
    have h2 := dif_bit a b i
    rw [h, Nat.zero_testBit] at h2
    rw [Nat.testBit_and]
    cases ha : a.testBit i <;> cases hb : b.testBit i <;> simp [ha, hb] at h2 ⊢
theorem bit_nat (s e : Nat) (hs : s < 2 ^ 63) (he : e ≤ 63) : (Go.bits .and .i64 (shr .i64 (s : Int) (e : Int)) 1 == 1) = s.testBit e := by
  have h1 : shr .i64 (s : Int) (e : Int) = ((s / 2 ^ e : Nat) : Int) := by
    unfold shr
    rw [Int.toNat_natCast, Nat.min_eq_left (by simp [IntKind.bits]; omega)]
    simp
  have h2 : s / 2 ^ e < 2 ^ 63 := Nat.lt_of_le_of_lt (Nat.div_le_self _ _) hs
  rw [h1, show (1 : Int) = ((1 : Nat) : Int) from rfl, and_nat _ _ h2 (by decide), Nat.and_one_is_mod, Nat.testBit_eq_decide_div_mod_eq]
  have : ((((s / 2 ^ e % 2 : Nat) : Int)) == ((1 : Nat) : Int)) = decide (s / 2 ^ e % 2 = 1) := by
    generalize s / 2 ^ e % 2 = q
    rw [Bool.eq_iff_iff, beq_iff_eq, decide_eq_true_iff]; omega
  exact this
theorem bit_int {s e : Int} (hs0 : 0 ≤ s) (hs : s < 9223372036854775808) (he0 : 0 ≤ e) (he : e ≤ 63) : (Go.bits .and .i64 (shr .i64 s e) 1 == 1) = hasB s e := by
  obtain ⟨a, rfl⟩ := Int.eq_ofNat_of_zero_le hs0
  obtain ⟨b, rfl⟩ := Int.eq_ofNat_of_zero_le he0
  exact bit_nat a b (by omega) (by omega)

theorem wstep {i : Int} {n : Nat} (h0 : 0 ≤ i) (h : i < (n : Int)) (hn : n ≤ 281474976710656) : wrap64 (i + 1) = i + 1 := by unfold wrap64; omega
theorem rd_nat (l : List Int) (i : Nat) (h : i < l.length) : rd l (i : Int) = l[i] := by unfold rd; rw [Int.toNat_natCast, List.getD_eq_getElem?_getD, List.getElem?_eq_getElem h]; rfl

/-- Row g, as a natural number. -/
def row (a : List Int) (g : Nat) : Nat := (a.getD g 0).toNat
def RowsOk (a : List Int) : Prop := ∀ x ∈ a, 0 ≤ x ∧ x ≤ 255
theorem rd_row {a : List Int} (h : RowsOk a) {i : Nat} (hi : i < a.length) : rd a (i : Int) = (row a i : Int) := by
  rw [rd_nat a i hi]
  have := h a[i] (List.getElem_mem hi)
  unfold row
  rw [List.getD_eq_getElem?_getD, List.getElem?_eq_getElem hi, Option.getD_some, Int.toNat_of_nonneg this.1]
theorem row_lt {a : List Int} (h : RowsOk a) (i : Nat) : row a i < 256 := by
  unfold row
  by_cases hi : i < a.length
  · have := h a[i] (List.getElem_mem hi)
    rw [List.getD_eq_getElem?_getD, List.getElem?_eq_getElem hi, Option.getD_some]; omega
  · rw [List.getD_eq_getElem?_getD, List.getElem?_eq_none (by omega)]; decide
theorem shl_bit {b : Nat} (hb : b ≤ 1) {i : Nat} (hi : i ≤ 8) : shl .i64 (b : Int) (i : Int) = ((b * 2 ^ i : Nat) : Int) := by
  have h0 : b = 0 ∨ b = 1 := by omega
  have h1 : i = 0 ∨ i = 1 ∨ i = 2 ∨ i = 3 ∨ i = 4 ∨ i = 5 ∨ i = 6 ∨ i = 7 ∨ i = 8 := by omega
  rcases h0 with rfl | rfl <;> rcases h1 with rfl | rfl | rfl | rfl | rfl | rfl | rfl | rfl | rfl <;> decide +kernel
theorem shl_one {i : Nat} (hi : i ≤ 8) : shl .i64 1 (i : Int) = ((2 ^ i : Nat) : Int) := by
  have := shl_bit (b := 1) (by omega) hi
  rw [Nat.one_mul] at this
  exact this
theorem pow_le8 {i : Nat} (hi : i ≤ 8) : 2 ^ i ≤ 256 := Nat.le_trans (Nat.pow_le_pow_right (by decide) hi) (by decide)
theorem full_nat {n : Nat} : full (n : Int) = ((2 ^ n - 1 : Nat) : Int) := by
  unfold full
  rw [Int.toNat_natCast, Int.natCast_sub (Nat.two_pow_pos n)]; simp
theorem or_lt {a b n : Nat} (ha : a < 2 ^ n) (hb : b < 2 ^ n) : a ||| b < 2 ^ n := Nat.or_lt_two_pow ha hb
theorem two_pow_bit (i g : Nat) : (2 ^ i).testBit g = decide (i = g) := Nat.testBit_two_pow
theorem full_bit (n m : Nat) : (2 ^ n - 1).testBit m = decide (m < n) := Nat.testBit_two_pow_sub_one n m
/-- A set of n elements is below 2 ^ n. -/
theorem isSet_nat {n : Nat} {s : Int} (h : isSetB (n : Int) s = true) : ∃ t : Nat, s = (t : Int) ∧ t < 2 ^ n ∧ n ≤ 8 ∧ t < 256 := by
  have hb := isSetB_bd h
  obtain ⟨t, rfl⟩ := Int.eq_ofNat_of_zero_le hb.2.2.1
  rw [full_nat] at hb
  have := Nat.two_pow_pos n
  exact ⟨t, rfl, by omega, by omega, by omega⟩
theorem lt_bits {t n : Nat} (h : t < 2 ^ n) {m : Nat} (hm : n ≤ m) : t.testBit m = false := Nat.testBit_lt_two_pow (Nat.lt_of_lt_of_le h (Nat.pow_le_pow_right (by decide) hm))
theorem lt_of_bits {t n : Nat} (h : ∀ m, t.testBit m = true → m < n) : t < 2 ^ n := by
  refine Nat.lt_pow_two_of_testBit t fun i hi => ?_
  cases e : t.testBit i with
  | false => rfl
  | true => exact absurd (h i e) (by omega)
theorem isSet_mk {n t : Nat} (hn : n ≤ 8) (h : t < 2 ^ n) : isSetB (n : Int) (t : Int) = true := by
  unfold isSetB
  rw [full_nat]
  have := Nat.two_pow_pos n
  exact decide_eq_true ⟨by omega, by omega, by omega, by omega⟩

theorem and255_bd (n : Int) : 0 ≤ Go.bits .and .i64 n 255 ∧ Go.bits .and .i64 n 255 ≤ 255 := by
  have h : (BitVec.ofInt 64 255).toNat = 2 ^ 8 - 1 := by decide
  have key : (BitVec.ofInt 64 n &&& BitVec.ofInt 64 255).toNat = (n % ((2 ^ 64 : Nat) : Int)).toNat % 2 ^ 8 := by
    rw [BitVec.toNat_and, BitVec.toNat_ofInt, h, Nat.and_two_pow_sub_one_eq_mod]
  have e : Go.bits .and .i64 n 255 = n % 256 := by
    show IntKind.i64.wrap ((BitVec.ofInt 64 n &&& BitVec.ofInt 64 255).toNat : Nat) = n % 256
    rw [key, IntKind.wrap_i64]
    omega
  omega
theorem l1New_loop (l : List Int) (hm : l.length ≤ maxLen) : ∀ (d i k : Nat) (s : Int), i + d = 4000 → d < k → ∃ s', spec_l1New.l0 k l s (i : Int) = some (l, 0, s')
  | 0, i, k, s, hi, hk => by
    obtain ⟨k, rfl⟩ : ∃ m, k = m + 1 := ⟨k - 1, by omega⟩
    simp only [spec_l1New.l0]
    by_cases h : (i : Int) < (l.length : Int)
    · rw [if_pos h, if_neg (by omega)]; exact ⟨_, rfl⟩
    · rw [if_neg h]; exact ⟨_, rfl⟩
  | d + 1, i, k, s, hi, hk => by
    obtain ⟨k, rfl⟩ : ∃ m, k = m + 1 := ⟨k - 1, by omega⟩
    simp only [spec_l1New.l0]
    by_cases h : (i : Int) < (l.length : Int)
    · rw [if_pos h, if_pos (by omega), if_pos (by omega), show wrap64 ((i : Int) + 1) = ((i + 1 : Nat) : Int) from by rw [w64 (by omega) (by omega)]; omega]
      exact l1New_loop l hm d (i + 1) k _ (by omega) (by omega)
    · rw [if_neg h]; exact ⟨_, rfl⟩
theorem l1New_ok (l : List Int) (hm : l.length ≤ maxLen) {k : Nat} (hk : 4001 ≤ k) : ∃ s, spec_l1New.f k l = some (l, 0, s) := by
  unfold spec_l1New.f
  exact l1New_loop l hm 4000 0 k _ (by omega) (by omega)
theorem l1Byte_ok (l : List Int) (hm : l.length ≤ maxLen) (i s : Int) (hi : 0 ≤ i) : ∃ b i' s', spec_l1Byte.f l i s = some (b, i', s') ∧ 0 ≤ i' ∧ 0 ≤ b ∧ b ≤ 255 := by
  unfold spec_l1Byte.f
  unfold maxLen at hm
  by_cases h : i < (l.length : Int)
  · rw [if_pos h, if_pos hi]
    exact ⟨_, _, _, rfl, by rw [w64 (by omega) (by omega)]; omega, (and255_bd _).1, (and255_bd _).2⟩
  · rw [if_neg h]
    exact ⟨_, _, _, rfl, hi, (and255_bd _).1, (and255_bd _).2⟩
theorem l1Below_ok (l : List Int) (hm : l.length ≤ maxLen) (i s a : Int) (hi : 0 ≤ i) : ∃ r i' s', spec_l1Below.f l i s a = some (r, i', s') ∧ 0 ≤ i' ∧ (0 < a → a ≤ 256 → 0 ≤ r ∧ r < a) := by
  unfold spec_l1Below.f
  by_cases h0 : a ≤ 0
  · rw [if_pos h0]; exact ⟨_, _, _, rfl, hi, fun h => absurd h (by omega)⟩
  · rw [if_neg h0]
    obtain ⟨b, i1, s1, e, h1, h2, h3⟩ := l1Byte_ok l hm i s hi
    by_cases h4 : a ≤ 256
    · rw [if_pos h4, e, Option.bind_some, if_neg (by omega)]
      refine ⟨_, _, _, rfl, h1, fun _ _ => ?_⟩
      rw [Int.tmod_eq_emod_of_nonneg h2]
      exact ⟨Int.emod_nonneg _ (by omega), Int.emod_lt_of_pos _ (by omega)⟩
    · obtain ⟨b2, i2, s2, e2, h12, _, _⟩ := l1Byte_ok l hm i1 s1 h1
      obtain ⟨b3, i3, s3, e3, h13, _, _⟩ := l1Byte_ok l hm i2 s2 h12
      obtain ⟨b4, i4, s4, e4, h14, _, _⟩ := l1Byte_ok l hm i3 s3 h13
      rw [if_neg h4, e]; simp only [Option.bind_some]
      rw [e2]; simp only [Option.bind_some]
      rw [e3]; simp only [Option.bind_some]
      rw [e4]; simp only [Option.bind_some]
      rw [if_neg (by omega)]
      exact ⟨_, _, _, rfl, h14, fun _ h => absurd h h4⟩
theorem l1Once_ok (l : List Int) (hm : l.length ≤ maxLen) (i s a : Int) (hi : 0 ≤ i) : ∃ r i' s', spec_l1Once.f l i s a = some (r, i', s') ∧ 0 ≤ i' := by
  unfold spec_l1Once.f
  obtain ⟨b, i1, s1, e, h1, _⟩ := l1Below_ok l hm i s a hi
  rw [e]; exact ⟨_, _, _, rfl, h1⟩
theorem l1PickInt_ok (l : List Int) (hm : l.length ≤ maxLen) (i s : Int) (z : List Int) (hi : 0 ≤ i) (hz : 0 < z.length) (hz2 : z.length ≤ 256) : ∃ r i' s', spec_l1PickInt.f l i s z = some (r, i', s') ∧ 0 ≤ i' := by
  unfold spec_l1PickInt.f
  obtain ⟨b, i1, s1, e, h1, h2⟩ := l1Below_ok l hm i s (z.length : Int) hi
  have := h2 (by omega) (by omega)
  rw [e]; simp only [Option.bind_some]
  rw [if_pos this.1, if_pos this.2]; exact ⟨_, _, _, rfl, h1⟩

theorem bt_list (s : ByteArray) (i : Nat) (h : i < s.size) : bt s (i : Int) = ((s.data.toList[i]'(by rw [Array.length_toList]; exact h)).toNat : Int) := by
  unfold bt
  rw [dif_pos (by rw [Int.toNat_natCast]; exact h)]
  simp only [Int.toNat_natCast]
  rfl
theorem size_list (s : ByteArray) : s.data.toList.length = s.size := by rw [Array.length_toList]; rfl

open Go.Lib in
theorem decDigits_step {u : Nat} (h : 10 ≤ u) : decDigits u = decDigits (u / 10) ++ [UInt8.ofNat (48 + u % 10)] := by
  rw [decDigits, dif_neg (by omega)]
/-- The digits of u; none of 0. -/
def decD (u : Nat) : List UInt8 := if u = 0 then [] else Go.Lib.decDigits u
theorem decD_step {u : Nat} (h : u ≠ 0) : decD u = decD (u / 10) ++ [UInt8.ofNat (48 + u % 10)] := by
  unfold decD
  rw [if_neg h]
  by_cases h1 : u < 10
  · rw [Go.Lib.decDigits_one h1, if_pos (by omega), List.nil_append, Nat.mod_eq_of_lt h1]
  · rw [decDigits_step (by omega), if_neg (by omega)]
theorem one_digit {x : Nat} (h : x < 10) (y : ByteArray) : ((strOfNums [((48 + x : Nat) : Int)]) ++ y).data.toList = UInt8.ofNat (48 + x) :: y.data.toList := by
  rw [ByteArray.data_append, Array.toList_append, strOfNums_data]; rfl
theorem fmt_loop (b : Bool) : ∀ (d : Nat) (n : Int) (k : Nat) (out : ByteArray), n.natAbs < 10 ^ d → d < k → n.natAbs ≤ 9223372036854775808 → -9223372036854775808 ≤ n → n ≤ 9223372036854775807 → out.size + d ≤ 1000 →
    ∃ r, spec_FormatInt.l0 k n b out = some r ∧ r.data.toList = (if b = true then [45] else []) ++ (decD n.natAbs ++ out.data.toList)
  | d, n, 0, out, _, hk, _, _, _, _ => absurd hk (Nat.not_lt_zero _)
  | d, n, k + 1, out, hd, hk, hn, hlo, hhi, hs => by
    simp only [spec_FormatInt.l0]
    by_cases h0 : n = 0
    · subst h0
      rw [if_pos rfl]
      cases b with
      | true =>
        rw [if_pos rfl, if_pos (by omega)]
        exact ⟨_, rfl, by rw [ByteArray.data_append, Array.toList_append]; rfl⟩
      | false => exact ⟨_, rfl, rfl⟩
    · rw [if_neg h0]
      have hm := Int.natAbs_tmod n 10
      have hq : (n.tdiv 10).natAbs = n.natAbs / 10 := Int.natAbs_tdiv n 10
      have e10 : (10 : Int).natAbs = 10 := rfl
      rw [e10] at hm
      have hd1 : d ≠ 0 := fun e => by subst e; simp at hd; omega
      obtain ⟨d, rfl⟩ : ∃ d', d = d' + 1 := ⟨d - 1, by omega⟩
      have hpow : 10 ^ (d + 1) = 10 ^ d * 10 := Nat.pow_succ ..
      have hnew : (n.tdiv 10).natAbs < 10 ^ d := by rw [hq]; omega
      have hx : n.natAbs % 10 < 10 := Nat.mod_lt _ (by decide)
      have hlo2 : -9223372036854775808 ≤ n.tdiv 10 := by omega
      have hhi2 : n.tdiv 10 ≤ 9223372036854775807 := by omega
      have ew : wrap64 (n.tdiv 10) = n.tdiv 10 := w64 (by omega) (by omega)
      have hsz : ∀ z : Int, (strOfNums [z]).size = 1 := fun z => strOfNums_size [z]
      have key : ∀ y : ByteArray, y.data.toList = UInt8.ofNat (48 + n.natAbs % 10) :: out.data.toList → y.size = out.size + 1 → ∃ r, spec_FormatInt.l0 k (wrap64 (n.tdiv 10)) b y = some r ∧ r.data.toList = (if b = true then [45] else []) ++ (decD n.natAbs ++ out.data.toList) := fun y hy hys => by
        obtain ⟨r, h1, h2⟩ := fmt_loop b d (n.tdiv 10) k y hnew (by omega) (by omega) hlo2 hhi2 (by omega)
        refine ⟨r, by rw [ew]; exact h1, ?_⟩
        rw [h2, hy, hq, decD_step (u := n.natAbs) (by omega), List.append_assoc]; rfl
      by_cases hneg : n.tmod 10 < 0
      · have e1 : wrap64 (48 + wrap64 (-(n.tmod 10))) % 256 = ((48 + n.natAbs % 10 : Nat) : Int) := by
          rw [w64 (n := -(n.tmod 10)) (by omega) (by omega), w64 (by omega) (by omega)]; omega
        rw [if_pos hneg, e1]; simp only [Option.bind_some]
        rw [if_pos (by rw [hsz]; omega)]
        exact key _ (one_digit hx out) (by rw [ByteArray.size_append, hsz]; omega)
      · have e1 : wrap64 (48 + n.tmod 10) % 256 = ((48 + n.natAbs % 10 : Nat) : Int) := by
          rw [w64 (by omega) (by omega)]; omega
        rw [if_neg hneg, e1]; simp only [Option.bind_some]
        rw [if_pos (by rw [hsz]; omega)]
        exact key _ (one_digit hx out) (by rw [ByteArray.size_append, hsz]; omega)
theorem itoa_zero : Go.Lib.itoa 0 = [48] := by
  unfold Go.Lib.itoa
  rw [if_neg (by decide)]
  exact Go.Lib.decDigits_one (i := 0) (by decide)
/-- FormatInt: the decimal numeral. -/
theorem spec_FormatInt_eq (n : Int) (hlo : -9223372036854775808 ≤ n) (hhi : n ≤ 9223372036854775807) {k : Nat} (hk : 30 ≤ k) : spec_FormatInt.f k n = some ⟨(Go.Lib.itoa n).toArray⟩ := by
  unfold spec_FormatInt.f
  by_cases h0 : n = 0
  · subst h0; rw [if_pos rfl, itoa_zero]
  · rw [if_neg h0]
    have h20 : n.natAbs < 10 ^ 20 := Nat.lt_of_le_of_lt (show n.natAbs ≤ 9223372036854775808 by omega) (by decide)
    obtain ⟨r, h1, h2⟩ := fmt_loop (decide (n < 0)) 20 n k ⟨#[]⟩ h20 (by omega) (by omega) hlo hhi (by decide)
    rw [h1]
    obtain ⟨⟨r⟩⟩ := r
    have h3 : r = Go.Lib.itoa n := by
      rw [show r = (if decide (n < 0) = true then [45] else []) ++ (decD n.natAbs ++ []) from h2, List.append_nil]
      have e2 : decD n.natAbs = Go.Lib.decDigits n.natAbs := by unfold decD; rw [if_neg (by omega)]
      rw [e2]
      unfold Go.Lib.itoa
      by_cases hn : n < 0
      · rw [decide_eq_true hn, if_pos rfl, if_pos hn]; rfl
      · rw [decide_eq_false hn, if_neg (by decide), if_neg hn, List.nil_append, show n.toNat = n.natAbs from by omega]
    rw [h3]
theorem impl_FormatInt_eq (n : Int) (hlo : -9223372036854775808 ≤ n) (hhi : n ≤ 9223372036854775807) : impl_FormatInt.f n = some ⟨(Go.Lib.itoa n).toArray⟩ := by
  unfold impl_FormatInt.f strconv_Itoa.f
  rw [if_pos ⟨hlo, hhi⟩]; rfl

theorem wrap64_bd (x : Int) : -9223372036854775808 ≤ wrap64 x ∧ wrap64 x ≤ 9223372036854775807 := by unfold wrap64; omega
theorem l1Whole_ok (l : List Int) (hm : l.length ≤ maxLen) (i s : Int) (hi : 0 ≤ i) : ∃ v i' s', spec_l1Whole.f l i s = some (v, i', s') ∧ 0 ≤ i' ∧ -9223372036854775808 ≤ v ∧ v ≤ 9223372036854775807 := by
  unfold spec_l1Whole.f
  obtain ⟨p, i1, s1, e1, h1, _⟩ := l1Below_ok l hm i s 3 hi
  rw [e1]; simp only [Option.bind_some]
  by_cases c0 : p = 0
  · rw [if_pos c0]
    unfold spec_l1PickInt.f
    obtain ⟨q, i2, s2, e2, h2, hq⟩ := l1Below_ok l hm i1 s1 12 h1
    have hq2 := hq (by decide) (by decide)
    have e2' : spec_l1Below.f l i1 s1 (([0, 1, (-1), 9, 10, 999999, 1000000, 999999999999, 1000000000000, (-999999999999), 9223372036854775807, (-9223372036854775808)] : List Int).length : Int) = some (q, i2, s2) := e2
    rw [e2']; simp only [Option.bind_some]
    have hl : (([0, 1, (-1), 9, 10, 999999, 1000000, 999999999999, 1000000000000, (-999999999999), 9223372036854775807, (-9223372036854775808)] : List Int).length : Int) = 12 := rfl
    rw [if_pos hq2.1, hl, if_pos hq2.2]
    refine ⟨_, _, _, rfl, h2, ?_⟩
    obtain ⟨n, rfl⟩ := Int.eq_ofNat_of_zero_le hq2.1
    have hn : n < 12 := by omega
    have key : ∀ m : Fin 12, -9223372036854775808 ≤ rd ([0, 1, (-1), 9, 10, 999999, 1000000, 999999999999, 1000000000000, (-999999999999), 9223372036854775807, (-9223372036854775808)] : List Int) ((m.val : Nat) : Int) ∧ rd ([0, 1, (-1), 9, 10, 999999, 1000000, 999999999999, 1000000000000, (-999999999999), 9223372036854775807, (-9223372036854775808)] : List Int) ((m.val : Nat) : Int) ≤ 9223372036854775807 := by decide +kernel
    exact key ⟨n, hn⟩
  · rw [if_neg c0]
    by_cases c1 : p = 1
    · rw [if_pos c1]
      obtain ⟨q, i2, s2, e2, h2, _⟩ := l1Below_ok l hm i1 s1 1000000 h1
      rw [e2]; simp only [Option.bind_some]
      exact ⟨_, _, _, rfl, h2, wrap64_bd _⟩
    · rw [if_neg c1]
      obtain ⟨q, i2, s2, e2, h2, hq⟩ := l1Below_ok l hm i1 s1 20 h1
      have hq2 := hq (by decide) (by decide)
      rw [e2]; simp only [Option.bind_some]
      exact ⟨_, _, _, rfl, h2, by omega, by omega⟩
theorem DrawFormatInt_ok (l : List Int) (hm : l.length ≤ maxLen) {k : Nat} (hk : 4001 ≤ k) : ∃ v, spec_DrawFormatInt.f k l = some v ∧ -9223372036854775808 ≤ v ∧ v ≤ 9223372036854775807 := by
  unfold spec_DrawFormatInt.f
  obtain ⟨s0, e0⟩ := l1New_ok l hm hk
  rw [e0]; simp only [Option.bind_some]
  obtain ⟨v, i1, s1, e1, _, h1⟩ := l1Whole_ok l hm 0 s0 (by decide)
  rw [e1]; exact ⟨_, rfl, h1⟩

theorem l1Pick_ok (l : List Int) (hm : l.length ≤ maxLen) (i s : Int) (z : List ByteArray) (hi : 0 ≤ i) (hz : 0 < z.length) (hz2 : z.length ≤ 256) (B : Nat) (hB : ∀ x ∈ z, x.size ≤ B) : ∃ r i' s', spec_l1Pick.f l i s z = some (r, i', s') ∧ 0 ≤ i' ∧ r.size ≤ B := by
  unfold spec_l1Pick.f
  obtain ⟨b, i1, s1, e, h1, h2⟩ := l1Below_ok l hm i s (z.length : Int) hi
  have h3 := h2 (by omega) (by omega)
  rw [e]; simp only [Option.bind_some]
  rw [if_pos h3.1, if_pos h3.2]
  refine ⟨_, _, _, rfl, h1, ?_⟩
  unfold rdOf
  have hl : b.toNat < z.length := by omega
  rw [List.getD_eq_getElem?_getD, List.getElem?_eq_getElem hl]
  exact hB _ (List.getElem_mem hl)

def foldD : Nat → List UInt8 → Option Nat
  | acc, [] => some acc
  | acc, c :: l => if 48 ≤ c.toNat ∧ c.toNat ≤ 57 then foldD (10 * acc + (c.toNat - 48)) l else none
theorem foldD_lt : ∀ (l : List UInt8) (acc u : Nat), foldD acc l = some u → u < (acc + 1) * 10 ^ l.length
  | [], acc, u, h => by simp only [foldD, Option.some.injEq] at h; subst h; simp
  | c :: l, acc, u, h => by
    simp only [foldD] at h
    by_cases hc : 48 ≤ c.toNat ∧ c.toNat ≤ 57
    · rw [if_pos hc] at h
      have h1 := foldD_lt l _ u h
      have h2 : (10 * acc + (c.toNat - 48) + 1) * 10 ^ l.length ≤ ((acc + 1) * 10) * 10 ^ l.length := Nat.mul_le_mul_right _ (by omega)
      rw [List.length_cons, Nat.pow_succ, show (acc + 1) * (10 ^ l.length * 10) = ((acc + 1) * 10) * 10 ^ l.length from by rw [Nat.mul_assoc, Nat.mul_comm 10]]
      omega
    · rw [if_neg hc] at h; cases h
theorem foldD_append : ∀ (l : List UInt8) (acc : Nat) (c : UInt8), foldD acc (l ++ [c]) = (foldD acc l).bind fun a => if 48 ≤ c.toNat ∧ c.toNat ≤ 57 then some (10 * a + (c.toNat - 48)) else none
  | [], acc, c => by simp only [List.nil_append, foldD, Option.bind_some]
  | x :: l, acc, c => by
    simp only [List.cons_append, foldD]
    split
    · exact foldD_append l _ c
    · rfl
theorem digit_toNat {x : Nat} (h : x < 10) : (UInt8.ofNat (48 + x)).toNat = 48 + x := by
  rw [UInt8.toNat_ofNat']; omega
theorem foldD_dec (u : Nat) : foldD 0 (Go.Lib.decDigits u) = some u := by
  induction u using Nat.strongRecOn with
  | _ u ih =>
    by_cases h : u < 10
    · rw [Go.Lib.decDigits_one h]
      simp only [foldD]
      rw [digit_toNat h, if_pos (by omega)]
      congr 1; omega
    · rw [decDigits_step (by omega), foldD_append, ih (u / 10) (by omega), Option.bind_some, digit_toNat (by omega), if_pos (by omega)]
      congr 1; omega
theorem decDigits_ne (u : Nat) : Go.Lib.decDigits u ≠ [] := by
  by_cases h : u < 10
  · rw [Go.Lib.decDigits_one h]; exact List.cons_ne_nil _ _
  · rw [decDigits_step (by omega)]; simp
theorem foldD_digits : ∀ (l : List UInt8) (acc u : Nat), foldD acc l = some u → ∀ c ∈ l, 48 ≤ c.toNat ∧ c.toNat ≤ 57
  | [], _, _, _, c, hc => by cases hc
  | x :: l, acc, u, h, c, hc => by
    simp only [foldD] at h
    by_cases hx : 48 ≤ x.toNat ∧ x.toNat ≤ 57
    · rw [if_pos hx] at h
      rcases List.mem_cons.1 hc with rfl | hc
      · exact hx
      · exact foldD_digits l _ u h c hc
    · rw [if_neg hx] at h; cases h
theorem decDigits_len (m : Nat) : ∀ u, u < 10 ^ (m + 1) → (Go.Lib.decDigits u).length ≤ m + 1 := by
  induction m with
  | zero => intro u h; rw [Go.Lib.decDigits_one (by omega)]; exact Nat.le_refl _
  | succ m ih =>
    intro u h
    by_cases h1 : u < 10
    · rw [Go.Lib.decDigits_one h1]; simp
    · have hp : 10 ^ (m + 1 + 1) = 10 ^ (m + 1) * 10 := Nat.pow_succ ..
      have := ih (u / 10) (by omega)
      rw [decDigits_step (by omega), List.length_append, List.length_singleton]; omega
/-- A numeral's digits begin with no sign. -/
theorem decDigits_head (u : Nat) : ∃ c l, Go.Lib.decDigits u = c :: l ∧ 48 ≤ c.toNat ∧ c.toNat ≤ 57 := by
  cases h : Go.Lib.decDigits u with
  | nil => exact absurd h (decDigits_ne u)
  | cons c l => exact ⟨c, l, rfl, foldD_digits (c :: l) 0 u (by rw [← h]; exact foldD_dec u) c (List.mem_cons_self ..)⟩
theorem itoa_neg {v : Int} (h : v < 0) : Go.Lib.itoa v = 45 :: Go.Lib.decDigits v.natAbs := by unfold Go.Lib.itoa; rw [if_pos h]
theorem itoa_pos {v : Int} (h : 0 ≤ v) : Go.Lib.itoa v = Go.Lib.decDigits v.natAbs := by unfold Go.Lib.itoa; rw [if_neg (by omega), show v.toNat = v.natAbs from by omega]
theorem decDigits_inj {a b : Nat} (h : Go.Lib.decDigits a = Go.Lib.decDigits b) : a = b := by
  have h1 := foldD_dec a
  rw [h, foldD_dec b] at h1
  exact (Option.some.inj h1).symm
theorem itoa_inj {a b : Int} (h : Go.Lib.itoa a = Go.Lib.itoa b) : a = b := by
  by_cases ha : a < 0 <;> by_cases hb : b < 0
  · rw [itoa_neg ha, itoa_neg hb] at h
    have := decDigits_inj (List.cons.inj h).2
    omega
  · obtain ⟨c, l, e, h1, _⟩ := decDigits_head b.natAbs
    rw [itoa_neg ha, itoa_pos (by omega), e] at h
    have h2 : c = 45 := ((List.cons.inj h).1).symm
    rw [h2] at h1; exact absurd h1 (by decide)
  · obtain ⟨c, l, e, h1, _⟩ := decDigits_head a.natAbs
    rw [itoa_neg hb, itoa_pos (by omega), e] at h
    have h2 : c = 45 := (List.cons.inj h).1
    rw [h2] at h1; exact absurd h1 (by decide)
  · rw [itoa_pos (by omega), itoa_pos (by omega)] at h
    have := decDigits_inj h
    omega
theorem parseUint10_fold : ∀ (l : List UInt8) (acc u : Nat), foldD acc l = some u → u < 1844674407370955162 → acc ≤ u → Go.Lib.parseUint10 acc l = .ok u
  | [], acc, u, h, _, _ => by simp only [foldD, Option.some.injEq] at h; subst h; rfl
  | c :: l, acc, u, h, hu, ha => by
    simp only [foldD] at h
    by_cases hc : 48 ≤ c.toNat ∧ c.toNat ≤ 57
    · rw [if_pos hc] at h
      have hge := foldD_ge l _ u h
      simp only [Go.Lib.parseUint10]
      rw [if_pos hc, if_neg (by omega), if_neg (by omega), Nat.mul_comm acc 10]
      exact parseUint10_fold l _ u h hu hge
    · rw [if_neg hc] at h; cases h
where
  foldD_ge : ∀ (l : List UInt8) (acc u : Nat), foldD acc l = some u → acc ≤ u
    | [], acc, u, h => by simp only [foldD, Option.some.injEq] at h; omega
    | c :: l, acc, u, h => by
      simp only [foldD] at h
      by_cases hc : 48 ≤ c.toNat ∧ c.toNat ≤ 57
      · rw [if_pos hc] at h
        have := foldD_ge l _ u h
        omega
      · rw [if_neg hc] at h; cases h
theorem atoi_itoa (v : Int) (hv : v.natAbs < 1844674407370955162) : Go.Lib.atoiAll (Go.Lib.itoa v) = .ok v := by
  have hp : Go.Lib.parseMag (Go.Lib.decDigits v.natAbs) = .ok v.natAbs := by
    unfold Go.Lib.parseMag
    rw [if_neg (decDigits_ne _)]
    exact parseUint10_fold _ 0 _ (foldD_dec _) hv (Nat.zero_le _)
  by_cases h : v < 0
  · rw [itoa_neg h]
    unfold Go.Lib.atoiAll
    have e45 : (45 : UInt8).toNat = 45 := rfl
    simp only [e45]
    rw [if_pos (Or.inr trivial), hp]
    simp only [not_true_eq_false, false_and, if_false, true_and, if_true]
    rw [if_neg (by omega)]
    congr 1; omega
  · obtain ⟨c, l, e, h1, h2⟩ := decDigits_head v.natAbs
    rw [e] at hp
    rw [itoa_pos (by omega), e]
    unfold Go.Lib.atoiAll
    have n45 : ¬ c.toNat = 45 := by omega
    have n43 : ¬ c.toNat = 43 := by omega
    simp only [n45, n43, or_self, if_false, hp]
    rw [if_neg (by omega), if_neg (by simp)]
    congr 1; omega
/-- What reading ends in: the number that the digits spell, if its numeral is the text. -/
def endR (below : Bool) (s : List UInt8) : Option Nat → Int × Bool
  | none => (0, false)
  | some u => if Go.Lib.itoa (if below = true then -(u : Int) else u) = s then ((if below = true then -(u : Int) else u), true) else (0, false)
theorem read_loop (s t : ByteArray) (b : Bool) (ht : t.size ≤ 12) : ∀ (d i k acc : Nat), i + d = t.size → d + 40 ≤ k → acc < 10 ^ i → spec_l1Read.l0 k s b t (acc : Int) (i : Int) = some (endR b s.data.toList (foldD acc (t.data.toList.drop i)))
  | 0, i, k, acc, hi, hk, ha => by
    obtain ⟨k, rfl⟩ : ∃ m, k = m + 1 := ⟨k - 1, by omega⟩
    have hl := size_list t
    have hp : 10 ^ i ≤ 10 ^ 12 := Nat.pow_le_pow_right (by decide) (by omega)
    have hp2 : (10 : Nat) ^ 12 = 1000000000000 := by decide
    simp only [spec_l1Read.l0]
    rw [if_neg (by omega), List.drop_eq_nil_of_le (by omega)]
    simp only [foldD, endR]
    have ew : wrap64 (-(acc : Int)) = -(acc : Int) := w64 (by omega) (by omega)
    cases b with
    | true =>
      rw [if_pos rfl, ew, spec_FormatInt_eq _ (by omega) (by omega) (by omega)]; simp only [Option.bind_some, if_true]
      rw [ByteArray.toList_eq, ByteArray.toList_eq]
      split <;> rfl
    | false =>
      rw [if_neg (by decide), spec_FormatInt_eq _ (by omega) (by omega) (by omega)]; simp only [Option.bind_some, Bool.false_eq_true, if_false]
      rw [ByteArray.toList_eq, ByteArray.toList_eq]
      split <;> rfl
  | d + 1, i, k, acc, hi, hk, ha => by
    obtain ⟨k, rfl⟩ : ∃ m, k = m + 1 := ⟨k - 1, by omega⟩
    have hl := size_list t
    have h1 : i < t.data.toList.length := by omega
    have hp : 10 ^ i ≤ 10 ^ 11 := Nat.pow_le_pow_right (by decide) (by omega)
    have hp2 : (10 : Nat) ^ 11 = 100000000000 := by decide
    have hp3 : 10 ^ (i + 1) = 10 ^ i * 10 := Nat.pow_succ ..
    simp only [spec_l1Read.l0]
    rw [if_pos (by omega), if_pos (by omega), bt_list t i (by omega), List.drop_eq_getElem_cons h1]
    simp only [foldD]
    generalize (t.data.toList[i]) = c
    have hc := c.toNat_lt
    by_cases g1 : 48 ≤ c.toNat
    · by_cases g2 : c.toNat ≤ 57
      · have e1 : wrap64 (wrap64 (10 * (acc : Int)) + ((c.toNat : Int) - 48) % 256) = ((10 * acc + (c.toNat - 48) : Nat) : Int) := by
          rw [w64 (n := 10 * (acc : Int)) (by omega) (by omega), w64 (by omega) (by omega)]; omega
        rw [if_neg (by omega), if_neg (by omega), if_pos ⟨g1, g2⟩, e1, wstep (n := t.size) (by omega) (by omega) (by omega), show (i : Int) + 1 = ((i + 1 : Nat) : Int) from by omega]
        exact read_loop s t b ht d (i + 1) k _ (by omega) (by omega) (by omega)
      · rw [if_neg (by omega), if_pos (by omega), if_neg (by omega)]; rfl
    · rw [if_pos (by omega), if_neg (by omega)]; rfl
/-- l1Read. -/
def readS (most : Nat) (s : List UInt8) : Int × Bool :=
  if s.head? = some 45 then (if s.tail.length < 1 ∨ most < s.tail.length then (0, false) else endR true s (foldD 0 s.tail))
  else (if s.length < 1 ∨ most < s.length then (0, false) else endR false s (foldD 0 s))
theorem read_j1 (s t : ByteArray) (b : Bool) (most : Nat) (hm : most ≤ 12) {k : Nat} (hk : 60 ≤ k) : spec_l1Read.j1 k s (most : Int) b t = some (if t.size < 1 ∨ most < t.size then (0, false) else endR b s.data.toList (foldD 0 t.data.toList)) := by
  obtain ⟨k, rfl⟩ : ∃ m, k = m + 1 + 1 := ⟨k - 2, by omega⟩
  simp only [spec_l1Read.j1, spec_l1Read.j2]
  by_cases h1 : t.size < 1
  · rw [if_pos (by omega), if_pos trivial, if_pos (Or.inl h1)]
  · rw [if_neg (by omega)]
    by_cases h2 : most < t.size
    · rw [decide_eq_true (by omega), if_pos rfl, if_pos (Or.inr h2)]
    · rw [decide_eq_false (by omega), if_neg (by decide), if_neg (by omega)]
      have := read_loop s t b (by omega) t.size 0 k 0 (by omega) (by omega) (by decide)
      rw [List.drop_zero] at this
      exact this
theorem spec_l1Read_eq (s : ByteArray) (most : Nat) (hm : most ≤ 12) {k : Nat} (hk : 70 ≤ k) : spec_l1Read.f k s (most : Int) = some (readS most s.data.toList) := by
  obtain ⟨k, rfl⟩ : ∃ m, k = m + 1 := ⟨k - 1, by omega⟩
  have hl := size_list s
  unfold spec_l1Read.f readS
  by_cases h0 : s.size = 0
  · have hn : s.data.toList = [] := List.eq_nil_of_length_eq_zero (by omega)
    rw [if_neg (by omega)]
    simp only [spec_l1Read.j0]
    rw [if_neg (by decide), read_j1 s s false most hm (by omega), hn]
    simp [h0]
  · rw [if_pos (by omega), if_pos (by omega)]
    have hb := bt_list s 0 (by omega)
    have hb' : bt s 0 = ((s.data.toList[0]'(by omega)).toNat : Int) := hb
    have hne : s.data.toList ≠ [] := fun e => by rw [e] at hl; simp at hl; omega
    obtain ⟨c, tl, htl⟩ := List.exists_cons_of_ne_nil hne
    have hc : s.data.toList[0]'(by omega) = c := by simp [htl]
    rw [hc] at hb'
    have hd : s.data.toList = c :: s.data.toList.tail := by rw [htl]; rfl
    have hx : (s.extract 1 s.size).data.toList = s.data.toList.tail := by
      rw [ByteArray.data_extract, Array.toList_extract]
      rw [List.extract_eq_take_drop, List.take_of_length_le (by rw [List.length_drop]; omega)]
      exact List.drop_one
    have hxs : (s.extract 1 s.size).size = s.data.toList.tail.length := by rw [← size_list, hx]
    simp only [spec_l1Read.j0]
    rw [hb']
    by_cases h45 : c = 45
    · subst h45
      have e1 : (((45 : UInt8).toNat : Int) == 45) = true := rfl
      have e2 : s.data.toList.head? = some 45 := by rw [hd]; rfl
      rw [e1, if_pos rfl, if_pos (by omega), read_j1 s _ true most hm (by omega), if_pos e2, hx, hxs]
    · have h46 : c.toNat ≠ 45 := fun e => h45 (UInt8.toNat_inj.1 e)
      have e1 : ((c.toNat : Int) == 45) = false := by rw [beq_eq_false_iff_ne]; omega
      have e2 : ¬ s.data.toList.head? = some 45 := by rw [hd]; simpa using h45
      rw [e1, if_neg (by decide), read_j1 s s false most hm (by omega), if_neg e2, hl]
/-- What l1Read says: the number of at most so many digits whose numeral is the text. -/
theorem readS_spec (most : Nat) (h1 : 1 ≤ most) (s : List UInt8) : (∃ v : Int, readS most s = (v, true) ∧ Go.Lib.itoa v = s ∧ v.natAbs < 10 ^ most) ∨ (readS most s = (0, false) ∧ ∀ v : Int, v.natAbs < 10 ^ most → Go.Lib.itoa v ≠ s) := by
  by_cases hh : ∃ v : Int, v.natAbs < 10 ^ most ∧ Go.Lib.itoa v = s
  · obtain ⟨v, hv, hs⟩ := hh
    left
    refine ⟨v, ?_, hs, hv⟩
    have hlen := decDigits_len (most - 1) v.natAbs (by rw [show most - 1 + 1 = most from by omega]; exact hv)
    have hne := List.length_pos_iff.2 (decDigits_ne v.natAbs)
    unfold readS
    by_cases h : v < 0
    · rw [itoa_neg h] at hs
      have e1 : s.head? = some 45 := by rw [← hs]; rfl
      have e2 : s.tail = Go.Lib.decDigits v.natAbs := by rw [← hs]; rfl
      rw [if_pos e1, e2, if_neg (by omega), foldD_dec]
      simp only [endR, if_true]
      rw [show -((v.natAbs : Nat) : Int) = v from by omega, itoa_neg h, if_pos hs]
    · rw [itoa_pos (by omega)] at hs
      obtain ⟨c, l, e, g1, g2⟩ := decDigits_head v.natAbs
      have e1 : ¬ s.head? = some 45 := by
        rw [← hs, e]
        intro h2
        have : c = 45 := by simpa using h2
        rw [this] at g1; exact absurd g1 (by decide)
      rw [if_neg e1, ← hs, if_neg (by omega), foldD_dec]
      simp only [endR, Bool.false_eq_true, if_false]
      rw [show ((v.natAbs : Nat) : Int) = v from by omega, itoa_pos (by omega), if_pos rfl]
  · right
    refine ⟨?_, fun v hv e => hh ⟨v, hv, e⟩⟩
    have key : ∀ (b : Bool) (t : List UInt8), ¬ (t.length < 1 ∨ most < t.length) → endR b s (foldD 0 t) = (0, false) := fun b t ht => by
      cases hf : foldD 0 t with
      | none => rfl
      | some u =>
        have hu := foldD_lt t 0 u hf
        have hp : 10 ^ t.length ≤ 10 ^ most := Nat.pow_le_pow_right (by decide) (by omega)
        simp only [endR]
        refine if_neg fun e => hh ⟨_, ?_, e⟩
        cases b
        · simp only [Bool.false_eq_true, if_false]; omega
        · simp only [if_true]; omega
    unfold readS
    split
    · split
      · rfl
      · exact key _ _ (by assumption)
    · split
      · rfl
      · exact key _ _ (by assumption)

def readI (lo hi : Int) (s : ByteArray) : Int × Bool := match readEnd s with
  | some v => if Go.Lib.itoa v = s.data.toList then (if lo ≤ v ∧ v ≤ hi then (v, true) else (0, false)) else (0, false)
  | none => (0, false)
theorem impl_readInt_eq (s : ByteArray) (hs : s.size ≤ 281474976710656) (lo hi : Int) : impl_readInt.f s lo hi = some (readI lo hi s) := by
  unfold impl_readInt.f readI
  rw [if_pos hs]
  cases h : readEnd s with
  | none => rfl
  | some v =>
    have hb : -9223372036854775808 ≤ v ∧ v ≤ 9223372036854775807 := by
      unfold readEnd at h
      cases e : Go.Lib.atoiAll s.data.toList with
      | ok x =>
        rw [e] at h
        obtain rfl := Option.some.inj h
        exact Go.Lib.atoiAll_bounds e
      | _ => rw [e] at h; cases h
    simp only
    rw [impl_FormatInt_eq v hb.1 hb.2]; simp only [Option.bind_some]
    rw [ByteArray.toList_eq, ByteArray.toList_eq]
    unfold impl_within.f
    by_cases c1 : Go.Lib.itoa v = s.data.toList
    · rw [if_pos c1, if_pos c1]
      by_cases c2 : lo ≤ v
      · rw [if_pos c2]; simp only [Option.bind_some]
        by_cases c3 : v ≤ hi
        · rw [decide_eq_true c3, if_pos rfl, if_pos ⟨c2, c3⟩]
        · rw [decide_eq_false c3, if_neg (by decide), if_neg (fun e => c3 e.2)]
      · rw [if_neg c2, if_neg (fun e => c2 e.1)]; rfl
    · rw [if_neg c1, if_neg c1]
/-- What readInt says: the number in the range whose numeral is the text. -/
theorem readI_spec (lo hi : Int) (h0 : -1000000000000 < lo) (h1 : hi < 1000000000000) (s : ByteArray) : (∃ v : Int, readI lo hi s = (v, true) ∧ Go.Lib.itoa v = s.data.toList ∧ lo ≤ v ∧ v ≤ hi) ∨ (readI lo hi s = (0, false) ∧ ∀ v : Int, lo ≤ v → v ≤ hi → Go.Lib.itoa v ≠ s.data.toList) := by
  by_cases hh : ∃ v : Int, (lo ≤ v ∧ v ≤ hi) ∧ Go.Lib.itoa v = s.data.toList
  · obtain ⟨v, hv, hs⟩ := hh
    left
    refine ⟨v, ?_, hs, hv⟩
    have he : readEnd s = some v := by
      unfold readEnd
      rw [← hs, atoi_itoa v (by omega)]
    unfold readI
    rw [he]; simp only
    rw [if_pos hs, if_pos hv]
  · right
    refine ⟨?_, fun v a b e => hh ⟨v, ⟨a, b⟩, e⟩⟩
    unfold readI
    cases h : readEnd s with
    | none => rfl
    | some v =>
      simp only
      by_cases c1 : Go.Lib.itoa v = s.data.toList
      · rw [if_pos c1, if_neg (fun c2 => hh ⟨v, c2, c1⟩)]
      · rw [if_neg c1]

theorem read_num (s : ByteArray) : (if (readS 6 s.data.toList).2 = true then (if (readS 6 s.data.toList).1 < 0 then ((0 : Int), false) else ((readS 6 s.data.toList).1, true)) else (0, false)) = readI 0 999999 s := by
  have hp : (10 : Nat) ^ 6 = 1000000 := by decide
  rcases readS_spec 6 (by decide) s.data.toList with ⟨v, e1, e2, e3⟩ | ⟨e1, e2⟩ <;> rcases readI_spec 0 999999 (by decide) (by decide) s with ⟨u, f1, f2, f3⟩ | ⟨f1, f2⟩
  · obtain rfl := itoa_inj (e2.trans f2.symm)
    rw [e1, f1]; simp only [if_true]
    rw [if_neg (by omega)]
  · rw [e1, f1]; simp only [if_true]
    by_cases hv : v < 0
    · rw [if_pos hv]
    · exact absurd e2 (f2 v (by omega) (by omega))
  · exact absurd f2 (e2 u (by omega))
  · rw [e1, f1]; rfl
theorem spec_ParseNumber_eq (s : ByteArray) {k : Nat} (hk : 70 ≤ k) : spec_ParseNumber.f k s = some (readI 0 999999 s) := by
  have e1 := spec_l1Read_eq s 6 (by decide) hk
  have e2 : spec_l1Read.f k s 6 = _ := e1
  unfold spec_ParseNumber.f
  rw [e2, ← read_num s]; simp only [Option.bind_some]
  split
  · split <;> rfl
  · rfl
theorem impl_ParseNumber_eq (s : ByteArray) (hs : s.size ≤ 281474976710656) : impl_ParseNumber.f s = some (readI 0 999999 s) := by
  unfold impl_ParseNumber.f
  rw [impl_readInt_eq s hs]; rfl

theorem itoa_len (n : Int) (hlo : -9223372036854775808 ≤ n) (hhi : n ≤ 9223372036854775807) : (Go.Lib.itoa n).length ≤ 21 := by
  have h20 : n.natAbs < 10 ^ 20 := Nat.lt_of_le_of_lt (show n.natAbs ≤ 9223372036854775808 by omega) (by decide)
  have := decDigits_len 19 n.natAbs h20
  by_cases h : n < 0
  · rw [itoa_neg h, List.length_cons]; omega
  · rw [itoa_pos (by omega)]; omega
theorem DrawParseNumber_ok (l : List Int) (hm : l.length ≤ maxLen) {k : Nat} (hk : 4001 ≤ k) : ∃ s : ByteArray, spec_DrawParseNumber.f k l = some s ∧ s.size ≤ 100 := by
  unfold spec_DrawParseNumber.f
  obtain ⟨s0, e0⟩ := l1New_ok l hm hk
  rw [e0]; simp only [Option.bind_some]
  obtain ⟨b, i1, s1, e1, h1⟩ := l1Once_ok l hm 0 s0 2 (by decide)
  rw [e1]; simp only [Option.bind_some]
  cases b with
  | true =>
    obtain ⟨v, i2, s2, e2, _, h2, h3⟩ := l1Whole_ok l hm i1 s1 h1
    rw [if_pos rfl, e2]; simp only [Option.bind_some]
    rw [spec_FormatInt_eq v h2 h3 (by omega)]
    have := itoa_len v h2 h3
    refine ⟨_, rfl, ?_⟩
    show (Go.Lib.itoa v).toArray.size ≤ 100
    rw [List.size_toArray]; omega
  | false =>
    rw [if_neg (by decide)]
    obtain ⟨t, i2, s2, e2, _, h2⟩ := l1Pick_ok l hm i1 s1 [(⟨#[]⟩ : ByteArray), (⟨#[48, 48]⟩ : ByteArray), (⟨#[48, 49]⟩ : ByteArray), (⟨#[45, 49]⟩ : ByteArray), (⟨#[43, 49]⟩ : ByteArray), (⟨#[120]⟩ : ByteArray), (⟨#[57, 57, 57, 57, 57, 57]⟩ : ByteArray), (⟨#[49, 48, 48, 48, 48, 48, 48]⟩ : ByteArray), (⟨#[45, 48]⟩ : ByteArray), (⟨#[45]⟩ : ByteArray), (⟨#[32, 49]⟩ : ByteArray), (⟨#[49, 32]⟩ : ByteArray)] h1 (by decide) (by decide) 10 (by
      intro x hx
      simp only [List.mem_cons, List.not_mem_nil, or_false] at hx
      rcases hx with rfl | rfl | rfl | rfl | rfl | rfl | rfl | rfl | rfl | rfl | rfl | rfl <;> decide)
    rw [e2]; exact ⟨_, rfl, by show t.size ≤ 100; omega⟩
theorem numbers_j0 (l : List Int) (hm : l.length ≤ maxLen) {k : Nat} (hk : 5000 ≤ k) : laws_FnNumbers.j0 k l false = some true := by
  obtain ⟨k, rfl⟩ : ∃ m, k = m + 1 := ⟨k - 1, by omega⟩
  simp only [laws_FnNumbers.j0]
  obtain ⟨t, e1, ht⟩ := DrawParseNumber_ok l hm (k := k) (by omega)
  rw [if_neg (by decide), e1]; simp only [Option.bind_some]
  rw [impl_ParseNumber_eq t (by omega), spec_ParseNumber_eq t (by omega)]; simp only [Option.bind_some]
  rcases readI_spec 0 999999 (by decide) (by decide) t with ⟨v, f1, f2, f3, f4⟩ | ⟨f1, _⟩
  · rw [f1]; simp only [beq_self_eq_true, if_true]
    rw [impl_FormatInt_eq v (by omega) (by omega)]; simp only [Option.bind_some]
    rw [ByteArray.toList_eq, ByteArray.toList_eq]
    have e : ((⟨(Go.Lib.itoa v).toArray⟩ : ByteArray).data.toList) = t.data.toList := f2
    rw [if_pos e, decide_eq_true (show v ≥ 0 from f3)]
  · rw [f1]; rfl
theorem FnNumbers : laws_FnNumbers.Pure := by
  intro l hm hw
  refine ⟨5001, ?_⟩
  unfold laws_FnNumbers.f laws_big.f
  simp only [Option.bind_some]
  by_cases hbig : (l.length : Int) > 1048576
  · rw [decide_eq_true hbig, if_pos rfl]
  rw [decide_eq_false hbig, if_neg (by decide)]
  obtain ⟨n, e1, h1, h2⟩ := DrawFormatInt_ok l hm (k := 5001) (by decide)
  have hlen := itoa_len n h1 h2
  have J := numbers_j0 l hm (k := 5001) (by decide)
  have hsz : (⟨(Go.Lib.itoa n).toArray⟩ : ByteArray).size = (Go.Lib.itoa n).length := List.size_toArray
  rw [e1]; simp only [Option.bind_some]
  rw [impl_FormatInt_eq n h1 h2]; simp only [Option.bind_some]
  unfold impl_ParseInt.f
  rw [impl_readInt_eq _ (by omega)]; simp only [Option.bind_some]
  rw [spec_FormatInt_eq n h1 h2 (by decide)]; simp only [Option.bind_some]
  rw [if_pos trivial, hsz]
  have hp : (10 : Nat) ^ 12 = 1000000000000 := by decide
  have hfold := foldD_lt _ 0 n.natAbs (foldD_dec n.natAbs)
  rcases readI_spec (-999999999999) 999999999999 (by decide) (by decide) (⟨(Go.Lib.itoa n).toArray⟩ : ByteArray) with ⟨v, f1, f2, f3, f4⟩ | ⟨f1, f2⟩
  · have ev : v = n := itoa_inj f2
    subst ev
    have hd := decDigits_len 11 v.natAbs (by omega)
    rw [f1]; simp only [bne_self_eq_false, if_true]
    by_cases c : ((Go.Lib.itoa v).length : Int) ≤ 12
    · rw [if_pos c, if_neg (by decide)]; exact J
    · rw [if_neg c]
      have hneg : v < 0 := by
        apply Decidable.byContradiction
        intro h
        rw [itoa_pos (by omega)] at c
        omega
      have h13 : ((Go.Lib.itoa v).length : Int) ≤ 13 := by rw [itoa_neg hneg, List.length_cons]; omega
      rw [if_pos hneg, decide_eq_true h13, if_neg (by decide)]; exact J
  · have hbigN : 1000000000000 ≤ n.natAbs := by
      apply Decidable.byContradiction
      intro h
      exact f2 n (by omega) (by omega) rfl
    have hd : 12 < (Go.Lib.decDigits n.natAbs).length := by
      apply Decidable.byContradiction
      intro h
      have : 10 ^ (Go.Lib.decDigits n.natAbs).length ≤ 10 ^ 12 := Nat.pow_le_pow_right (by decide) (by omega)
      omega
    rw [f1]
    have c : ¬ ((Go.Lib.itoa n).length : Int) ≤ 12 := by
      by_cases h : n < 0
      · rw [itoa_neg h, List.length_cons]; omega
      · rw [itoa_pos (by omega)]; omega
    rw [if_neg c]
    by_cases hneg : n < 0
    · have h13 : ¬ ((Go.Lib.itoa n).length : Int) ≤ 13 := by rw [itoa_neg hneg, List.length_cons]; omega
      rw [if_pos hneg, decide_eq_false h13]
      exact J
    · rw [if_neg hneg]
      exact J

end Go.Proofs.YtpnnichlkaedlaaDoor.Pure
