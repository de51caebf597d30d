/- For every input the law answers true. No condition. -/
import Derived.Test.YtpijdephgmcoeaaPFnDerivationx7
import Derived.Test.YtpijdephgmcoeaaPFnDerivationx8
set_option linter.unusedVariables false
set_option linter.unusedSimpArgs false
namespace Go.Proofs.Ytpijdephgmcoeaa.Pure
open Go.RowKit Go.Proofs.Ytpijdephgmcoeaa.PFnDerivation Go.Proofs.YtpijdephgmcoeaaW.PrintWords Go.Proofs.YtpijdephgmcoeaaW.PrintLast
/-- The full set of n elements. -/
def full (n : Int) : Int := (2 : Int) ^ n.toNat - 1
def isSetB (n s : Int) : Bool := decide (0 ≤ n ∧ n ≤ 8 ∧ 0 ≤ s ∧ s ≤ full n)
def hasB (s e : Int) : Bool := s.toNat.testBit e.toNat
theorem nine {n : Int} (h0 : 0 ≤ n) (h1 : n ≤ 8) : n = 0 ∨ n = 1 ∨ n = 2 ∨ n = 3 ∨ n = 4 ∨ n = 5 ∨ n = 6 ∨ n = 7 ∨ n = 8 := by omega
theorem full_bd {n : Int} (h0 : 0 ≤ n) (h1 : n ≤ 8) : 0 ≤ full n ∧ full n ≤ 255 := by
  rcases nine h0 h1 with rfl | rfl | rfl | rfl | rfl | rfl | rfl | rfl | rfl <;> decide +kernel
theorem isSetB_bd {n s : Int} (h : isSetB n s = true) : 0 ≤ n ∧ n ≤ 8 ∧ 0 ≤ s ∧ s ≤ full n ∧ s ≤ 255 := by
  unfold isSetB at h
  have h := of_decide_eq_true h
  have := full_bd h.1 h.2.1
  omega
theorem isSetB8 (s : Int) : isSetB 8 s = decide (0 ≤ s ∧ s ≤ 255) := by
  unfold isSetB
  have : full 8 = 255 := by decide +kernel
  rw [this]; simp
theorem shl_full {n : Int} (h0 : 0 ≤ n) (h1 : n ≤ 8) : wrap64 (shl .i64 1 n - 1) = full n := by
  rcases nine h0 h1 with rfl | rfl | rfl | rfl | rfl | rfl | rfl | rfl | rfl <;> decide +kernel
theorem u64_small {n : Int} (h0 : 0 ≤ n) (h1 : n < 18446744073709551616) : IntKind.u64.wrap n = n := by
  simp only [IntKind.wrap, IntKind.bits, IntKind.signed]; simp; omega
theorem u64_nonneg (n : Int) : 0 ≤ IntKind.u64.wrap n := by
  simp only [IntKind.wrap, IntKind.bits, IntKind.signed]; simp; omega
theorem w64 {n : Int} (h0 : -9223372036854775808 ≤ n) (h1 : n < 9223372036854775808) : wrap64 n = n := by unfold wrap64; omega
theorem i64_small (n : Int) (h0 : 0 ≤ n) (h1 : n < 2 ^ 63) : IntKind.i64.wrap n = n := by rw [IntKind.wrap_i64]; omega
theorem and_nat (a b : Nat) (ha : a < 2 ^ 63) (hb : b < 2 ^ 63) : Go.bits .and .i64 a b = ((a &&& b : Nat) : Int) := (bits_nat .i64 63 (by decide) (fun n h0 h1 => i64_small n h0 h1) a b ha hb).1
theorem or_nat (a b : Nat) (ha : a < 2 ^ 63) (hb : b < 2 ^ 63) : Go.bits .or .i64 a b = ((a ||| b : Nat) : Int) := (bits_nat .i64 63 (by decide) (fun n h0 h1 => i64_small n h0 h1) a b ha hb).2
/-- What is in a and not in b. -/
def dif (a b : Nat) : Nat := a ^^^ (a &&& b)
theorem dif_bit (a b i : Nat) : (dif a b).testBit i = (a.testBit i && !b.testBit i) := by
  unfold dif; rw [Nat.testBit_xor, Nat.testBit_and]; cases a.testBit i <;> cases b.testBit i <;> rfl
theorem dif_lt (a b n : Nat) (ha : a < 2 ^ n) : dif a b < 2 ^ n := Nat.xor_lt_two_pow ha (Nat.lt_of_le_of_lt Nat.and_le_left ha)
theorem andNot_nat (a b : Nat) (ha : a < 2 ^ 63) (hb : b < 2 ^ 63) : Go.bits .andNot .i64 a b = ((dif a b : Nat) : Int) := by
  simp only [Go.bits, BitVec.ofInt_natCast, IntKind.bits]
  have e : (BitVec.ofNat 64 a &&& ~~~BitVec.ofNat 64 b).toNat = dif a b := by
    apply Nat.eq_of_testBit_eq
    intro i
    rw [dif_bit, BitVec.testBit_toNat, BitVec.getLsbD_and, BitVec.getLsbD_not, BitVec.getLsbD_ofNat, BitVec.getLsbD_ofNat]
    by_cases hi : i < 64
    · simp [hi]
    · have : a.testBit i = false := Nat.testBit_lt_two_pow (Nat.lt_of_lt_of_le ha (Nat.pow_le_pow_right (by decide) (by omega)))
      simp [hi, this]
  have hl := dif_lt a b 63 ha
  have e2 : IntKind.i64.wrap ((dif a b : Nat) : Int) = ((dif a b : Nat) : Int) := i64_small _ (by omega) (by exact_mod_cast hl)
  exact (congrArg (fun n : Nat => IntKind.i64.wrap (n : Int)) e).trans e2
theorem and_eq_iff_dif (a b : Nat) : (a &&& b = a) ↔ dif a b = 0 := by
  constructor
  · intro h; unfold dif; rw [h, Nat.xor_self]
  · intro h
    apply Nat.eq_of_testBit_eq; intro i
    have h2 := dif_bit a b i
    rw [h, Nat.zero_testBit] at h2
    rw [Nat.testBit_and]
    cases ha : a.testBit i <;> cases hb : b.testBit i <;> simp [ha, hb] at h2 ⊢
theorem bit_nat (s e : Nat) (hs : s < 2 ^ 63) (he : e ≤ 63) : (Go.bits .and .i64 (shr .i64 (s : Int) (e : Int)) 1 == 1) = s.testBit e := by
  have h1 : shr .i64 (s : Int) (e : Int) = ((s / 2 ^ e : Nat) : Int) := by
    unfold shr
    rw [Int.toNat_natCast, Nat.min_eq_left (by simp [IntKind.bits]; omega)]
    simp
  have h2 : s / 2 ^ e < 2 ^ 63 := Nat.lt_of_le_of_lt (Nat.div_le_self _ _) hs
  rw [h1, show (1 : Int) = ((1 : Nat) : Int) from rfl, and_nat _ _ h2 (by decide), Nat.and_one_is_mod, Nat.testBit_eq_decide_div_mod_eq]
  have : ((((s / 2 ^ e % 2 : Nat) : Int)) == ((1 : Nat) : Int)) = decide (s / 2 ^ e % 2 = 1) := by
    generalize s / 2 ^ e % 2 = q
    rw [Bool.eq_iff_iff, beq_iff_eq, decide_eq_true_iff]; omega
  exact this
theorem bit_int {s e : Int} (hs0 : 0 ≤ s) (hs : s < 9223372036854775808) (he0 : 0 ≤ e) (he : e ≤ 63) : (Go.bits .and .i64 (shr .i64 s e) 1 == 1) = hasB s e := by
  obtain ⟨a, rfl⟩ := Int.eq_ofNat_of_zero_le hs0
  obtain ⟨b, rfl⟩ := Int.eq_ofNat_of_zero_le he0
  exact bit_nat a b (by omega) (by omega)

theorem wstep {i : Int} {n : Nat} (h0 : 0 ≤ i) (h : i < (n : Int)) (hn : n ≤ 281474976710656) : wrap64 (i + 1) = i + 1 := by unfold wrap64; omega
theorem rd_nat (l : List Int) (i : Nat) (h : i < l.length) : rd l (i : Int) = l[i] := by unfold rd; rw [Int.toNat_natCast, List.getD_eq_getElem?_getD, List.getElem?_eq_getElem h]; rfl

/-- Row g, as a natural number. -/
def row (a : List Int) (g : Nat) : Nat := (a.getD g 0).toNat
def RowsOk (a : List Int) : Prop := ∀ x ∈ a, 0 ≤ x ∧ x ≤ 255
theorem rd_row {a : List Int} (h : RowsOk a) {i : Nat} (hi : i < a.length) : rd a (i : Int) = (row a i : Int) := by
  rw [rd_nat a i hi]
  have := h a[i] (List.getElem_mem hi)
  unfold row
  rw [List.getD_eq_getElem?_getD, List.getElem?_eq_getElem hi, Option.getD_some, Int.toNat_of_nonneg this.1]
theorem row_lt {a : List Int} (h : RowsOk a) (i : Nat) : row a i < 256 := by
  unfold row
  by_cases hi : i < a.length
  · have := h a[i] (List.getElem_mem hi)
    rw [List.getD_eq_getElem?_getD, List.getElem?_eq_getElem hi, Option.getD_some]; omega
  · rw [List.getD_eq_getElem?_getD, List.getElem?_eq_none (by omega)]; decide
theorem shl_bit {b : Nat} (hb : b ≤ 1) {i : Nat} (hi : i ≤ 8) : shl .i64 (b : Int) (i : Int) = ((b * 2 ^ i : Nat) : Int) := by
  have h0 : b = 0 ∨ b = 1 := by omega
  have h1 : i = 0 ∨ i = 1 ∨ i = 2 ∨ i = 3 ∨ i = 4 ∨ i = 5 ∨ i = 6 ∨ i = 7 ∨ i = 8 := by omega
  rcases h0 with rfl | rfl <;> rcases h1 with rfl | rfl | rfl | rfl | rfl | rfl | rfl | rfl | rfl <;> decide +kernel
theorem shl_one {i : Nat} (hi : i ≤ 8) : shl .i64 1 (i : Int) = ((2 ^ i : Nat) : Int) := by
  have := shl_bit (b := 1) (by omega) hi
  rw [Nat.one_mul] at this
  exact this
theorem pow_le8 {i : Nat} (hi : i ≤ 8) : 2 ^ i ≤ 256 := Nat.le_trans (Nat.pow_le_pow_right (by decide) hi) (by decide)
theorem full_nat {n : Nat} : full (n : Int) = ((2 ^ n - 1 : Nat) : Int) := by
  unfold full
  rw [Int.toNat_natCast, Int.natCast_sub (Nat.two_pow_pos n)]; simp
theorem or_lt {a b n : Nat} (ha : a < 2 ^ n) (hb : b < 2 ^ n) : a ||| b < 2 ^ n := Nat.or_lt_two_pow ha hb
theorem two_pow_bit (i g : Nat) : (2 ^ i).testBit g = decide (i = g) := Nat.testBit_two_pow
theorem full_bit (n m : Nat) : (2 ^ n - 1).testBit m = decide (m < n) := Nat.testBit_two_pow_sub_one n m
/-- A set of n elements is below 2 ^ n. -/
theorem isSet_nat {n : Nat} {s : Int} (h : isSetB (n : Int) s = true) : ∃ t : Nat, s = (t : Int) ∧ t < 2 ^ n ∧ n ≤ 8 ∧ t < 256 := by
  have hb := isSetB_bd h
  obtain ⟨t, rfl⟩ := Int.eq_ofNat_of_zero_le hb.2.2.1
  rw [full_nat] at hb
  have := Nat.two_pow_pos n
  exact ⟨t, rfl, by omega, by omega, by omega⟩
theorem lt_bits {t n : Nat} (h : t < 2 ^ n) {m : Nat} (hm : n ≤ m) : t.testBit m = false := Nat.testBit_lt_two_pow (Nat.lt_of_lt_of_le h (Nat.pow_le_pow_right (by decide) hm))
theorem lt_of_bits {t n : Nat} (h : ∀ m, t.testBit m = true → m < n) : t < 2 ^ n := by
  refine Nat.lt_pow_two_of_testBit t fun i hi => ?_
  cases e : t.testBit i with
  | false => rfl
  | true => exact absurd (h i e) (by omega)
theorem isSet_mk {n t : Nat} (hn : n ≤ 8) (h : t < 2 ^ n) : isSetB (n : Int) (t : Int) = true := by
  unfold isSetB
  rw [full_nat]
  have := Nat.two_pow_pos n
  exact decide_eq_true ⟨by omega, by omega, by omega, by omega⟩

theorem and255_bd (n : Int) : 0 ≤ Go.bits .and .i64 n 255 ∧ Go.bits .and .i64 n 255 ≤ 255 := by
  have h : (BitVec.ofInt 64 255).toNat = 2 ^ 8 - 1 := by decide
  have key : (BitVec.ofInt 64 n &&& BitVec.ofInt 64 255).toNat = (n % ((2 ^ 64 : Nat) : Int)).toNat % 2 ^ 8 := by
    rw [BitVec.toNat_and, BitVec.toNat_ofInt, h, Nat.and_two_pow_sub_one_eq_mod]
  have e : Go.bits .and .i64 n 255 = n % 256 := by
    show IntKind.i64.wrap ((BitVec.ofInt 64 n &&& BitVec.ofInt 64 255).toNat : Nat) = n % 256
    rw [key, IntKind.wrap_i64]
    omega
  omega
theorem l1New_loop (l : List Int) (hm : l.length ≤ maxLen) : ∀ (d i k : Nat) (s : Int), i + d = 4000 → d < k → ∃ s', spec_l1New.l0 k l s (i : Int) = some (l, 0, s')
  | 0, i, k, s, hi, hk => by
    obtain ⟨k, rfl⟩ : ∃ m, k = m + 1 := ⟨k - 1, by omega⟩
    simp only [spec_l1New.l0]
    by_cases h : (i : Int) < (l.length : Int)
    · rw [if_pos h, if_neg (by omega)]; exact ⟨_, rfl⟩
    · rw [if_neg h]; exact ⟨_, rfl⟩
  | d + 1, i, k, s, hi, hk => by
    obtain ⟨k, rfl⟩ : ∃ m, k = m + 1 := ⟨k - 1, by omega⟩
    simp only [spec_l1New.l0]
    by_cases h : (i : Int) < (l.length : Int)
    · rw [if_pos h, if_pos (by omega), if_pos (by omega), show wrap64 ((i : Int) + 1) = ((i + 1 : Nat) : Int) from by rw [w64 (by omega) (by omega)]; omega]
      exact l1New_loop l hm d (i + 1) k _ (by omega) (by omega)
    · rw [if_neg h]; exact ⟨_, rfl⟩
theorem l1New_ok (l : List Int) (hm : l.length ≤ maxLen) {k : Nat} (hk : 4001 ≤ k) : ∃ s, spec_l1New.f k l = some (l, 0, s) := by
  unfold spec_l1New.f
  exact l1New_loop l hm 4000 0 k _ (by omega) (by omega)
theorem l1Byte_ok (l : List Int) (hm : l.length ≤ maxLen) (i s : Int) (hi : 0 ≤ i) : ∃ b i' s', spec_l1Byte.f l i s = some (b, i', s') ∧ 0 ≤ i' ∧ 0 ≤ b ∧ b ≤ 255 := by
  unfold spec_l1Byte.f
  unfold maxLen at hm
  by_cases h : i < (l.length : Int)
  · rw [if_pos h, if_pos hi]
    exact ⟨_, _, _, rfl, by rw [w64 (by omega) (by omega)]; omega, (and255_bd _).1, (and255_bd _).2⟩
  · rw [if_neg h]
    exact ⟨_, _, _, rfl, hi, (and255_bd _).1, (and255_bd _).2⟩
theorem l1Below_ok (l : List Int) (hm : l.length ≤ maxLen) (i s a : Int) (hi : 0 ≤ i) : ∃ r i' s', spec_l1Below.f l i s a = some (r, i', s') ∧ 0 ≤ i' ∧ (0 < a → a ≤ 256 → 0 ≤ r ∧ r < a) := by
  unfold spec_l1Below.f
  by_cases h0 : a ≤ 0
  · rw [if_pos h0]; exact ⟨_, _, _, rfl, hi, fun h => absurd h (by omega)⟩
  · rw [if_neg h0]
    obtain ⟨b, i1, s1, e, h1, h2, h3⟩ := l1Byte_ok l hm i s hi
    by_cases h4 : a ≤ 256
    · rw [if_pos h4, e, Option.bind_some, if_neg (by omega)]
      refine ⟨_, _, _, rfl, h1, fun _ _ => ?_⟩
      rw [Int.tmod_eq_emod_of_nonneg h2]
      exact ⟨Int.emod_nonneg _ (by omega), Int.emod_lt_of_pos _ (by omega)⟩
    · obtain ⟨b2, i2, s2, e2, h12, _, _⟩ := l1Byte_ok l hm i1 s1 h1
      obtain ⟨b3, i3, s3, e3, h13, _, _⟩ := l1Byte_ok l hm i2 s2 h12
      obtain ⟨b4, i4, s4, e4, h14, _, _⟩ := l1Byte_ok l hm i3 s3 h13
      rw [if_neg h4, e]; simp only [Option.bind_some]
      rw [e2]; simp only [Option.bind_some]
      rw [e3]; simp only [Option.bind_some]
      rw [e4]; simp only [Option.bind_some]
      rw [if_neg (by omega)]
      exact ⟨_, _, _, rfl, h14, fun _ h => absurd h h4⟩
theorem l1Once_ok (l : List Int) (hm : l.length ≤ maxLen) (i s a : Int) (hi : 0 ≤ i) : ∃ r i' s', spec_l1Once.f l i s a = some (r, i', s') ∧ 0 ≤ i' := by
  unfold spec_l1Once.f
  obtain ⟨b, i1, s1, e, h1, _⟩ := l1Below_ok l hm i s a hi
  rw [e]; exact ⟨_, _, _, rfl, h1⟩
theorem l1PickInt_ok (l : List Int) (hm : l.length ≤ maxLen) (i s : Int) (z : List Int) (hi : 0 ≤ i) (hz : 0 < z.length) (hz2 : z.length ≤ 256) : ∃ r i' s', spec_l1PickInt.f l i s z = some (r, i', s') ∧ 0 ≤ i' := by
  unfold spec_l1PickInt.f
  obtain ⟨b, i1, s1, e, h1, h2⟩ := l1Below_ok l hm i s (z.length : Int) hi
  have := h2 (by omega) (by omega)
  rw [e]; simp only [Option.bind_some]
  rw [if_pos this.1, if_pos this.2]; exact ⟨_, _, _, rfl, h1⟩
theorem l2Bent_ok (l : List Int) (hm : l.length ≤ maxLen) (i s : Int) (hi : 0 ≤ i) : ∃ r i' s', spec_l2Bent.f l i s = some (r, i', s') ∧ 0 ≤ i' := by
  unfold spec_l2Bent.f
  obtain ⟨b, i1, s1, e, h1⟩ := l1Once_ok l hm i s 8 hi
  rw [e]; simp only [Option.bind_some]
  by_cases hb : b = true
  · rw [if_pos hb]
    obtain ⟨r, i2, s2, e2, h2⟩ := l1PickInt_ok l hm i1 s1 [(-1), 256, 1000, (-9223372036854775808)] h1 (by decide) (by decide)
    rw [e2]; exact ⟨_, _, _, rfl, h2⟩
  · rw [if_neg hb]
    obtain ⟨r, i2, s2, e2, h2, _⟩ := l1Below_ok l hm i1 s1 256 h1
    rw [e2]; exact ⟨_, _, _, rfl, h2⟩
theorem l3Make_loop (l : List Int) (hm : l.length ≤ maxLen) (n b y : Int) (h256 : y ≤ 256) (d : Nat) : ∀ (x k : Nat) (i s : Int) (rs : List Int), (x : Int) + d = y → d < k → 0 ≤ i → rs.length = x →
    ∃ rs' i' s', spec_l3Make.l0 k n y (x : Int) l i s b rs = some (b, rs', i', s') ∧ 0 ≤ i' ∧ (rs'.length : Int) = y := by
  induction d with
  | zero =>
    intro x k i s rs hy hk hi hl
    obtain ⟨k, rfl⟩ : ∃ m, k = m + 1 := ⟨k - 1, by omega⟩
    simp only [spec_l3Make.l0]
    rw [if_neg (by omega)]; exact ⟨_, _, _, rfl, hi, by omega⟩
  | succ d ih =>
    intro x k i s rs hy hk hi hl
    obtain ⟨k, rfl⟩ : ∃ m, k = m + 1 := ⟨k - 1, by omega⟩
    have hlt : rs.length < 17592186044416 := by clear hm ih; omega
    have hx0 : (x : Int) < y := by clear hm ih; omega
    have hy' : ((x + 1 : Nat) : Int) + d = y := by clear hm ih; omega
    have hk' : d < k := by clear hm ih; omega
    have ex : wrap64 ((x : Int) + 1) = ((x + 1 : Nat) : Int) := by clear hm ih; rw [w64 (by omega) (by omega)]; omega
    have hls : ∀ z : Int, (rs ++ [z]).length = x + 1 := fun z => by rw [List.length_append, hl]; rfl
    have hu := u64_nonneg n
    obtain ⟨c, i1, s1, e1, h1⟩ := l1Once_ok l hm i s 2 hi
    simp only [spec_l3Make.l0]
    rw [if_pos hx0, e1]; simp only [Option.bind_some]
    generalize shl .i64 1 (IntKind.u64.wrap n) = sh
    obtain ⟨r2, i2, s2, e2, h2, _⟩ := l1Below_ok l hm i1 s1 sh h1
    cases c with
    | true =>
      simp only [if_true, if_pos hu, e2, Option.bind_some, if_pos hlt, ex]
      exact ih (x + 1) k i2 s2 _ hy' hk' h2 (hls _)
    | false =>
      obtain ⟨r3, i3, s3, e3, h3, _⟩ := l1Below_ok l hm i2 s2 sh h2
      simp only [Bool.false_eq_true, if_false, if_pos hu, e2, e3, Option.bind_some, if_pos hlt, ex]
      exact ih (x + 1) k i3 s3 _ hy' hk' h3 (hls _)
theorem l3Make_ok (l : List Int) (hm : l.length ≤ maxLen) (i s n c : Int) (hi : 0 ≤ i) (hc : 0 ≤ c) (hc2 : c ≤ 200) {k : Nat} (hk : 300 ≤ k) : ∃ rs i' s', spec_l3Make.f k l i s n c = some (n, rs, i', s') ∧ 0 ≤ i' ∧ (rs.length : Int) ≤ c := by
  unfold spec_l3Make.f
  rw [w64 (n := c + 1) (by omega) (by omega)]
  obtain ⟨b, i1, s1, e, h1, h2⟩ := l1Below_ok l hm i s (c + 1) hi
  have hb := h2 (by omega) (by omega)
  rw [e]; simp only [Option.bind_some]
  obtain ⟨rs, i2, s2, e2, h3, h4⟩ := l3Make_loop l hm n n b (by omega) b.toNat 0 k i1 s1 [] (by omega) (by omega) h1 rfl
  have e0 : ((0 : Nat) : Int) = 0 := rfl
  rw [e0] at e2
  exact ⟨rs, i2, s2, e2, h3, by omega⟩
theorem l3Draw_ok (l : List Int) (hm : l.length ≤ maxLen) (i s : Int) (hi : 0 ≤ i) {k : Nat} (hk : 300 ≤ k) : ∃ n rs i' s', spec_l3Draw.f k l i s = some (n, rs, i', s') ∧ 0 ≤ i' ∧ rs.length ≤ 6 := by
  unfold spec_l3Draw.f
  obtain ⟨b, i1, s1, e, h1⟩ := l1PickInt_ok l hm i s [0, 1, 2, 3, 3, 4, 4, 5, 5] hi (by decide) (by decide)
  rw [e]; simp only [Option.bind_some]
  obtain ⟨rs, i2, s2, e2, h3, h4⟩ := l3Make_ok l hm i1 s1 b 6 h1 (by decide) (by decide) hk
  rw [e2]; exact ⟨_, _, _, _, rfl, h3, by show rs.length ≤ 6; omega⟩
theorem l3Bent_loop (l : List Int) (n : Int) : ∀ (d k : Nat) (i s : Int) (rs : List Int), rs.length + d = 9 → d < k → ∃ rs', spec_l3Bent.l0 k l i s n rs = some (n, rs', i, s) ∧ rs'.length = 9
  | 0, k, i, s, rs, hl, hk => by
    obtain ⟨k, rfl⟩ : ∃ m, k = m + 1 := ⟨k - 1, by omega⟩
    simp only [spec_l3Bent.l0]
    rw [if_neg (by omega)]; exact ⟨_, rfl, by omega⟩
  | d + 1, k, i, s, rs, hl, hk => by
    obtain ⟨k, rfl⟩ : ∃ m, k = m + 1 := ⟨k - 1, by omega⟩
    simp only [spec_l3Bent.l0]
    rw [if_pos (by omega), if_pos (by omega)]
    exact l3Bent_loop l n d k i s _ (by simp; omega) (by omega)
theorem l3Bent_ok (l : List Int) (hm : l.length ≤ maxLen) (i s : Int) (hi : 0 ≤ i) {k : Nat} (hk : 300 ≤ k) : ∃ n rs i' s', spec_l3Bent.f k l i s = some (n, rs, i', s') ∧ 0 ≤ i' ∧ rs.length ≤ 9 := by
  unfold spec_l3Bent.f
  obtain ⟨n, rs, i1, s1, e, h1, hl⟩ := l3Draw_ok l hm i s hi hk
  rw [e]; simp only [Option.bind_some]
  obtain ⟨c, i2, s2, e2, h2, _⟩ := l1Below_ok l hm i1 s1 14 h1
  rw [e2]; simp only [Option.bind_some]
  by_cases c0 : c = 0
  · rw [if_pos c0]
    obtain ⟨b, i3, s3, e3, h3⟩ := l1PickInt_ok l hm i2 s2 [(-1), 0, 2, 7] h2 (by decide) (by decide)
    rw [e3]; exact ⟨_, _, _, _, rfl, h3, by show rs.length ≤ 9; omega⟩
  rw [if_neg c0]
  by_cases c1 : c = 1
  · rw [if_pos c1]
    obtain ⟨b, i3, s3, e3, h3⟩ := l2Bent_ok l hm i2 s2 h2
    rw [e3]; simp only [Option.bind_some]
    rw [if_pos (by omega)]; exact ⟨_, _, _, _, rfl, h3, by simp; omega⟩
  rw [if_neg c1]
  by_cases c2 : c = 2
  · rw [if_pos c2]
    obtain ⟨rs', e3, h3⟩ := l3Bent_loop l n (9 - rs.length) k i2 s2 rs (by omega) (by omega)
    exact ⟨_, _, _, _, e3, h2, by omega⟩
  · rw [if_neg c2]; exact ⟨_, _, _, _, rfl, h2, by show rs.length ≤ 9; omega⟩

theorem spec_IsSet_eq (n s : Int) : spec_IsSet.f n s = some (isSetB n s) := by
  unfold spec_IsSet.f spec_l1In.f isSetB
  by_cases h0 : 0 ≤ n
  · by_cases h1 : n ≤ 8
    · have hw := u64_small h0 (by omega)
      rw [hw, shl_full h0 h1]
      by_cases h2 : 0 ≤ s <;> simp [h0, h1, h2]
    · simp [h0, h1]
  · simp [h0]

theorem impl_IsSet_eq (n s : Int) : impl_IsSet.f n s = some (isSetB n s) := by
  unfold impl_IsSet.f impl_within.f isSetB
  by_cases h0 : 0 ≤ n
  · by_cases h1 : n ≤ 8
    · rw [shl_full h0 h1]
      by_cases h2 : 0 ≤ s <;> simp [h0, h1, h2]
    · simp [h0, h1]
  · simp [h0]

/-- Is it a context? -/
def ctxB (n : Int) (a : List Int) : Bool := decide (0 ≤ n ∧ n ≤ 6) && (decide (a.length ≤ 8) && a.all (isSetB n))
theorem ctxB_out {n : Int} {a : List Int} (h : ctxB n a = true) : 0 ≤ n ∧ n ≤ 6 ∧ a.length ≤ 8 ∧ ∀ x ∈ a, isSetB n x = true := by
  unfold ctxB at h
  simp only [Bool.and_eq_true, decide_eq_true_eq, List.all_eq_true] at h
  exact ⟨h.1.1, h.1.2, h.2.1, h.2.2⟩
theorem spec_IsContext_loop (n : Int) (a : List Int) (hn : a.length ≤ 281474976710656) : ∀ (d i k : Nat), i + d = a.length → d < k → spec_IsContext.l0 k (i : Int) n a = some (decide (0 ≤ n ∧ n ≤ 6) && (decide (a.length ≤ 8) && (a.drop i).all (isSetB n)))
  | 0, i, k, hi, hk => by
    obtain ⟨k, rfl⟩ : ∃ m, k = m + 1 := ⟨k - 1, by omega⟩
    simp only [spec_IsContext.l0]; rw [if_neg (by omega), List.drop_eq_nil_of_le (by omega)]
    unfold spec_l1In.f
    have e : decide ((a.length : Int) ≤ 8) = decide (a.length ≤ 8) := by rw [decide_eq_decide]; omega
    rw [e]
    by_cases h0 : 0 ≤ n
    · by_cases h1 : n ≤ 6 <;> simp [h0, h1]
    · simp [h0]
  | d + 1, i, k, hi, hk => by
    obtain ⟨k, rfl⟩ : ∃ m, k = m + 1 := ⟨k - 1, by omega⟩
    have h1 : i < a.length := by omega
    have ih := spec_IsContext_loop n a hn d (i + 1) k (by omega) (by omega)
    simp only [spec_IsContext.l0]
    rw [if_pos (by omega), if_pos (by omega), rd_nat a i h1, spec_IsSet_eq, Option.bind_some, List.drop_eq_getElem_cons h1, List.all_cons, wstep (n := a.length) (by omega) (by omega) hn]
    cases hs : isSetB n a[i] with
    | true => rw [if_pos rfl, show (i : Int) + 1 = ((i + 1 : Nat) : Int) from by omega, ih, Bool.true_and]
    | false => simp
theorem spec_IsContext_eq (n : Int) (a : List Int) (hn : a.length ≤ 281474976710656) {k : Nat} (hk : a.length < k) : spec_IsContext.f k n a = some (ctxB n a) := by
  unfold spec_IsContext.f ctxB
  have := spec_IsContext_loop n a hn a.length 0 k (by omega) hk
  simpa using this
theorem impl_IsContext_eq (n : Int) (a : List Int) : impl_IsContext.f n a = some (ctxB n a) := by
  unfold impl_IsContext.f ctxB impl_within.f
  have e : ∀ x, impl_IsContext.row n x = isSetB n x := fun x => by unfold impl_IsContext.row; rw [impl_IsSet_eq]; rfl
  have e2 : (!(a.any fun x => !impl_IsContext.row n x)) = a.all (isSetB n) := by
    simp only [e]
    induction a with
    | nil => rfl
    | cons x l ih => simp only [List.any_cons, List.all_cons, Bool.not_or, Bool.not_not, ih]
  rw [e2]
  by_cases h0 : 0 ≤ n
  · by_cases h1 : n ≤ 6
    · by_cases h2 : a.length ≤ 8
      · have h3 : (a.length : Int) ≤ 8 := by omega
        simp [h0, h1, h2, h3]
      · have h3 : ¬ (a.length : Int) ≤ 8 := by omega
        simp [h0, h1, h2, h3]
    · simp [h0, h1]
  · simp [h0]

/-- The rows of a set s of objects, from i on, d of them, met with acc. -/
def andFrom (a : List Int) (s : Nat) : Nat → Nat → Nat → Nat
  | _, 0, acc => acc
  | i, d + 1, acc => andFrom a s (i + 1) d (if s.testBit i then acc &&& row a i else acc)
theorem andFrom_bit (a : List Int) (s m : Nat) : ∀ (d i acc : Nat), (andFrom a s i d acc).testBit m = true ↔ acc.testBit m = true ∧ ∀ g, i ≤ g → g < i + d → s.testBit g = true → (row a g).testBit m = true
  | 0, i, acc => by simp only [andFrom]; exact ⟨fun h => ⟨h, fun g h1 h2 => absurd h2 (by omega)⟩, fun h => h.1⟩
  | d + 1, i, acc => by
    simp only [andFrom]
    rw [andFrom_bit a s m d (i + 1)]
    cases hs : s.testBit i with
    | true =>
      rw [if_pos rfl, Nat.testBit_and, Bool.and_eq_true]
      constructor
      · rintro ⟨⟨h1, h2⟩, h3⟩
        refine ⟨h1, fun g hg hg2 hb => ?_⟩
        by_cases e : g = i
        · subst e; exact h2
        · exact h3 g (by omega) (by omega) hb
      · rintro ⟨h1, h2⟩
        exact ⟨⟨h1, h2 i (Nat.le_refl _) (by omega) hs⟩, fun g hg hg2 => h2 g (by omega) (by omega)⟩
    | false =>
      rw [if_neg (by simp)]
      constructor
      · rintro ⟨h1, h3⟩
        refine ⟨h1, fun g hg hg2 hb => ?_⟩
        by_cases e : g = i
        · subst e; rw [hs] at hb; cases hb
        · exact h3 g (by omega) (by omega) hb
      · rintro ⟨h1, h2⟩
        exact ⟨h1, fun g hg hg2 => h2 g (by omega) (by omega)⟩
theorem andFrom_lt (a : List Int) (s : Nat) : ∀ (d i acc : Nat) (n : Nat), acc < 2 ^ n → andFrom a s i d acc < 2 ^ n := by
  intro d i acc n h
  refine lt_of_bits fun m hm => ?_
  have h1 := ((andFrom_bit a s m d i acc).1 hm).1
  apply Decidable.byContradiction
  intro hlt
  rw [lt_bits h (by omega)] at h1
  cases h1
/-- The attributes that all objects of s have. -/
def intentN (n : Nat) (a : List Int) (s : Nat) : Nat := andFrom a s 0 a.length (2 ^ n - 1)
theorem intentN_lt (n : Nat) (a : List Int) (s : Nat) : intentN n a s < 2 ^ n := andFrom_lt a s _ _ _ n (Nat.sub_lt (Nat.two_pow_pos n) (by decide))
theorem intentN_bit (n : Nat) (a : List Int) (s m : Nat) : (intentN n a s).testBit m = true ↔ m < n ∧ ∀ g, g < a.length → s.testBit g = true → (row a g).testBit m = true := by
  unfold intentN
  rw [andFrom_bit, full_bit, decide_eq_true_eq]
  exact ⟨fun h => ⟨h.1, fun g hg => h.2 g (Nat.zero_le _) (by omega)⟩, fun h => ⟨h.1, fun g _ hg => h.2 g (by omega)⟩⟩
/-- The objects from i on whose rows have all of t, joined with acc. -/
def extFrom (a : List Int) (t : Nat) : Nat → Nat → Nat → Nat
  | _, 0, acc => acc
  | i, d + 1, acc => extFrom a t (i + 1) d (if row a i &&& t = t then acc ||| 2 ^ i else acc)
theorem extFrom_bit (a : List Int) (t g : Nat) : ∀ (d i acc : Nat), (extFrom a t i d acc).testBit g = true ↔ acc.testBit g = true ∨ (i ≤ g ∧ g < i + d ∧ row a g &&& t = t)
  | 0, i, acc => by simp only [extFrom]; exact ⟨fun h => .inl h, fun h => h.elim id (fun h => absurd h.2.1 (by omega))⟩
  | d + 1, i, acc => by
    simp only [extFrom]
    rw [extFrom_bit a t g d (i + 1)]
    by_cases hs : row a i &&& t = t
    · rw [if_pos hs, Nat.testBit_or, two_pow_bit, Bool.or_eq_true, decide_eq_true_eq]
      constructor
      · rintro ((h | rfl) | ⟨h1, h2, h3⟩)
        · exact .inl h
        · exact .inr ⟨Nat.le_refl _, by omega, hs⟩
        · exact .inr ⟨by omega, by omega, h3⟩
      · rintro (h | ⟨h1, h2, h3⟩)
        · exact .inl (.inl h)
        · by_cases e : i = g
          · exact .inl (.inr e)
          · exact .inr ⟨by omega, by omega, h3⟩
    · rw [if_neg hs]
      constructor
      · rintro (h | ⟨h1, h2, h3⟩)
        · exact .inl h
        · exact .inr ⟨by omega, by omega, h3⟩
      · rintro (h | ⟨h1, h2, h3⟩)
        · exact .inl h
        · by_cases e : i = g
          · subst e; exact absurd h3 hs
          · exact .inr ⟨by omega, by omega, h3⟩
/-- The objects that have all attributes of t. -/
def extentN (a : List Int) (t : Nat) : Nat := extFrom a t 0 a.length 0
theorem and_eq_bits (x t : Nat) : x &&& t = t ↔ ∀ m, t.testBit m = true → x.testBit m = true := by
  constructor
  · intro h m hm
    have := congrArg (fun z : Nat => z.testBit m) h
    simp only [Nat.testBit_and, hm, Bool.and_true] at this
    exact this
  · intro h
    apply Nat.eq_of_testBit_eq; intro i
    rw [Nat.testBit_and]
    cases ht : t.testBit i with
    | true => rw [h i ht]; rfl
    | false => simp
theorem extentN_bit (a : List Int) (t g : Nat) : (extentN a t).testBit g = true ↔ g < a.length ∧ ∀ m, t.testBit m = true → (row a g).testBit m = true := by
  unfold extentN
  rw [extFrom_bit, Nat.zero_testBit, and_eq_bits]
  constructor
  · rintro (h | h)
    · cases h
    · exact ⟨by omega, h.2.2⟩
  · intro h; exact .inr ⟨Nat.zero_le _, by omega, h.2⟩
theorem extentN_lt (a : List Int) (t : Nat) : extentN a t < 2 ^ a.length := lt_of_bits fun g hg => ((extentN_bit a t g).1 hg).1
/-- The objects from i on that have the attribute m, joined with acc. -/
def colFrom (a : List Int) (m : Nat) : Nat → Nat → Nat → Nat
  | _, 0, acc => acc
  | i, d + 1, acc => colFrom a m (i + 1) d (acc ||| (if (row a i).testBit m then 2 ^ i else 0))
theorem colFrom_bit (a : List Int) (m g : Nat) : ∀ (d i acc : Nat), (colFrom a m i d acc).testBit g = true ↔ acc.testBit g = true ∨ (i ≤ g ∧ g < i + d ∧ (row a g).testBit m = true)
  | 0, i, acc => by simp only [colFrom]; exact ⟨fun h => .inl h, fun h => h.elim id (fun h => absurd h.2.1 (by omega))⟩
  | d + 1, i, acc => by
    simp only [colFrom]
    rw [colFrom_bit a m g d (i + 1), Nat.testBit_or, Bool.or_eq_true]
    cases hs : (row a i).testBit m with
    | true =>
      rw [if_pos rfl, two_pow_bit, decide_eq_true_eq]
      constructor
      · rintro ((h | rfl) | ⟨h1, h2, h3⟩)
        · exact .inl h
        · exact .inr ⟨Nat.le_refl _, by omega, hs⟩
        · exact .inr ⟨by omega, by omega, h3⟩
      · rintro (h | ⟨h1, h2, h3⟩)
        · exact .inl (.inl h)
        · by_cases e : i = g
          · exact .inl (.inr e)
          · exact .inr ⟨by omega, by omega, h3⟩
    | false =>
      rw [if_neg (by simp), Nat.zero_testBit]
      constructor
      · rintro ((h | h) | ⟨h1, h2, h3⟩)
        · exact .inl h
        · cases h
        · exact .inr ⟨by omega, by omega, h3⟩
      · rintro (h | ⟨h1, h2, h3⟩)
        · exact .inl (.inl h)
        · by_cases e : i = g
          · subst e; rw [hs] at h3; cases h3
          · exact .inr ⟨by omega, by omega, h3⟩
/-- The objects that have the attribute m. -/
def colN (a : List Int) (m : Nat) : Nat := colFrom a m 0 a.length 0
theorem colN_bit (a : List Int) (m g : Nat) : (colN a m).testBit g = true ↔ g < a.length ∧ (row a g).testBit m = true := by
  unfold colN
  rw [colFrom_bit, Nat.zero_testBit]
  constructor
  · rintro (h | h)
    · cases h
    · exact ⟨by omega, h.2.2⟩
  · intro h; exact .inr ⟨Nat.zero_le _, by omega, h.2⟩
theorem colN_lt (a : List Int) (m : Nat) : colN a m < 2 ^ a.length := lt_of_bits fun g hg => ((colN_bit a m g).1 hg).1
theorem ctx_rows {n : Int} {a : List Int} (h : ctxB n a = true) : RowsOk a := fun x hx => by
  have := isSetB_bd ((ctxB_out h).2.2.2 x hx)
  omega
theorem ctx_row_lt {n : Nat} {a : List Int} (h : ctxB (n : Int) a = true) (g : Nat) : row a g < 2 ^ n := by
  unfold row
  by_cases hg : g < a.length
  · obtain ⟨t, ht, hl, _, _⟩ := isSet_nat ((ctxB_out h).2.2.2 a[g] (List.getElem_mem hg))
    rw [List.getD_eq_getElem?_getD, List.getElem?_eq_getElem hg, Option.getD_some, ht]; exact hl
  · rw [List.getD_eq_getElem?_getD, List.getElem?_eq_none (by omega)]; exact Nat.two_pow_pos n

theorem impl_areObjects_eq (n : Int) (a : List Int) (s : Int) : impl_areObjects.f n a s = some (ctxB n a && isSetB a.length s) := by
  unfold impl_areObjects.f
  rw [impl_IsContext_eq, Option.bind_some]
  cases ctxB n a <;> simp [impl_IsSet_eq]

theorem impl_isAnySet_eq (s : Int) : impl_isAnySet.f s = some (isSetB 8 s) := by
  unfold impl_isAnySet.f; rw [impl_IsSet_eq]; rfl

theorem impl_HasElement_eq (s e : Int) : impl_HasElement.f s e = some (isSetB 8 s && (decide (0 ≤ e ∧ e ≤ 7) && hasB s e)) := by
  unfold impl_HasElement.f impl_within.f
  rw [impl_isAnySet_eq]
  by_cases h : isSetB 8 s = true
  · have := isSetB_bd h
    by_cases h0 : 0 ≤ e
    · by_cases h1 : e ≤ 7
      · have h2 := bit_int (s := s) (e := e) (by omega) (by omega) h0 (by omega)
        simp [h, h0, h1, h2]
      · simp [h, h0, h1]
    · simp [h, h0]
  · simp [h]

def fullSet (n : Int) : Int := if 0 ≤ n ∧ n ≤ 8 then full n else 0

theorem impl_FullSet_eq (n : Int) : impl_FullSet.f n = some (fullSet n) := by
  unfold impl_FullSet.f impl_within.f fullSet
  by_cases h0 : 0 ≤ n
  · by_cases h1 : n ≤ 8
    · simp [h0, h1, shl_full h0 h1]
    · simp [h0, h1]
  · simp [h0]

theorem impl_common_loop (l : List Int) (hl : RowsOk l) (hn : l.length ≤ 8) (s : Nat) (hs : s < 256) : ∀ (d i k acc : Nat), i + d = l.length → d < k → acc < 256 → impl_common.l0 k (s : Int) (acc : Int) l (l.length : Int) (i : Int) = some ((andFrom l s i d acc : Nat) : Int)
  | 0, i, k, acc, hi, hk, _ => by
    obtain ⟨k, rfl⟩ : ∃ m, k = m + 1 := ⟨k - 1, by omega⟩
    simp only [impl_common.l0, andFrom]; rw [if_neg (by omega)]
  | d + 1, i, k, acc, hi, hk, hacc => by
    obtain ⟨k, rfl⟩ : ∃ m, k = m + 1 := ⟨k - 1, by omega⟩
    have h1 : i < l.length := by omega
    have hr := row_lt hl i
    have hh : impl_HasElement.f (s : Int) (i : Int) = some (s.testBit i) := by
      rw [impl_HasElement_eq, isSetB8, decide_eq_true (by omega : (0 : Int) ≤ (s : Int) ∧ (s : Int) ≤ 255), decide_eq_true (by omega : (0 : Int) ≤ (i : Int) ∧ (i : Int) ≤ 7)]; rfl
    simp only [impl_common.l0, andFrom]
    rw [if_pos (by omega), if_pos (by omega), if_pos (by omega), hh, Option.bind_some, rd_row hl h1, and_nat _ _ (by omega) (by omega), wstep (n := l.length) (by omega) (by omega) (by omega), show (i : Int) + 1 = ((i + 1 : Nat) : Int) from by omega]
    cases hb : s.testBit i with
    | true =>
      rw [if_pos rfl, if_pos rfl]
      exact impl_common_loop l hl hn s hs d (i + 1) k _ (by omega) (by omega) (Nat.lt_of_le_of_lt Nat.and_le_left hacc)
    | false =>
      rw [if_neg (by simp), if_neg (by simp)]
      exact impl_common_loop l hl hn s hs d (i + 1) k _ (by omega) (by omega) hacc
theorem impl_common_eq {l : List Int} (hl : RowsOk l) (hn : l.length ≤ 8) {s acc : Nat} (hs : s < 256) (hacc : acc < 256) {k : Nat} (hk : 9 ≤ k) : impl_common.f k l s acc = some ((andFrom l s 0 l.length acc : Nat) : Int) := by
  unfold impl_common.f
  exact impl_common_loop l hl hn s hs l.length 0 k acc (by omega) (by omega) hacc

/-- IntentOf. -/
def intentI (n : Int) (a : List Int) (s : Int) : Int := if ctxB n a && isSetB a.length s then ((intentN n.toNat a s.toNat : Nat) : Int) else 0
theorem impl_IntentOf_eq (n : Int) (a : List Int) (s : Int) {k : Nat} (hk : 9 ≤ k) : impl_IntentOf.f k n a s = some (intentI n a s) := by
  unfold impl_IntentOf.f intentI
  rw [impl_areObjects_eq, Option.bind_some]
  cases h : (ctxB n a && isSetB a.length s) with
  | false => simp
  | true =>
    rw [if_pos rfl, if_pos rfl]
    rw [Bool.and_eq_true] at h
    have hc := ctxB_out h.1
    obtain ⟨m, rfl⟩ := Int.eq_ofNat_of_zero_le hc.1
    obtain ⟨t, rfl, h1, h2, h3⟩ := isSet_nat h.2
    have hf := full_bd hc.1 (by omega)
    rw [impl_FullSet_eq, Option.bind_some]
    unfold fullSet
    rw [full_nat] at hf
    rw [if_pos (by omega), full_nat, impl_common_eq (ctx_rows h.1) hc.2.2.1 h3 (by omega) hk]
    rfl

theorem impl_areAttributes_eq (n : Int) (a : List Int) (s : Int) : impl_areAttributes.f n a s = some (ctxB n a && isSetB n s) := by
  unfold impl_areAttributes.f
  rw [impl_IsContext_eq, Option.bind_some]
  cases ctxB n a <;> simp [impl_IsSet_eq]

theorem shr_and_one (x m : Nat) (hx : x < 2 ^ 63) (hm : m ≤ 63) : Go.bits .and .i64 (shr .i64 (x : Int) (m : Int)) 1 = (((if x.testBit m then 1 else 0) : Nat) : Int) := by
  have h1 : shr .i64 (x : Int) (m : Int) = ((x / 2 ^ m : Nat) : Int) := by
    unfold shr
    rw [Int.toNat_natCast, Nat.min_eq_left (by simp [IntKind.bits]; omega)]
    simp
  have h2 : x / 2 ^ m < 2 ^ 63 := Nat.lt_of_le_of_lt (Nat.div_le_self _ _) hx
  rw [h1, show (1 : Int) = ((1 : Nat) : Int) from rfl, and_nat _ _ h2 (by decide), Nat.and_one_is_mod, Nat.testBit_eq_decide_div_mod_eq]
  congr 1
  rcases Nat.mod_two_eq_zero_or_one (x / 2 ^ m) with h | h <;> rw [h] <;> rfl
theorem impl_isAttribute_eq (n : Int) (a : List Int) (m : Int) : impl_isAttribute.f n a m = some (ctxB n a && decide (0 ≤ m ∧ m < n)) := by
  unfold impl_isAttribute.f impl_within.f
  rw [impl_IsContext_eq, Option.bind_some]
  cases h : ctxB n a with
  | false => simp
  | true =>
    have hc := ctxB_out h
    rw [if_pos rfl, w64 (by omega) (by omega)]
    by_cases h0 : 0 ≤ m
    · have e : decide (m ≤ n - 1) = decide (m < n) := by rw [decide_eq_decide]; omega
      simp [h0, e]
    · simp [h0]
theorem impl_ColumnOf_loop (a : List Int) (ha : RowsOk a) (hl : a.length ≤ 8) (m : Nat) (hm : m ≤ 63) : ∀ (d i k acc : Nat), i + d = a.length → d < k → acc < 2 ^ i → impl_ColumnOf.l0 k (m : Int) (acc : Int) a (a.length : Int) (i : Int) = some ((colFrom a m i d acc : Nat) : Int)
  | 0, i, k, acc, hi, hk, _ => by
    obtain ⟨k, rfl⟩ : ∃ m, k = m + 1 := ⟨k - 1, by omega⟩
    simp only [impl_ColumnOf.l0, colFrom]; rw [if_neg (by omega)]
  | d + 1, i, k, acc, hi, hk, hacc => by
    obtain ⟨k, rfl⟩ : ∃ m, k = m + 1 := ⟨k - 1, by omega⟩
    have h1 : i < a.length := by omega
    have hr := row_lt ha i
    have hp := pow_le8 (i := i) (by omega)
    have h2 : 2 ^ (i + 1) = 2 * 2 ^ i := by rw [Nat.pow_succ]; omega
    have hz : (if (row a i).testBit m then 2 ^ i else 0) = (if (row a i).testBit m then 1 else 0) * 2 ^ i := by cases (row a i).testBit m <;> simp
    have hz2 : (if (row a i).testBit m then 2 ^ i else 0) ≤ 2 ^ i := by cases (row a i).testBit m <;> simp
    simp only [impl_ColumnOf.l0, colFrom]
    rw [if_pos (by omega), if_pos (by omega), if_pos (by omega), if_pos (by omega), rd_row ha h1, shr_and_one _ _ (by omega) hm, shl_bit (by split <;> omega) (by omega), ← hz, or_nat _ _ (by omega) (by omega), wstep (n := a.length) (by omega) (by omega) (by omega), show (i : Int) + 1 = ((i + 1 : Nat) : Int) from by omega]
    exact impl_ColumnOf_loop a ha hl m hm d (i + 1) k _ (by omega) (by omega) (or_lt (by omega) (by omega))
/-- ColumnOf. -/
def columnI (n : Int) (a : List Int) (m : Int) : Int := if ctxB n a && decide (0 ≤ m ∧ m < n) then ((colN a m.toNat : Nat) : Int) else 0
theorem impl_ColumnOf_eq (n : Int) (a : List Int) (m : Int) {k : Nat} (hk : 9 ≤ k) : impl_ColumnOf.f k n a m = some (columnI n a m) := by
  unfold impl_ColumnOf.f columnI
  rw [impl_isAttribute_eq, Option.bind_some]
  cases h : (ctxB n a && decide (0 ≤ m ∧ m < n)) with
  | false => simp
  | true =>
    rw [Bool.and_eq_true, decide_eq_true_eq] at h
    have hc := ctxB_out h.1
    obtain ⟨m, rfl⟩ := Int.eq_ofNat_of_zero_le h.2.1
    rw [if_pos rfl, if_pos rfl]
    exact impl_ColumnOf_loop a (ctx_rows h.1) hc.2.2.1 m (by omega) a.length 0 k 0 (by omega) (by omega) (by simp)

/-- All columns. -/
def cols (n : Nat) (a : List Int) : List Int := (List.range n).map (fun m => ((colN a m : Nat) : Int))
theorem impl_columns_loop {n : Nat} {a : List Int} (h : ctxB (n : Int) a = true) : ∀ (d i k : Nat), i + d = n → d + 9 < k → impl_columns.l0 k (cols i a) (n : Int) (i : Int) (n : Int) a = some (cols n a)
  | 0, i, k, hi, hk => by
    obtain ⟨k, rfl⟩ : ∃ m, k = m + 1 := ⟨k - 1, by omega⟩
    simp only [impl_columns.l0]; rw [if_neg (by omega)]
    have : i = n := by omega
    rw [this]
  | d + 1, i, k, hi, hk => by
    obtain ⟨k, rfl⟩ : ∃ m, k = m + 1 := ⟨k - 1, by omega⟩
    have hc := ctxB_out h
    have hl : (cols i a).length = i := by unfold cols; rw [List.length_map, List.length_range]
    have e : columnI (n : Int) a (i : Int) = ((colN a i : Nat) : Int) := by
      unfold columnI
      rw [h, decide_eq_true (by omega : (0 : Int) ≤ (i : Int) ∧ (i : Int) < (n : Int))]; rfl
    have e2 : cols i a ++ [((colN a i : Nat) : Int)] = cols (i + 1) a := by unfold cols; rw [List.range_succ, List.map_append]; rfl
    simp only [impl_columns.l0]
    rw [if_pos (by omega), impl_ColumnOf_eq _ _ _ (by omega), Option.bind_some, if_pos (by omega), e, e2, wstep (n := n) (by omega) (by omega) (by omega), show (i : Int) + 1 = ((i + 1 : Nat) : Int) from by omega]
    exact impl_columns_loop h d (i + 1) k (by omega) (by omega)
theorem impl_columns_eq {n : Nat} {a : List Int} (h : ctxB (n : Int) a = true) {k : Nat} (hk : 20 ≤ k) : impl_columns.f k n a = some (cols n a) := by
  have hc := ctxB_out h
  unfold impl_columns.f
  exact impl_columns_loop h n 0 k (by omega) (by omega)

theorem cols_len (n : Nat) (a : List Int) : (cols n a).length = n := by unfold cols; rw [List.length_map, List.length_range]
theorem cols_row (n : Nat) (a : List Int) {m : Nat} (hm : m < n) : row (cols n a) m = colN a m := by
  unfold row cols
  rw [List.getD_eq_getElem?_getD, List.getElem?_eq_getElem (by rw [List.length_map, List.length_range]; exact hm), Option.getD_some, List.getElem_map, List.getElem_range, Int.toNat_natCast]
theorem cols_ok {n : Nat} {a : List Int} (h : ctxB (n : Int) a = true) : RowsOk (cols n a) := by
  intro x hx
  unfold cols at hx
  rw [List.mem_map] at hx
  obtain ⟨m, _, rfl⟩ := hx
  have h1 := colN_lt a m
  have h2 := pow_le8 (i := a.length) (by have := ctxB_out h; omega)
  omega
theorem common_extent {n : Nat} {a : List Int} {t : Nat} (ht : t < 2 ^ n) : andFrom (cols n a) t 0 (cols n a).length (2 ^ a.length - 1) = extentN a t := by
  apply Nat.eq_of_testBit_eq; intro g
  rw [Bool.eq_iff_iff, andFrom_bit, extentN_bit, full_bit, decide_eq_true_eq, cols_len]
  constructor
  · rintro ⟨h1, h2⟩
    refine ⟨h1, fun m hm => ?_⟩
    have hmn : m < n := by
      apply Decidable.byContradiction
      intro hlt
      rw [lt_bits ht (by omega)] at hm
      cases hm
    have := h2 m (Nat.zero_le _) (by omega) hm
    rw [cols_row n a hmn, colN_bit] at this
    exact this.2
  · rintro ⟨h1, h2⟩
    refine ⟨h1, fun m _ hm2 hb => ?_⟩
    rw [cols_row n a (by omega), colN_bit]
    exact ⟨h1, h2 m hb⟩
/-- ExtentOf. -/
def extentI (n : Int) (a : List Int) (t : Int) : Int := if ctxB n a && isSetB n t then ((extentN a t.toNat : Nat) : Int) else 0
theorem impl_ExtentOf_eq (n : Int) (a : List Int) (t : Int) {k : Nat} (hk : 20 ≤ k) : impl_ExtentOf.f k n a t = some (extentI n a t) := by
  unfold impl_ExtentOf.f extentI
  rw [impl_areAttributes_eq, Option.bind_some]
  cases h : (ctxB n a && isSetB n t) with
  | false => simp
  | true =>
    rw [if_pos rfl, if_pos rfl]
    rw [Bool.and_eq_true] at h
    have hc := ctxB_out h.1
    obtain ⟨m, rfl⟩ := Int.eq_ofNat_of_zero_le hc.1
    obtain ⟨t, rfl, h1, h2, h3⟩ := isSet_nat h.2
    have hf := full_bd (n := (a.length : Int)) (by omega) (by omega)
    rw [impl_columns_eq h.1 hk, Option.bind_some, impl_FullSet_eq, Option.bind_some]
    unfold fullSet
    rw [full_nat] at hf
    rw [if_pos (by omega), full_nat, impl_common_eq (cols_ok h.1) (by rw [cols_len]; omega) h3 (by omega) (by omega), common_extent h1]
    rfl

/-- ClosureOf. -/
def closureN (n : Nat) (a : List Int) (t : Nat) : Nat := intentN n a (extentN a t)
def closureI (n : Int) (a : List Int) (t : Int) : Int := if ctxB n a && isSetB n t then ((closureN n.toNat a t.toNat : Nat) : Int) else 0
theorem extent_set {a : List Int} (h : a.length ≤ 8) (t : Nat) : isSetB (a.length : Int) ((extentN a t : Nat) : Int) = true := isSet_mk h (extentN_lt a t)
theorem intent_set {n : Nat} (hn : n ≤ 8) (a : List Int) (s : Nat) : isSetB (n : Int) ((intentN n a s : Nat) : Int) = true := isSet_mk hn (intentN_lt n a s)
theorem extent_256 {a : List Int} (h : a.length ≤ 8) (t : Nat) : extentN a t < 256 := Nat.lt_of_lt_of_le (extentN_lt a t) (pow_le8 h)
theorem intent_256 {n : Nat} (hn : n ≤ 8) (a : List Int) (s : Nat) : intentN n a s < 256 := Nat.lt_of_lt_of_le (intentN_lt n a s) (pow_le8 hn)

theorem impl_ClosureOf_eq (n : Int) (a : List Int) (t : Int) {k : Nat} (hk : 20 ≤ k) : impl_ClosureOf.f k n a t = some (closureI n a t) := by
  unfold impl_ClosureOf.f closureI
  rw [impl_areAttributes_eq, Option.bind_some]
  cases h : (ctxB n a && isSetB n t) with
  | false => simp
  | true =>
    have h0 := h
    rw [Bool.and_eq_true] at h
    have hc := ctxB_out h.1
    obtain ⟨m, rfl⟩ := Int.eq_ofNat_of_zero_le hc.1
    obtain ⟨t, rfl, h1, h2, h3⟩ := isSet_nat h.2
    rw [if_pos rfl, if_pos rfl, impl_ExtentOf_eq _ _ _ hk, Option.bind_some, impl_IntentOf_eq _ _ _ (by omega), Option.bind_some]
    have e1 : extentI (m : Int) a (t : Int) = ((extentN a t : Nat) : Int) := by unfold extentI; rw [if_pos h0, Int.toNat_natCast]
    rw [e1]
    unfold intentI
    rw [h.1, extent_set hc.2.2.1, if_pos (by rfl)]
    rfl

def objClosureI (n : Int) (a : List Int) (s : Int) : Int := if ctxB n a && isSetB a.length s then ((extentN a (intentN n.toNat a s.toNat) : Nat) : Int) else 0
theorem impl_ObjectClosure_eq (n : Int) (a : List Int) (s : Int) {k : Nat} (hk : 20 ≤ k) : impl_ObjectClosure.f k n a s = some (objClosureI n a s) := by
  unfold impl_ObjectClosure.f objClosureI
  rw [impl_areObjects_eq, Option.bind_some]
  cases h : (ctxB n a && isSetB (a.length : Int) s) with
  | false => simp
  | true =>
    have h0 := h
    rw [Bool.and_eq_true] at h
    have hc := ctxB_out h.1
    obtain ⟨m, rfl⟩ := Int.eq_ofNat_of_zero_le hc.1
    obtain ⟨t, rfl, h1, h2, h3⟩ := isSet_nat h.2
    rw [if_pos rfl, if_pos rfl, impl_IntentOf_eq _ _ _ (by omega), Option.bind_some, impl_ExtentOf_eq _ _ _ hk, Option.bind_some]
    have e1 : intentI (m : Int) a (t : Int) = ((intentN m a t : Nat) : Int) := by unfold intentI; rw [if_pos h0, Int.toNat_natCast, Int.toNat_natCast]
    rw [e1]
    unfold extentI
    rw [h.1, intent_set (by omega), if_pos (by rfl)]
    rfl

theorem spec_l2Has_eq {s e : Int} (hs0 : 0 ≤ s) (hs : s < 9223372036854775808) (he0 : 0 ≤ e) (he : e ≤ 63) : spec_l2Has.f s e = some (hasB s e) := by
  unfold spec_l2Has.f
  rw [u64_small he0 (by omega), if_pos he0, bit_int hs0 hs he0 he]

theorem spec_FullSet_eq (n : Int) : spec_FullSet.f n = some (fullSet n) := by
  unfold spec_FullSet.f spec_l1In.f fullSet
  by_cases h0 : 0 ≤ n
  · by_cases h1 : n ≤ 8
    · have hw := u64_small h0 (by omega)
      simp [h0, h1, hw, shl_full h0 h1]
    · simp [h0, h1]
  · simp [h0]

theorem spec_l4Intent_loop (n : Int) (a : List Int) (ha : RowsOk a) (hl : a.length ≤ 8) (s : Nat) (hs : s < 256) : ∀ (d i k acc : Nat), i + d = a.length → d < k → acc < 256 → spec_l4Intent.l0 k (s : Int) (acc : Int) (i : Int) n a = some ((andFrom a s i d acc : Nat) : Int)
  | 0, i, k, acc, hi, hk, _ => by
    obtain ⟨k, rfl⟩ : ∃ m, k = m + 1 := ⟨k - 1, by omega⟩
    simp only [spec_l4Intent.l0, andFrom]; rw [if_neg (by omega)]
  | d + 1, i, k, acc, hi, hk, hacc => by
    obtain ⟨k, rfl⟩ : ∃ m, k = m + 1 := ⟨k - 1, by omega⟩
    have h1 : i < a.length := by omega
    have hr := row_lt ha i
    simp only [spec_l4Intent.l0, andFrom]
    rw [if_pos (by omega), spec_l2Has_eq (by omega) (by omega) (by omega) (by omega), Option.bind_some, show hasB (s : Int) (i : Int) = s.testBit i from rfl, rd_row ha h1, and_nat _ _ (by omega) (by omega), wstep (n := a.length) (by omega) (by omega) (by omega), show (i : Int) + 1 = ((i + 1 : Nat) : Int) from by omega]
    cases hb : s.testBit i with
    | true =>
      rw [if_pos rfl, if_pos (by omega), if_pos rfl]
      exact spec_l4Intent_loop n a ha hl s hs d (i + 1) k _ (by omega) (by omega) (Nat.lt_of_le_of_lt Nat.and_le_left hacc)
    | false =>
      rw [if_neg (by simp), if_neg (by simp)]
      exact spec_l4Intent_loop n a ha hl s hs d (i + 1) k _ (by omega) (by omega) hacc
theorem spec_l4Intent_eq {n : Nat} {a : List Int} (h : ctxB (n : Int) a = true) {s : Nat} (hs : s < 256) {k : Nat} (hk : 9 ≤ k) : spec_l4Intent.f k n a s = some ((intentN n a s : Nat) : Int) := by
  have hc := ctxB_out h
  have hf := full_bd hc.1 (by omega)
  unfold spec_l4Intent.f
  rw [spec_FullSet_eq, Option.bind_some]
  unfold fullSet
  rw [full_nat] at hf
  rw [if_pos (by omega), full_nat]
  exact spec_l4Intent_loop n a (ctx_rows h) hc.2.2.1 s hs a.length 0 k _ (by omega) (by omega) (by omega)

theorem spec_l4Extent_loop (n : Int) (a : List Int) (ha : RowsOk a) (hl : a.length ≤ 8) (t : Nat) (ht : t < 256) : ∀ (d i k acc : Nat), i + d = a.length → d < k → acc < 2 ^ i → spec_l4Extent.l0 k (t : Int) (acc : Int) (i : Int) n a = some ((extFrom a t i d acc : Nat) : Int)
  | 0, i, k, acc, hi, hk, _ => by
    obtain ⟨k, rfl⟩ : ∃ m, k = m + 1 := ⟨k - 1, by omega⟩
    simp only [spec_l4Extent.l0, extFrom]; rw [if_neg (by omega)]
  | d + 1, i, k, acc, hi, hk, hacc => by
    obtain ⟨k, rfl⟩ : ∃ m, k = m + 1 := ⟨k - 1, by omega⟩
    have h1 : i < a.length := by omega
    have hr := row_lt ha i
    have hp := pow_le8 (i := i) (by omega)
    simp only [spec_l4Extent.l0, extFrom]
    rw [if_pos (by omega), if_pos (by omega), rd_row ha h1, and_nat _ _ (by omega) (by omega), u64_small (by omega) (by omega), if_pos (show (0 : Int) ≤ (i : Int) by omega), shl_one (by omega), or_nat _ _ (by omega) (by omega), wstep (n := a.length) (by omega) (by omega) (by omega), show (i : Int) + 1 = ((i + 1 : Nat) : Int) from by omega]
    have h2 : 2 ^ (i + 1) = 2 * 2 ^ i := by rw [Nat.pow_succ]; omega
    by_cases hb : row a i &&& t = t
    · rw [if_pos (by omega), if_pos hb]
      exact spec_l4Extent_loop n a ha hl t ht d (i + 1) k _ (by omega) (by omega) (or_lt (by omega) (by omega))
    · rw [if_neg (by omega), if_neg hb]
      exact spec_l4Extent_loop n a ha hl t ht d (i + 1) k _ (by omega) (by omega) (by omega)
theorem spec_l4Extent_eq {n : Int} {a : List Int} (h : ctxB n a = true) {t : Nat} (ht : t < 256) {k : Nat} (hk : 9 ≤ k) : spec_l4Extent.f k n a t = some ((extentN a t : Nat) : Int) := by
  have hc := ctxB_out h
  unfold spec_l4Extent.f
  exact spec_l4Extent_loop n a (ctx_rows h) hc.2.2.1 t ht a.length 0 k 0 (by omega) (by omega) (by simp)

theorem spec_l4Closure_eq {n : Nat} {a : List Int} (h : ctxB (n : Int) a = true) {t : Nat} (ht : t < 256) {k : Nat} (hk : 9 ≤ k) : spec_l4Closure.f k n a t = some ((closureN n a t : Nat) : Int) := by
  have hc := ctxB_out h
  unfold spec_l4Closure.f
  rw [spec_l4Extent_eq h ht hk, Option.bind_some, spec_l4Intent_eq h (extent_256 hc.2.2.1 t) hk]
  rfl

theorem spec_ClosureOf_eq (n : Int) (a : List Int) (t : Int) (hn : a.length ≤ 281474976710656) {k : Nat} (hk : a.length + 9 ≤ k) : spec_ClosureOf.f k n a t = some (closureI n a t) := by
  unfold spec_ClosureOf.f closureI
  rw [spec_IsContext_eq n a hn (by omega), Option.bind_some]
  cases h1 : ctxB n a with
  | false => simp
  | true =>
    rw [if_pos rfl, spec_IsSet_eq, Option.bind_some, Bool.true_and]
    cases h2 : isSetB n t with
    | false => simp
    | true =>
      have hc := ctxB_out h1
      obtain ⟨m, rfl⟩ := Int.eq_ofNat_of_zero_le hc.1
      obtain ⟨t, rfl, h3, h4, h5⟩ := isSet_nat h2
      rw [if_pos rfl, spec_l4Closure_eq h1 h5 (by omega)]
      rfl

theorem spec_ObjectClosure_eq (n : Int) (a : List Int) (s : Int) (hn : a.length ≤ 281474976710656) {k : Nat} (hk : a.length + 12 ≤ k) : spec_ObjectClosure.f k n a s = some (objClosureI n a s) := by
  obtain ⟨k, rfl⟩ : ∃ m, k = m + 1 := ⟨k - 1, by omega⟩
  unfold spec_ObjectClosure.f objClosureI
  rw [spec_IsContext_eq n a hn (by omega), Option.bind_some]
  cases h1 : ctxB n a with
  | false => simp [spec_ObjectClosure.j0]
  | true =>
    rw [if_pos rfl, spec_IsSet_eq, Option.bind_some, Bool.true_and]
    cases h2 : isSetB (a.length : Int) s with
    | false => simp [spec_ObjectClosure.j0]
    | true =>
      have hc := ctxB_out h1
      obtain ⟨m, rfl⟩ := Int.eq_ofNat_of_zero_le hc.1
      obtain ⟨t, rfl, h3, h4, h5⟩ := isSet_nat h2
      have e1 := spec_l4Intent_eq h1 h5 (k := k) (by omega)
      have e2 := spec_l4Extent_eq h1 (intent_256 (n := m) (by omega) a t) (k := k) (by omega)
      simp [spec_ObjectClosure.j0, e1, e2]

def isClosedB (n : Int) (a : List Int) (t : Int) : Bool := (ctxB n a && isSetB n t) && (closureI n a t == t)
theorem impl_IsClosed_eq (n : Int) (a : List Int) (t : Int) {k : Nat} (hk : 20 ≤ k) : impl_IsClosed.f k n a t = some (isClosedB n a t) := by
  unfold impl_IsClosed.f isClosedB
  rw [impl_areAttributes_eq, Option.bind_some, impl_ClosureOf_eq _ _ _ hk]
  cases h : (ctxB n a && isSetB n t) <;> simp

theorem spec_IsClosed_eq (n : Int) (a : List Int) (t : Int) (hn : a.length ≤ 281474976710656) {k : Nat} (hk : a.length + 9 ≤ k) : spec_IsClosed.f k n a t = some (isClosedB n a t) := by
  unfold spec_IsClosed.f isClosedB
  rw [spec_IsContext_eq n a hn (by omega), Option.bind_some]
  cases h1 : ctxB n a with
  | false => simp
  | true =>
    rw [if_pos rfl, spec_IsSet_eq, Option.bind_some, Bool.true_and]
    cases h2 : isSetB n t with
    | false => simp
    | true =>
      have hc := ctxB_out h1
      have e0 : closureI n a t = ((closureN n.toNat a t.toNat : Nat) : Int) := by unfold closureI; rw [h1, h2, if_pos (by rfl)]
      rw [e0]
      obtain ⟨m, rfl⟩ := Int.eq_ofNat_of_zero_le hc.1
      obtain ⟨t, rfl, h3, h4, h5⟩ := isSet_nat h2
      rw [if_pos rfl, spec_l4Closure_eq h1 h5 (by omega)]
      simp

theorem spec_ExtentOf_eq (n : Int) (a : List Int) (t : Int) (hn : a.length ≤ 281474976710656) {k : Nat} (hk : a.length + 9 ≤ k) : spec_ExtentOf.f k n a t = some (extentI n a t) := by
  unfold spec_ExtentOf.f extentI
  rw [spec_IsContext_eq n a hn (by omega), Option.bind_some]
  cases h1 : ctxB n a with
  | false => simp
  | true =>
    rw [if_pos rfl, spec_IsSet_eq, Option.bind_some, Bool.true_and]
    cases h2 : isSetB n t with
    | false => simp
    | true =>
      have hc := ctxB_out h1
      obtain ⟨m, rfl⟩ := Int.eq_ofNat_of_zero_le hc.1
      obtain ⟨t, rfl, h3, h4, h5⟩ := isSet_nat h2
      rw [if_pos rfl, spec_l4Extent_eq h1 h5 (by omega)]
      rfl

theorem spec_IntentOf_eq (n : Int) (a : List Int) (s : Int) (hn : a.length ≤ 281474976710656) {k : Nat} (hk : a.length + 9 ≤ k) : spec_IntentOf.f k n a s = some (intentI n a s) := by
  unfold spec_IntentOf.f intentI
  rw [spec_IsContext_eq n a hn (by omega), Option.bind_some]
  cases h1 : ctxB n a with
  | false => simp
  | true =>
    rw [if_pos rfl, spec_IsSet_eq, Option.bind_some, Bool.true_and]
    cases h2 : isSetB (a.length : Int) s with
    | false => simp
    | true =>
      have hc := ctxB_out h1
      obtain ⟨m, rfl⟩ := Int.eq_ofNat_of_zero_le hc.1
      obtain ⟨t, rfl, h3, h4, h5⟩ := isSet_nat h2
      rw [if_pos rfl, spec_l4Intent_eq h1 h5 (by omega)]
      rfl

theorem spec_IsSubset_eq (s t : Int) : spec_IsSubset.f s t = some (isSetB 8 s && (isSetB 8 t && (dif s.toNat t.toNat == 0))) := by
  unfold spec_IsSubset.f
  rw [spec_IsSet_eq, spec_IsSet_eq]
  by_cases h : isSetB 8 s = true
  · by_cases h' : isSetB 8 t = true
    · have h1 := isSetB_bd h
      have h2 := isSetB_bd h'
      obtain ⟨a, rfl⟩ := Int.eq_ofNat_of_zero_le h1.2.2.1
      obtain ⟨b, rfl⟩ := Int.eq_ofNat_of_zero_le h2.2.2.1
      have e := and_eq_iff_dif a b
      simp only [h, h', Option.bind_some, if_true, Int.toNat_natCast, Bool.true_and, Option.some.injEq]
      rw [show Go.bits .and .i64 (a : Int) (b : Int) = _ from and_nat a b (by omega) (by omega), Bool.eq_iff_iff]
      simp only [beq_iff_eq]
      rw [← e]; omega
    · simp [h, h']
  · simp [h]

theorem DrawIntentOf_ok (l : List Int) (hm : l.length ≤ maxLen) {k : Nat} (hk : 4001 ≤ k) : ∃ n rs s, spec_DrawIntentOf.f k l = some (n, rs, s) ∧ rs.length ≤ 9 := by
  unfold spec_DrawIntentOf.f spec_l4Objects.f
  obtain ⟨s0, e0⟩ := l1New_ok l hm hk
  rw [e0]; simp only [Option.bind_some]
  obtain ⟨n, rs, i1, s1, e1, h1, hl⟩ := l3Draw_ok l hm 0 s0 (by decide) (k := k) (by omega)
  rw [e1]; simp only [Option.bind_some]
  rw [if_pos (u64_nonneg _)]
  obtain ⟨a, i2, s2, e2, h2, _⟩ := l1Below_ok l hm i1 s1 (shl .i64 1 (IntKind.u64.wrap (rs.length : Int))) h1
  rw [e2]; simp only [Option.bind_some]
  obtain ⟨c, i3, s3, e3, h3, _⟩ := l1Below_ok l hm i2 s2 16 h2
  rw [e3]; simp only [Option.bind_some]
  by_cases c0 : c = 0
  · rw [if_pos c0]
    obtain ⟨n', rs', i4, s4, e4, _, hl4⟩ := l3Bent_ok l hm i3 s3 h3 (k := k) (by omega)
    rw [e4]; exact ⟨_, _, _, rfl, hl4⟩
  rw [if_neg c0]
  by_cases c1 : c = 1
  · rw [if_pos c1]
    obtain ⟨b, i4, s4, e4, _⟩ := l2Bent_ok l hm i3 s3 h3
    rw [e4]; exact ⟨_, _, _, rfl, by show rs.length ≤ 9; omega⟩
  · rw [if_neg c1]; exact ⟨_, _, _, rfl, by show rs.length ≤ 9; omega⟩
theorem DrawExtentOf_ok (l : List Int) (hm : l.length ≤ maxLen) {k : Nat} (hk : 4001 ≤ k) : ∃ n rs s, spec_DrawExtentOf.f k l = some (n, rs, s) ∧ rs.length ≤ 9 := by
  unfold spec_DrawExtentOf.f spec_l4Attributes.f
  obtain ⟨s0, e0⟩ := l1New_ok l hm hk
  rw [e0]; simp only [Option.bind_some]
  obtain ⟨n, rs, i1, s1, e1, h1, hl⟩ := l3Draw_ok l hm 0 s0 (by decide) (k := k) (by omega)
  rw [e1]; simp only [Option.bind_some]
  rw [if_pos (u64_nonneg _)]
  obtain ⟨a, i2, s2, e2, h2, _⟩ := l1Below_ok l hm i1 s1 (shl .i64 1 (IntKind.u64.wrap n)) h1
  rw [e2]; simp only [Option.bind_some]
  obtain ⟨c, i3, s3, e3, h3, _⟩ := l1Below_ok l hm i2 s2 16 h2
  rw [e3]; simp only [Option.bind_some]
  by_cases c0 : c = 0
  · rw [if_pos c0]
    obtain ⟨n', rs', i4, s4, e4, _, hl4⟩ := l3Bent_ok l hm i3 s3 h3 (k := k) (by omega)
    rw [e4]; exact ⟨_, _, _, rfl, hl4⟩
  rw [if_neg c0]
  by_cases c1 : c = 1
  · rw [if_pos c1]
    obtain ⟨b, i4, s4, e4, _⟩ := l2Bent_ok l hm i3 s3 h3
    rw [e4]; exact ⟨_, _, _, rfl, by show rs.length ≤ 9; omega⟩
  · rw [if_neg c1]; exact ⟨_, _, _, rfl, by show rs.length ≤ 9; omega⟩
theorem dif_zero {a b : Nat} (h : ∀ i, a.testBit i = true → b.testBit i = true) : dif a b = 0 := by
  apply Nat.eq_of_testBit_eq; intro i
  rw [dif_bit, Nat.zero_testBit]
  cases ha : a.testBit i
  · rfl
  · rw [h i ha]; rfl
theorem dif_sub {a b : Nat} (h : dif a b = 0) {i : Nat} (ha : a.testBit i = true) : b.testBit i = true := by
  have h1 := dif_bit a b i
  rw [h, Nat.zero_testBit, ha] at h1
  cases hb : b.testBit i
  · rw [hb] at h1; cases h1
  · rfl
theorem eq_bits {a b : Nat} (h : ∀ i, a.testBit i = true ↔ b.testBit i = true) : a = b := Nat.eq_of_testBit_eq fun i => Bool.eq_iff_iff.mpr (h i)
theorem sub_closure {n : Nat} {a : List Int} {t : Nat} (ht : t < 2 ^ n) {m : Nat} (hm : t.testBit m = true) : (closureN n a t).testBit m = true :=
  (intentN_bit n a _ m).2 ⟨Decidable.byContradiction fun hlt => absurd hm (by rw [lt_bits ht (by omega)]; decide), fun g _ hb => ((extentN_bit a t g).1 hb).2 m hm⟩
theorem extent_closure {n : Nat} {a : List Int} {t : Nat} (ht : t < 2 ^ n) : extentN a (closureN n a t) = extentN a t := by
  refine eq_bits fun g => ⟨fun h => ?_, fun h => ?_⟩
  · have h1 := (extentN_bit a _ g).1 h
    exact (extentN_bit a t g).2 ⟨h1.1, fun m hm => h1.2 m (sub_closure ht hm)⟩
  · have h1 := (extentN_bit a t g).1 h
    exact (extentN_bit a _ g).2 ⟨h1.1, fun m hm => ((intentN_bit n a _ m).1 hm).2 g h1.1 h⟩
theorem sub_objclosure {n : Nat} {a : List Int} {s : Nat} (hs : s < 2 ^ a.length) {g : Nat} (hg : s.testBit g = true) : (extentN a (intentN n a s)).testBit g = true := by
  have hgl : g < a.length := by apply Decidable.byContradiction; intro hlt; rw [lt_bits hs (by omega)] at hg; cases hg
  exact (extentN_bit a _ g).2 ⟨hgl, fun m hm => ((intentN_bit n a s m).1 hm).2 g hgl hg⟩
theorem intent_objclosure {n : Nat} {a : List Int} {s : Nat} (hs : s < 2 ^ a.length) : intentN n a (extentN a (intentN n a s)) = intentN n a s := by
  refine eq_bits fun m => ⟨fun h => ?_, fun h => ?_⟩
  · have h1 := (intentN_bit n a _ m).1 h
    exact (intentN_bit n a s m).2 ⟨h1.1, fun g hg hb => h1.2 g hg (sub_objclosure hs hb)⟩
  · have h1 := (intentN_bit n a s m).1 h
    exact (intentN_bit n a _ m).2 ⟨h1.1, fun g hg hb => ((extentN_bit a _ g).1 hb).2 m h⟩
theorem subset_nat {a b : Nat} (ha : a < 256) (hb : b < 256) : spec_IsSubset.f (a : Int) (b : Int) = some (dif a b == 0) := by
  rw [spec_IsSubset_eq, isSetB8, isSetB8, Int.toNat_natCast, Int.toNat_natCast]
  have h1 : decide ((0 : Int) ≤ (a : Int) ∧ (a : Int) ≤ 255) = true := decide_eq_true (by omega)
  have h2 : decide ((0 : Int) ≤ (b : Int) ∧ (b : Int) ≤ 255) = true := decide_eq_true (by omega)
  rw [h1, h2]; rfl
theorem der_l0 (n : Nat) (a : List Int) (t : Nat) (hc : ctxB (n : Int) a = true) (ht : t < 2 ^ n) (hn : n ≤ 8) (hl : a.length ≤ 8) : ∀ (d x k : Nat), x + d = 2 ^ n → d + 40 < k → laws_FnDerivation.l0 k (t : Int) ((extentN a t : Nat) : Int) (x : Int) (n : Int) a = some true
  | 0, x, k, hx, hk => by
    obtain ⟨k, rfl⟩ : ∃ m, k = m + 1 := ⟨k - 1, by omega⟩
    simp only [laws_FnDerivation.l0]
    have hp := Nat.two_pow_pos n
    have hf : fullSet (n : Int) = ((2 ^ n - 1 : Nat) : Int) := by unfold fullSet; rw [if_pos (by omega), full_nat]
    rw [spec_FullSet_eq, Option.bind_some, hf, if_neg (by omega)]
  | d + 1, x, k, hx, hk => by
    obtain ⟨k, rfl⟩ : ∃ m, k = m + 1 := ⟨k - 1, by omega⟩
    have ih := der_l0 n a t hc ht hn hl d (x + 1) k (by omega) (by omega)
    have hp := pow_le8 hn
    have hx2 : x < 2 ^ n := by omega
    simp only [laws_FnDerivation.l0]
    have hf : fullSet (n : Int) = ((2 ^ n - 1 : Nat) : Int) := by unfold fullSet; rw [if_pos (by omega), full_nat]
    have ew : wrap64 ((x : Int) + 1) = ((x + 1 : Nat) : Int) := by rw [w64 (by omega) (by omega)]; omega
    rw [spec_FullSet_eq, Option.bind_some, hf, if_pos (by omega), subset_nat (by omega) (by omega), Option.bind_some, ew, ih]
    by_cases hd : (dif t x == 0) = true
    · rw [if_pos hd, impl_ExtentOf_eq _ _ _ (by omega), Option.bind_some]
      have he : extentI (n : Int) a (x : Int) = ((extentN a x : Nat) : Int) := by
        unfold extentI; rw [hc, isSet_mk hn hx2]; rfl
      rw [he, subset_nat (extent_256 hl x) (extent_256 hl t), Option.bind_some]
      have hz : dif (extentN a x) (extentN a t) = 0 := dif_zero fun g hg => by
        have h1 := (extentN_bit a x g).1 hg
        exact (extentN_bit a t g).2 ⟨h1.1, fun m hm => h1.2 m (dif_sub (by simpa using hd) hm)⟩
      rw [hz]; rfl
    · rw [if_neg hd]
theorem der_j1 (n : Int) (a : List Int) (t : Int) (hl : a.length ≤ 9) {k : Nat} (hk : 400 ≤ k) : laws_FnDerivation.j1 k t (extentI n a t) (closureI n a t) false n a = some true := by
  obtain ⟨k, rfl⟩ : ∃ m, k = m + 1 := ⟨k - 1, by omega⟩
  simp only [laws_FnDerivation.j1]
  rw [if_neg (by simp), spec_IsContext_eq n a (by omega) (by omega), Option.bind_some]
  by_cases hc : ctxB n a = true
  · rw [if_pos hc, spec_IsSet_eq, Option.bind_some]
    by_cases hs : isSetB n t = true
    · rw [hs]
      obtain ⟨k, rfl⟩ : ∃ m, k = m + 1 := ⟨k - 1, by omega⟩
      obtain ⟨h0, h6, h8, _⟩ := ctxB_out hc
      obtain ⟨n, rfl⟩ : ∃ m : Nat, n = (m : Int) := ⟨n.toNat, by omega⟩
      obtain ⟨t, rfl, ht, hn8, ht2⟩ := isSet_nat hs
      have he : extentI (n : Int) a (t : Int) = ((extentN a t : Nat) : Int) := by unfold extentI; rw [hc, hs]; rfl
      have hx : closureI (n : Int) a (t : Int) = ((closureN n a t : Nat) : Int) := by unfold closureI; rw [hc, hs]; rfl
      have hcs : closureN n a t < 2 ^ n := intentN_lt n a _
      have hxs : isSetB (n : Int) ((closureN n a t : Nat) : Int) = true := isSet_mk hn8 hcs
      have he2 : extentI (n : Int) a ((closureN n a t : Nat) : Int) = ((extentN a t : Nat) : Int) := by unfold extentI; rw [hc, hxs, Int.toNat_natCast, extent_closure ht]; rfl
      have hx2 : closureI (n : Int) a ((closureN n a t : Nat) : Int) = ((closureN n a t : Nat) : Int) := by
        unfold closureI; rw [hc, hxs, Int.toNat_natCast, Int.toNat_natCast]; unfold closureN; rw [show intentN n a (extentN a t) = closureN n a t from rfl, extent_closure ht]; rfl
      have hsub : spec_IsSubset.f (t : Int) ((closureN n a t : Nat) : Int) = some (dif t (closureN n a t) == 0) := subset_nat ht2 (Nat.lt_of_lt_of_le hcs (pow_le8 hn8))
      have hcl : isClosedB (n : Int) a (t : Int) = (((closureN n a t : Nat) : Int) == (t : Int)) := by unfold isClosedB; rw [hc, hs, hx]; rfl
      simp only [laws_FnDerivation.j2]
      rw [if_neg (by simp), he, hx, impl_ExtentOf_eq _ _ _ (by omega), Option.bind_some, he2, if_pos rfl, hsub, Option.bind_some,
        dif_zero (fun m hm => sub_closure ht hm), if_pos (by rfl), impl_ClosureOf_eq _ _ _ (by omega), Option.bind_some, hx2, if_pos rfl, impl_IsClosed_eq _ _ _ (by omega), Option.bind_some, hcl, bne_self_eq_false]
      obtain ⟨k, rfl⟩ : ∃ m, k = m + 1 := ⟨k - 1, by omega⟩
      simp only [laws_FnDerivation.j3]
      rw [if_neg (by simp)]
      have hp := pow_le8 hn8
      exact der_l0 n a t hc ht hn8 h8 (2 ^ n) 0 k (by omega) (by omega)
    · have hs' : isSetB n t = false := by simpa using hs
      rw [hs']
      obtain ⟨k, rfl⟩ : ∃ m, k = m + 1 := ⟨k - 1, by omega⟩
      simp only [laws_FnDerivation.j2]; unfold extentI closureI
      rw [hs']; simp
  · have hc' : ctxB n a = false := by simpa using hc
    rw [if_neg hc]
    obtain ⟨k, rfl⟩ : ∃ m, k = m + 1 := ⟨k - 1, by omega⟩
    simp only [laws_FnDerivation.j2]; unfold extentI closureI
    rw [hc']; simp
theorem der_j0 (n : Int) (a : List Int) (s : Int) (n2 : Int) (a2 : List Int) (t : Int) (hl : a.length ≤ 9) (hl2 : a2.length ≤ 9) {k : Nat} (hk : 500 ≤ k) :
    laws_FnDerivation.j0 k s t (intentI n a s) (extentI n2 a2 t) (closureI n2 a2 t) (objClosureI n a s) false n a n2 a2 = some true := by
  obtain ⟨k, rfl⟩ : ∃ m, k = m + 1 := ⟨k - 1, by omega⟩
  have h1 := der_j1 n2 a2 t hl2 (k := k) (by omega)
  simp only [laws_FnDerivation.j0]
  rw [if_neg (by simp), spec_IsContext_eq n a (by omega) (by omega), Option.bind_some]
  by_cases hc : ctxB n a = true
  · rw [if_pos hc, spec_IsSet_eq, Option.bind_some]
    by_cases hs : isSetB (a.length : Int) s = true
    · obtain ⟨h0, h6, h8, _⟩ := ctxB_out hc
      obtain ⟨n, rfl⟩ : ∃ m : Nat, n = (m : Int) := ⟨n.toNat, by omega⟩
      obtain ⟨s, rfl, hs1, hn8, hs2⟩ := isSet_nat hs
      have ho : objClosureI (n : Int) a (s : Int) = ((extentN a (intentN n a s) : Nat) : Int) := by unfold objClosureI; rw [hc, hs]; rfl
      have hi : intentI (n : Int) a (s : Int) = ((intentN n a s : Nat) : Int) := by unfold intentI; rw [hc, hs]; rfl
      have hos : isSetB (a.length : Int) ((extentN a (intentN n a s) : Nat) : Int) = true := isSet_mk h8 (extentN_lt a _)
      have hi2 : intentI (n : Int) a ((extentN a (intentN n a s) : Nat) : Int) = ((intentN n a s : Nat) : Int) := by
        unfold intentI; rw [hc, hos, Int.toNat_natCast, Int.toNat_natCast, intent_objclosure hs1]; rfl
      rw [if_pos hs, ho, hi, impl_IntentOf_eq _ _ _ (by omega), Option.bind_some, hi2, if_pos rfl, subset_nat hs2 (extent_256 h8 _), Option.bind_some, dif_zero (fun g hg => sub_objclosure hs1 hg)]
      exact h1
    · rw [if_neg hs]; exact h1
  · rw [if_neg hc]; exact h1
theorem FnDerivation : laws_FnDerivation.Pure := by
  intro l hm hw
  obtain ⟨n, a, s, e1, hl⟩ := DrawIntentOf_ok l hm (k := 5000) (by decide)
  obtain ⟨n2, a2, t, e2, hl2⟩ := DrawExtentOf_ok l hm (k := 5000) (by decide)
  refine ⟨5000, ?_⟩
  unfold laws_FnDerivation.f laws_big.f
  rw [Option.bind_some]
  by_cases hb : decide ((l.length : Int) > 1048576) = true
  · rw [if_pos hb]
  · rw [if_neg hb, e1]; simp only [Option.bind_some]
    rw [e2]; simp only [Option.bind_some]
    rw [impl_IntentOf_eq n a s (by decide), impl_ExtentOf_eq n2 a2 t (by decide), impl_ClosureOf_eq n2 a2 t (by decide), impl_ObjectClosure_eq n a s (by decide), spec_IntentOf_eq n a s (by omega) (by omega), spec_ExtentOf_eq n2 a2 t (by omega) (by omega),
      spec_ClosureOf_eq n2 a2 t (by omega) (by omega), spec_ObjectClosure_eq n a s (by omega) (by omega), impl_IsClosed_eq n2 a2 t (by decide), spec_IsClosed_eq n2 a2 t (by omega) (by omega)]
    simp only [Option.bind_some, if_true, bne_self_eq_false]
    exact der_j0 n a s n2 a2 t hl hl2 (by decide)

end Go.Proofs.Ytpijdephgmcoeaa.Pure
