-- Written by a program of this session (wip/myprint.py), which runs the kit's print with contracts proved by hand; not the kit's own print. Lean checks it.
import Derived.Test.YtodmfdkmmpefpaaGreatDoorPFnConceptsx0
import Derived.Test.YtodmfdkmmpefpaaGreatDoorPFnConceptsx4
import Derived.Test.YtodmfdkmmpefpaaGreatDoorPFnConceptsx5
namespace Go.Proofs.YtodmfdkmmpefpaaGreatDoor.PFnConcepts
open Go.RowKit Go.Proofs.YtodmfdkmmpefpaaGreatDoorW.PrintWords Go.Proofs.YtodmfdkmmpefpaaGreatDoorW.PrintLast Go.Proofs.YtodmfdkmmpefpaaGreatDoorW.PrintMore
attribute [local go_sem] max2_int min2_int max_two min_two max_three min_three max_four min_four   -- for this text's walks alone
set_option linter.unusedVariables false
set_option linter.unusedSimpArgs false

/-! ### impl_SortLectic: function 65: the lectic order, the sort, the walk -/
namespace Lec
/-- The full set of n elements. -/
def full (n : Int) : Int := (2 : Int) ^ n.toNat - 1
def isSetB (n s : Int) : Bool := decide (0 ≤ n ∧ n ≤ 8 ∧ 0 ≤ s ∧ s ≤ full n)
def hasB (s e : Int) : Bool := s.toNat.testBit e.toNat
theorem nine {n : Int} (h0 : 0 ≤ n) (h1 : n ≤ 8) : n = 0 ∨ n = 1 ∨ n = 2 ∨ n = 3 ∨ n = 4 ∨ n = 5 ∨ n = 6 ∨ n = 7 ∨ n = 8 := by omega
theorem full_bd {n : Int} (h0 : 0 ≤ n) (h1 : n ≤ 8) : 0 ≤ full n ∧ full n ≤ 255 := by
  rcases nine h0 h1 with rfl | rfl | rfl | rfl | rfl | rfl | rfl | rfl | rfl <;> decide +kernel
theorem isSetB_bd {n s : Int} (h : isSetB n s = true) : 0 ≤ n ∧ n ≤ 8 ∧ 0 ≤ s ∧ s ≤ full n ∧ s ≤ 255 := by
  unfold isSetB at h
  have h := of_decide_eq_true h
  have := full_bd h.1 h.2.1
  omega
theorem isSetB8 (s : Int) : isSetB 8 s = decide (0 ≤ s ∧ s ≤ 255) := by
  unfold isSetB
  have : full 8 = 255 := by decide +kernel
  rw [this]; simp
theorem shl_full {n : Int} (h0 : 0 ≤ n) (h1 : n ≤ 8) : wrap64 (shl .i64 1 n - 1) = full n := by
  rcases nine h0 h1 with rfl | rfl | rfl | rfl | rfl | rfl | rfl | rfl | rfl <;> decide +kernel
theorem u64_small {n : Int} (h0 : 0 ≤ n) (h1 : n < 18446744073709551616) : IntKind.u64.wrap n = n := by
  simp only [IntKind.wrap, IntKind.bits, IntKind.signed]; simp; omega
theorem u64_nonneg (n : Int) : 0 ≤ IntKind.u64.wrap n := by
  simp only [IntKind.wrap, IntKind.bits, IntKind.signed]; simp; omega
theorem w64 {n : Int} (h0 : -9223372036854775808 ≤ n) (h1 : n < 9223372036854775808) : wrap64 n = n := by unfold wrap64; omega
theorem i64_small (n : Int) (h0 : 0 ≤ n) (h1 : n < 2 ^ 63) : IntKind.i64.wrap n = n := by rw [IntKind.wrap_i64]; omega
theorem and_nat (a b : Nat) (ha : a < 2 ^ 63) (hb : b < 2 ^ 63) : Go.bits .and .i64 a b = ((a &&& b : Nat) : Int) := (bits_nat .i64 63 (by decide) (fun n h0 h1 => i64_small n h0 h1) a b ha hb).1
theorem or_nat (a b : Nat) (ha : a < 2 ^ 63) (hb : b < 2 ^ 63) : Go.bits .or .i64 a b = ((a ||| b : Nat) : Int) := (bits_nat .i64 63 (by decide) (fun n h0 h1 => i64_small n h0 h1) a b ha hb).2
/-- What is in a and not in b. -/
def dif (a b : Nat) : Nat := a ^^^ (a &&& b)
theorem dif_bit (a b i : Nat) : (dif a b).testBit i = (a.testBit i && !b.testBit i) := by
  unfold dif; rw [Nat.testBit_xor, Nat.testBit_and]; cases a.testBit i <;> cases b.testBit i <;> rfl
theorem dif_lt (a b n : Nat) (ha : a < 2 ^ n) : dif a b < 2 ^ n := Nat.xor_lt_two_pow ha (Nat.lt_of_le_of_lt Nat.and_le_left ha)
theorem andNot_nat (a b : Nat) (ha : a < 2 ^ 63) (hb : b < 2 ^ 63) : Go.bits .andNot .i64 a b = ((dif a b : Nat) : Int) := by
  simp only [Go.bits, BitVec.ofInt_natCast, IntKind.bits]
  have e : (BitVec.ofNat 64 a &&& ~~~BitVec.ofNat 64 b).toNat = dif a b := by
    apply Nat.eq_of_testBit_eq
    intro i
    rw [dif_bit, BitVec.testBit_toNat, BitVec.getLsbD_and, BitVec.getLsbD_not, BitVec.getLsbD_ofNat, BitVec.getLsbD_ofNat]
    by_cases hi : i < 64
    · simp [hi]
    · have : a.testBit i = false := Nat.testBit_lt_two_pow (Nat.lt_of_lt_of_le ha (Nat.pow_le_pow_right (by decide) (by omega)))
      simp [hi, this]
  have hl := dif_lt a b 63 ha
  have e2 : IntKind.i64.wrap ((dif a b : Nat) : Int) = ((dif a b : Nat) : Int) := i64_small _ (by omega) (by exact_mod_cast hl)
  exact (congrArg (fun n : Nat => IntKind.i64.wrap (n : Int)) e).trans e2
theorem and_eq_iff_dif (a b : Nat) : (a &&& b = a) ↔ dif a b = 0 := by
  constructor
  · intro h; unfold dif; rw [h, Nat.xor_self]
  · intro h
    apply Nat.eq_of_testBit_eq; intro i
    have h2 := dif_bit a b i
    rw [h, Nat.zero_testBit] at h2
    rw [Nat.testBit_and]
    cases ha : a.testBit i <;> cases hb : b.testBit i <;> simp [ha, hb] at h2 ⊢
theorem bit_nat (s e : Nat) (hs : s < 2 ^ 63) (he : e ≤ 63) : (Go.bits .and .i64 (shr .i64 (s : Int) (e : Int)) 1 == 1) = s.testBit e := by
  have h1 : shr .i64 (s : Int) (e : Int) = ((s / 2 ^ e : Nat) : Int) := by
    unfold shr
    rw [Int.toNat_natCast, Nat.min_eq_left (by simp [IntKind.bits]; omega)]
    simp
  have h2 : s / 2 ^ e < 2 ^ 63 := Nat.lt_of_le_of_lt (Nat.div_le_self _ _) hs
  rw [h1, show (1 : Int) = ((1 : Nat) : Int) from rfl, and_nat _ _ h2 (by decide), Nat.and_one_is_mod, Nat.testBit_eq_decide_div_mod_eq]
  have : ((((s / 2 ^ e % 2 : Nat) : Int)) == ((1 : Nat) : Int)) = decide (s / 2 ^ e % 2 = 1) := by
    generalize s / 2 ^ e % 2 = q
    rw [Bool.eq_iff_iff, beq_iff_eq, decide_eq_true_iff]; omega
  exact this
theorem bit_int {s e : Int} (hs0 : 0 ≤ s) (hs : s < 9223372036854775808) (he0 : 0 ≤ e) (he : e ≤ 63) : (Go.bits .and .i64 (shr .i64 s e) 1 == 1) = hasB s e := by
  obtain ⟨a, rfl⟩ := Int.eq_ofNat_of_zero_le hs0
  obtain ⟨b, rfl⟩ := Int.eq_ofNat_of_zero_le he0
  exact bit_nat a b (by omega) (by omega)

theorem impl_IsSet_eq (n s : Int) : impl_IsSet.f n s = some (isSetB n s) := by
  unfold impl_IsSet.f impl_within.f isSetB
  by_cases h0 : 0 ≤ n
  · by_cases h1 : n ≤ 8
    · rw [shl_full h0 h1]
      by_cases h2 : 0 ≤ s <;> simp [h0, h1, h2]
    · simp [h0, h1]
  · simp [h0]

theorem impl_isAnySet_eq (s : Int) : impl_isAnySet.f s = some (isSetB 8 s) := by
  unfold impl_isAnySet.f; rw [impl_IsSet_eq]; rfl

theorem all256 {P : Int → Prop} (h : ∀ s : Fin 256, P ((s.val : Nat) : Int)) {s : Int} (hs : isSetB 8 s = true) : P s := by
  have hb := isSetB_bd hs
  obtain ⟨a, rfl⟩ := Int.eq_ofNat_of_zero_le hb.2.2.1
  exact h ⟨a, by omega⟩

theorem wstep {i : Int} {n : Nat} (h0 : 0 ≤ i) (h : i < (n : Int)) (hn : n ≤ 281474976710656) : wrap64 (i + 1) = i + 1 := by unfold wrap64; omega
theorem rd_nat (l : List Int) (i : Nat) (h : i < l.length) : rd l (i : Int) = l[i] := by unfold rd; rw [Int.toNat_natCast, List.getD_eq_getElem?_getD, List.getElem?_eq_getElem h]; rfl

/-- Row g, as a natural number. -/
def row (a : List Int) (g : Nat) : Nat := (a.getD g 0).toNat
def RowsOk (a : List Int) : Prop := ∀ x ∈ a, 0 ≤ x ∧ x ≤ 255
theorem rd_row {a : List Int} (h : RowsOk a) {i : Nat} (hi : i < a.length) : rd a (i : Int) = (row a i : Int) := by
  rw [rd_nat a i hi]
  have := h a[i] (List.getElem_mem hi)
  unfold row
  rw [List.getD_eq_getElem?_getD, List.getElem?_eq_getElem hi, Option.getD_some, Int.toNat_of_nonneg this.1]
theorem row_lt {a : List Int} (h : RowsOk a) (i : Nat) : row a i < 256 := by
  unfold row
  by_cases hi : i < a.length
  · have := h a[i] (List.getElem_mem hi)
    rw [List.getD_eq_getElem?_getD, List.getElem?_eq_getElem hi, Option.getD_some]; omega
  · rw [List.getD_eq_getElem?_getD, List.getElem?_eq_none (by omega)]; decide
theorem shl_bit {b : Nat} (hb : b ≤ 1) {i : Nat} (hi : i ≤ 8) : shl .i64 (b : Int) (i : Int) = ((b * 2 ^ i : Nat) : Int) := by
  have h0 : b = 0 ∨ b = 1 := by omega
  have h1 : i = 0 ∨ i = 1 ∨ i = 2 ∨ i = 3 ∨ i = 4 ∨ i = 5 ∨ i = 6 ∨ i = 7 ∨ i = 8 := by omega
  rcases h0 with rfl | rfl <;> rcases h1 with rfl | rfl | rfl | rfl | rfl | rfl | rfl | rfl | rfl <;> decide +kernel
theorem shl_one {i : Nat} (hi : i ≤ 8) : shl .i64 1 (i : Int) = ((2 ^ i : Nat) : Int) := by
  have := shl_bit (b := 1) (by omega) hi
  rw [Nat.one_mul] at this
  exact this
theorem pow_le8 {i : Nat} (hi : i ≤ 8) : 2 ^ i ≤ 256 := Nat.le_trans (Nat.pow_le_pow_right (by decide) hi) (by decide)
theorem full_nat {n : Nat} : full (n : Int) = ((2 ^ n - 1 : Nat) : Int) := by
  unfold full
  rw [Int.toNat_natCast, Int.natCast_sub (Nat.two_pow_pos n)]; simp
theorem or_lt {a b n : Nat} (ha : a < 2 ^ n) (hb : b < 2 ^ n) : a ||| b < 2 ^ n := Nat.or_lt_two_pow ha hb
theorem two_pow_bit (i g : Nat) : (2 ^ i).testBit g = decide (i = g) := Nat.testBit_two_pow
theorem full_bit (n m : Nat) : (2 ^ n - 1).testBit m = decide (m < n) := Nat.testBit_two_pow_sub_one n m
/-- A set of n elements is below 2 ^ n. -/
theorem isSet_nat {n : Nat} {s : Int} (h : isSetB (n : Int) s = true) : ∃ t : Nat, s = (t : Int) ∧ t < 2 ^ n ∧ n ≤ 8 ∧ t < 256 := by
  have hb := isSetB_bd h
  obtain ⟨t, rfl⟩ := Int.eq_ofNat_of_zero_le hb.2.2.1
  rw [full_nat] at hb
  have := Nat.two_pow_pos n
  exact ⟨t, rfl, by omega, by omega, by omega⟩
theorem lt_bits {t n : Nat} (h : t < 2 ^ n) {m : Nat} (hm : n ≤ m) : t.testBit m = false := Nat.testBit_lt_two_pow (Nat.lt_of_lt_of_le h (Nat.pow_le_pow_right (by decide) hm))
theorem lt_of_bits {t n : Nat} (h : ∀ m, t.testBit m = true → m < n) : t < 2 ^ n := by
  refine Nat.lt_pow_two_of_testBit t fun i hi => ?_
  cases e : t.testBit i with
  | false => rfl
  | true => exact absurd (h i e) (by omega)
theorem isSet_mk {n t : Nat} (hn : n ≤ 8) (h : t < 2 ^ n) : isSetB (n : Int) (t : Int) = true := by
  unfold isSetB
  rw [full_nat]
  have := Nat.two_pow_pos n
  exact decide_eq_true ⟨by omega, by omega, by omega, by omega⟩

theorem xor_nat (a b : Nat) (ha : a < 2 ^ 63) (hb : b < 2 ^ 63) : Go.bits .xor .i64 a b = ((a ^^^ b : Nat) : Int) := by
  simp only [Go.bits, BitVec.ofInt_natCast, IntKind.bits]
  have e : (BitVec.ofNat 64 a ^^^ BitVec.ofNat 64 b).toNat = a ^^^ b := by
    rw [BitVec.toNat_xor, BitVec.toNat_ofNat, BitVec.toNat_ofNat, Nat.mod_eq_of_lt (by omega), Nat.mod_eq_of_lt (by omega)]
  have hl := Nat.xor_lt_two_pow ha hb
  have e2 : IntKind.i64.wrap ((a ^^^ b : Nat) : Int) = ((a ^^^ b : Nat) : Int) := i64_small _ (by omega) (by exact_mod_cast hl)
  exact (congrArg (fun n : Nat => IntKind.i64.wrap (n : Int)) e).trans e2
/-- The least element of d. -/
def tzN (d : Nat) : Nat := (List.range 8).findIdx (fun e => d.testBit e)
/-- The lectic order. -/
def beforeB (s t : Nat) : Bool := s != t && t.testBit (tzN (s ^^^ t))
theorem low_bit : ∀ d : Fin 256, d.val = 0 ∨ (tzN d.val < 8 ∧ Go.bits .and .i64 ((d.val : Nat) : Int) (wrap64 (-((d.val : Nat) : Int))) = ((2 ^ tzN d.val : Nat) : Int)) := by decide +kernel
def beforeI (s t : Int) : Bool := isSetB 8 s && (isSetB 8 t && beforeB s.toNat t.toNat)
theorem xor_ne {a b : Nat} (h : a ≠ b) : a ^^^ b ≠ 0 := fun e => h (by
  apply Nat.eq_of_testBit_eq; intro i
  have := congrArg (fun z : Nat => z.testBit i) e
  simp only [Nat.testBit_xor, Nat.zero_testBit] at this
  cases ha : a.testBit i <;> cases hb : b.testBit i <;> simp [ha, hb] at this ⊢)
theorem xor_256 {a b : Nat} (ha : a < 256) (hb : b < 256) : a ^^^ b < 256 := Nat.xor_lt_two_pow (n := 8) ha hb
theorem and_pow_ne (t k : Nat) : ((t &&& 2 ^ k) != 0) = t.testBit k := by
  cases h : t.testBit k with
  | true =>
    rw [bne_iff_ne]
    intro e
    have := congrArg (fun z : Nat => z.testBit k) e
    simp only [Nat.testBit_and, h, two_pow_bit, Nat.zero_testBit] at this
    simp at this
  | false =>
    have : t &&& 2 ^ k = 0 := by
      apply Nat.eq_of_testBit_eq; intro i
      rw [Nat.testBit_and, two_pow_bit, Nat.zero_testBit]
      by_cases e : k = i
      · subst e; rw [h]; rfl
      · simp [e]
    rw [this]; rfl

theorem impl_HasElement_eq (s e : Int) : impl_HasElement.f s e = some (isSetB 8 s && (decide (0 ≤ e ∧ e ≤ 7) && hasB s e)) := by
  unfold impl_HasElement.f impl_within.f
  rw [impl_isAnySet_eq]
  by_cases h : isSetB 8 s = true
  · have := isSetB_bd h
    by_cases h0 : 0 ≤ e
    · by_cases h1 : e ≤ 7
      · have h2 := bit_int (s := s) (e := e) (by omega) (by omega) h0 (by omega)
        simp [h, h0, h1, h2]
      · simp [h, h0, h1]
    · simp [h, h0]
  · simp [h]

theorem tz_eq : ∀ d : Fin 256, d.val = 0 ∨ bits_TrailingZeros64.f ((d.val : Nat) : Int) = some ((tzN d.val : Nat) : Int) := by decide +kernel
theorem impl_BeforeSet_eq (s t : Int) {k : Nat} (hk : 1 ≤ k) : impl_BeforeSet.f k s t = some (beforeI s t) := by
  obtain ⟨k, rfl⟩ : ∃ m, k = m + 1 := ⟨k - 1, by omega⟩
  unfold impl_BeforeSet.f beforeI
  rw [impl_isAnySet_eq, impl_isAnySet_eq]
  cases h : isSetB 8 s with
  | false => simp [impl_BeforeSet.j0]
  | true =>
    cases h' : isSetB 8 t with
    | false => simp [impl_BeforeSet.j0]
    | true =>
      have h1 := isSetB_bd h
      have h2 := isSetB_bd h'
      obtain ⟨a, rfl⟩ := Int.eq_ofNat_of_zero_le h1.2.2.1
      obtain ⟨b, rfl⟩ := Int.eq_ofNat_of_zero_le h2.2.2.1
      simp only [Option.bind_some, if_true, Bool.true_and, Int.toNat_natCast, impl_BeforeSet.j0]
      unfold beforeB
      by_cases e : a = b
      · subst e; simp
      · have e1 : ((a : Int) == (b : Int)) = false := by rw [beq_eq_false_iff_ne]; omega
        have e2 : (a != b) = true := by simp [e]
        have hx := xor_256 (a := a) (b := b) (by omega) (by omega)
        rw [e1, if_neg (by decide), xor_nat _ _ (by omega) (by omega), u64_small (by omega) (by omega), e2, Bool.true_and]
        unfold bits_TrailingZeros.f
        rcases tz_eq ⟨a ^^^ b, hx⟩ with h0 | h4
        · exact absurd h0 (xor_ne e)
        · dsimp only at h4
          rcases low_bit ⟨a ^^^ b, hx⟩ with h0 | ⟨h3, _⟩
          · exact absurd h0 (xor_ne e)
          · dsimp only at h3
            rw [h4]
            simp only [Option.bind_some]
            rw [impl_HasElement_eq, h', decide_eq_true (by omega : (0 : Int) ≤ ((tzN (a ^^^ b) : Nat) : Int) ∧ ((tzN (a ^^^ b) : Nat) : Int) ≤ 7)]
            rfl

/-- The set of those j below n where p holds. -/
def mkSet (p : Nat → Bool) : Nat → Nat
  | 0 => 0
  | n + 1 => mkSet p n ||| (if p n then 2 ^ n else 0)
theorem mkSet_bit (p : Nat → Bool) (i : Nat) : ∀ n, (mkSet p n).testBit i = (decide (i < n) && p i)
  | 0 => by simp [mkSet]
  | n + 1 => by
    rw [mkSet, Nat.testBit_or, mkSet_bit p i n]
    by_cases e : i = n
    · subst e
      cases h : p i <;> simp [two_pow_bit, h]
    · have e2 : decide (i < n + 1) = decide (i < n) := by rw [decide_eq_decide]; omega
      cases h : p n
      · simp [e2]
      · simp [two_pow_bit, e2, show ¬ n = i from fun h => e h.symm]
theorem mkSet_lt (p : Nat → Bool) (n : Nat) : mkSet p n < 2 ^ n := lt_of_bits fun m hm => by
  rw [mkSet_bit, Bool.and_eq_true, decide_eq_true_eq] at hm; exact hm.1
/-- A set's place in the lectic order: its bits, the other way round. -/
def rank (s : Nat) : Nat := mkSet (fun j => s.testBit (7 - j)) 8
theorem rank_bit (s j : Nat) : (rank s).testBit j = (decide (j < 8) && s.testBit (7 - j)) := mkSet_bit _ j 8
theorem rank_lt (s : Nat) : rank s < 256 := mkSet_lt _ 8
theorem rank_rank {s : Nat} (h : s < 256) : rank (rank s) = s := by
  apply Nat.eq_of_testBit_eq; intro i
  rw [rank_bit, rank_bit]
  by_cases hi : i < 8
  · rw [decide_eq_true hi, decide_eq_true (by omega : 7 - i < 8), show 7 - (7 - i) = i from by omega]; rfl
  · rw [decide_eq_false hi, show s.testBit i = false from lt_bits (n := 8) h (by omega)]; rfl
theorem rank_inj {s t : Nat} (hs : s < 256) (ht : t < 256) (h : rank s = rank t) : s = t := by rw [← rank_rank hs, ← rank_rank ht, h]
theorem tzN_spec {d : Nat} (h : d ≠ 0) (hd : d < 256) : tzN d < 8 ∧ d.testBit (tzN d) = true ∧ ∀ i, i < tzN d → d.testBit i = false := by
  have hex : ∃ x ∈ List.range 8, d.testBit x = true := by
    apply Decidable.byContradiction
    intro hn
    apply h
    apply Nat.eq_of_testBit_eq; intro i
    rw [Nat.zero_testBit]
    cases e : d.testBit i with
    | false => rfl
    | true =>
      by_cases hi : i < 8
      · exact absurd ⟨i, List.mem_range.2 hi, e⟩ hn
      · rw [lt_bits (n := 8) hd (by omega)] at e; cases e
  have hl : tzN d < (List.range 8).length := by
    unfold tzN
    obtain ⟨x, hx, hp⟩ := hex
    exact List.findIdx_lt_length_of_exists ⟨x, hx, hp⟩
  have hl8 : tzN d < 8 := by simpa using hl
  refine ⟨hl8, ?_, fun i hi => ?_⟩
  · have hw : (List.range 8).findIdx (fun e => d.testBit e) < (List.range 8).length := hl
    have h1 := List.findIdx_getElem (p := fun e => d.testBit e) (xs := List.range 8) (w := hw)
    have h2 : (List.range 8)[(List.range 8).findIdx (fun e => d.testBit e)]'hw = tzN d := List.getElem_range hw
    exact (congrArg (fun z => d.testBit z) h2).symm.trans h1
  · have := List.not_of_lt_findIdx (p := fun e => d.testBit e) (xs := List.range 8) (i := i) hi
    simpa using this
theorem lt_of_bit {x y : Nat} (i : Nat) (hx : x.testBit i = false) (hy : y.testBit i = true) (h : ∀ j, i < j → x.testBit j = y.testBit j) : x < y := by
  have e : x / 2 ^ (i + 1) = y / 2 ^ (i + 1) := by
    apply Nat.eq_of_testBit_eq; intro j
    rw [Nat.testBit_div_two_pow, Nat.testBit_div_two_pow, h _ (by omega)]
  have h1 := Nat.div_add_mod x (2 ^ (i + 1))
  have h2 := Nat.div_add_mod y (2 ^ (i + 1))
  rw [Nat.testBit_eq_decide_div_mod_eq, decide_eq_false_iff_not] at hx
  rw [Nat.testBit_eq_decide_div_mod_eq, decide_eq_true_eq] at hy
  have h3 := Nat.mod_lt x (Nat.two_pow_pos i)
  have m1 : x % 2 ^ (i + 1) = x % 2 ^ i := by rw [Nat.pow_succ, Nat.mod_mul, show x / 2 ^ i % 2 = 0 from by omega]; simp
  have m2 : y % 2 ^ (i + 1) = y % 2 ^ i + 2 ^ i := by rw [Nat.pow_succ, Nat.mod_mul, hy]; simp
  rw [e, m1] at h1
  rw [m2] at h2
  omega
theorem before_rank {s t : Nat} (hs : s < 256) (ht : t < 256) : beforeB s t = decide (rank s < rank t) := by
  unfold beforeB
  by_cases e : s = t
  · subst e; simp
  · have e1 : (s != t) = true := by simp [e]
    obtain ⟨hk, hb, hn⟩ := tzN_spec (xor_ne e) (xor_256 hs ht)
    rw [e1, Bool.true_and]
    generalize tzN (s ^^^ t) = k at *
    rw [Nat.testBit_xor] at hb
    have hn' : ∀ i, i < k → s.testBit i = t.testBit i := fun i hi => by
      have := hn i hi
      rw [Nat.testBit_xor] at this
      cases h1 : s.testBit i <;> cases h2 : t.testBit i <;> simp [h1, h2] at this ⊢
    have key : ∀ a b : Nat, a.testBit k = false → b.testBit k = true → (∀ i, i < k → a.testBit i = b.testBit i) → rank a < rank b := by
      intro a b ha hb h
      refine lt_of_bit (7 - k) ?_ ?_ ?_
      · rw [rank_bit, decide_eq_true (by omega), show 7 - (7 - k) = k from by omega, ha]; rfl
      · rw [rank_bit, decide_eq_true (by omega), show 7 - (7 - k) = k from by omega, hb]; rfl
      · intro j hj
        rw [rank_bit, rank_bit]
        by_cases hj8 : j < 8
        · rw [h (7 - j) (by omega)]
        · rw [decide_eq_false hj8]; rfl
    cases h1 : t.testBit k with
    | true =>
      have h2 : s.testBit k = false := by cases h : s.testBit k <;> simp [h, h1] at hb ⊢
      rw [decide_eq_true (key s t h2 h1 hn')]
    | false =>
      have h2 : s.testBit k = true := by cases h : s.testBit k <;> simp [h, h1] at hb ⊢
      have := key t s h1 h2 (fun i hi => (hn' i hi).symm)
      rw [decide_eq_false (by omega)]
/-- All sets in lectic order. -/
def lecticAll : List Int := (List.range 256).map (fun r => ((rank r : Nat) : Int))
/-- The sets of l in lectic order, each once. -/
def lecticOf (l : List Int) : List Int := lecticAll.filter (fun s => l.contains s)
def rankI (s : Int) : Nat := rank s.toNat
theorem lecticAll_mem (s : Int) : s ∈ lecticAll ↔ 0 ≤ s ∧ s ≤ 255 := by
  unfold lecticAll
  rw [List.mem_map]
  constructor
  · rintro ⟨r, _, rfl⟩
    have := rank_lt r; omega
  · intro h
    refine ⟨rank s.toNat, List.mem_range.2 (rank_lt _), ?_⟩
    rw [rank_rank (by omega), Int.toNat_of_nonneg h.1]
theorem lecticAll_sorted : lecticAll.Pairwise (fun s t => rankI s < rankI t) := by
  unfold lecticAll
  rw [List.pairwise_map]
  refine List.Pairwise.imp_of_mem ?_ List.pairwise_lt_range
  intro a b ha hb hab
  unfold rankI
  rw [Int.toNat_natCast, Int.toNat_natCast, rank_rank (List.mem_range.1 ha), rank_rank (List.mem_range.1 hb)]
  exact hab
theorem lecticOf_sorted (l : List Int) : (lecticOf l).Pairwise (fun s t => rankI s < rankI t) := lecticAll_sorted.filter _
theorem lecticOf_mem (l : List Int) (s : Int) : s ∈ lecticOf l ↔ (0 ≤ s ∧ s ≤ 255) ∧ s ∈ l := by
  unfold lecticOf
  rw [List.mem_filter, lecticAll_mem, List.contains_iff_mem]
/-- Lists that rise and have the same members are one. -/
theorem rising_eq : ∀ (a b : List Int), a.Pairwise (fun s t => rankI s < rankI t) → b.Pairwise (fun s t => rankI s < rankI t) → (∀ x, x ∈ a ↔ x ∈ b) → a = b
  | [], [], _, _, _ => rfl
  | [], y :: b, _, _, h => absurd ((h y).2 (List.mem_cons_self ..)) (by simp)
  | x :: a, [], _, _, h => absurd ((h x).1 (List.mem_cons_self ..)) (by simp)
  | x :: a, y :: b, ha, hb, h => by
    rw [List.pairwise_cons] at ha hb
    have e : x = y := by
      rcases List.mem_cons.1 ((h x).1 (List.mem_cons_self ..)) with e | hx
      · exact e
      · rcases List.mem_cons.1 ((h y).2 (List.mem_cons_self ..)) with e | hy
        · exact e.symm
        · have h1 := ha.1 y hy
          have h2 := hb.1 x hx
          omega
    subst e
    congr 1
    refine rising_eq a b ha.2 hb.2 (fun z => ?_)
    constructor
    · intro hz
      rcases List.mem_cons.1 ((h z).1 (List.mem_cons_of_mem _ hz)) with e | h2
      · subst e; have := ha.1 z hz; omega
      · exact h2
    · intro hz
      rcases List.mem_cons.1 ((h z).2 (List.mem_cons_of_mem _ hz)) with e | h2
      · subst e; have := hb.1 z hz; omega
      · exact h2


end Lec
namespace Lec
open Go.Sort (SWO Holds putRow grow PermIn SortedIn holds_putRow holds_grow holds_ahead)
def encF (s : Fin 256) : Value := .int .i64 ((s.val : Nat) : Int)
def cmpF (x y : Fin 256) : Int := if x.val = y.val then 0 else if beforeB x.val y.val then -1 else 1
theorem ltF (x y : Fin 256) : ltOf cmpF x y = decide (rank x.val < rank y.val) := by
  unfold ltOf cmpF
  rw [before_rank x.isLt y.isLt]
  by_cases h : x.val = y.val
  · rw [if_pos h, h]; simp
  · rw [if_neg h]
    by_cases h2 : rank x.val < rank y.val
    · simp [h2]
    · simp [h2]
theorem swoF : SWO (ltOf cmpF) := by
  refine ⟨fun x => ?_, fun x y z => ?_, fun x y z => ?_⟩
  · rw [ltF]; simp
  · rw [ltF, ltF, ltF]; simp only [decide_eq_true_eq]; omega
  · rw [ltF, ltF, ltF]; simp only [decide_eq_false_iff_not]; omega
def toF (x : Int) : Fin 256 := ⟨x.toNat % 256, Nat.mod_lt _ (by decide)⟩
theorem toF_val {x : Int} (h : isSetB 8 x = true) : (((toF x).val : Nat) : Int) = x := by
  rw [isSetB8] at h
  have h := of_decide_eq_true h
  show ((x.toNat % 256 : Nat) : Int) = x
  omega
theorem map_toF {l : List Int} (h : ∀ x ∈ l, isSetB 8 x = true) : (l.map toF).map (fun s : Fin 256 => ((s.val : Nat) : Int)) = l := by
  rw [List.map_map]
  conv => rhs; rw [← List.map_id l]
  exact List.map_congr_left fun x hx => toF_val (h x hx)
theorem map_encF (z : List (Fin 256)) : z.map encF = (z.map (fun s : Fin 256 => ((s.val : Nat) : Int))).map (Value.int .i64) := by rw [List.map_map]; rfl
/-- A row of the sort, told as whole numbers. -/
theorem holds_int {w : World} {g : Nat} {d : Array (Fin 256)} (h : Holds encF w g 0 d) : Holds (Value.int .i64) w g 0 (d.toList.map (fun s : Fin 256 => ((s.val : Nat) : Int))).toArray := by
  intro j hj
  have hj' : j < d.size := by simpa using hj
  have := h j hj'
  refine ⟨?_, this.2⟩
  rw [this.1]
  simp [encF, getElem!_pos, hj']
theorem below_sortW {B : Nat} {w0 w : World} {enc : Fin 256 → Value} {g m : Nat} {d : Array (Fin 256)} (os : Array Obj) (h : Below B w0 w) (hg : B ≤ g) (hB : B ≤ w0.heap.size) : Below B w0 (sortWorld enc w g 0 m d os) := by
  have h1 := Go.Lib.below_putRow (enc := enc) (q := m) (d := d) h hg
  unfold sortWorld
  refine ⟨h1.os, h1.tape, h1.output, ?_, fun k hk => ?_⟩
  · have := h1.size; rw [Go.Sort.size_grow]; omega
  · rw [Go.Sort.heap_grow_old]
    · exact h1.block k hk
    · have := h1.size; omega
theorem below_grow0 (w : World) (os : Array Obj) : Below w.heap.size w (grow w os) := ⟨rfl, rfl, rfl, by rw [Go.Sort.size_grow]; omega, fun k hk => Go.Sort.heap_grow_old w os hk⟩
theorem rankI_inj {s t : Int} (hs : 0 ≤ s ∧ s ≤ 255) (ht : 0 ≤ t ∧ t ≤ 255) (h : rankI s = rankI t) : s = t := by
  have := rank_inj (s := s.toNat) (t := t.toNat) (by omega) (by omega) h
  omega
/-- Kept neighbours of a row that does not fall: rising, and the same members. -/
theorem compactUpTo_rising (d : Array Int) (hs : ∀ j, j < d.size → 0 ≤ d[j]! ∧ d[j]! ≤ 255) (h : ∀ i j, i ≤ j → j < d.size → rankI d[i]! ≤ rankI d[j]!) : ∀ m, m ≤ d.size →
    (Go.Lib.compactUpTo d m).Pairwise (fun s t => rankI s < rankI t) ∧ (∀ x ∈ Go.Lib.compactUpTo d m, ∃ j, j < m ∧ x = d[j]!) ∧ (∀ j, j < m → d[j]! ∈ Go.Lib.compactUpTo d m) := by
  intro m
  induction m with
  | zero => intro _; exact ⟨List.Pairwise.nil, fun x hx => by simp [Go.Lib.compactUpTo] at hx, fun j hj => absurd hj (Nat.not_lt_zero _)⟩
  | succ m ih =>
    intro hm
    obtain ⟨h1, h2, h3⟩ := ih (by omega)
    rw [Go.Lib.compactUpTo_succ]
    by_cases hk : Go.Lib.keeps d m = true
    · rw [if_pos hk]
      refine ⟨?_, ?_, ?_⟩
      · rw [List.pairwise_append]
        refine ⟨h1, List.pairwise_singleton _ _, fun x hx y hy => ?_⟩
        rw [List.mem_singleton] at hy
        subst hy
        obtain ⟨j, hj, rfl⟩ := h2 x hx
        have hk := of_decide_eq_true hk
        have hne : d[m]! ≠ d[m - 1]! := by
          rcases hk with h0 | h0
          · omega
          · exact h0
        have a := h j (m - 1) (by omega) (by omega)
        have b := h (m - 1) m (by omega) (by omega)
        rcases Nat.lt_or_ge (rankI d[m - 1]!) (rankI d[m]!) with hlt | hge
        · omega
        · exact absurd (rankI_inj (hs m (by omega)) (hs (m - 1) (by omega)) (by omega)) hne
      · intro x hx
        rw [List.mem_append, List.mem_singleton] at hx
        rcases hx with hx | hx
        · obtain ⟨j, hj, e⟩ := h2 x hx; exact ⟨j, by omega, e⟩
        · exact ⟨m, by omega, hx⟩
      · intro j hj
        rw [List.mem_append, List.mem_singleton]
        by_cases e : j = m
        · subst e; exact Or.inr rfl
        · exact Or.inl (h3 j (by omega))
    · rw [if_neg hk, List.append_nil]
      refine ⟨h1, fun x hx => ?_, fun j hj => ?_⟩
      · obtain ⟨j, hj, e⟩ := h2 x hx; exact ⟨j, by omega, e⟩
      · by_cases e : j = m
        · subst e
          unfold Go.Lib.keeps at hk
          rw [decide_eq_true_eq, not_or] at hk
          have e2 : d[j]! = d[j - 1]! := Decidable.not_not.mp hk.2
          rw [e2]
          exact h3 (j - 1) (by omega)
        · exact h3 j (by omega)
theorem compact_lectic {z l : List Int} (hs : ∀ x ∈ z, 0 ≤ x ∧ x ≤ 255) (h : ∀ i j, i ≤ j → j < z.length → rankI (z.getD i 0) ≤ rankI (z.getD j 0)) (hm : ∀ x, x ∈ z ↔ x ∈ l) : Go.Lib.compact z = lecticOf l := by
  have eg : ∀ j, j < z.length → z.toArray[j]! = z.getD j 0 := fun j hj => by
    rw [List.getD_eq_getElem?_getD, List.getElem?_eq_getElem hj, getElem!_pos z.toArray j (by simpa using hj)]; simp
  have em : ∀ j, j < z.length → z.getD j 0 ∈ z := fun j hj => by
    rw [List.getD_eq_getElem?_getD, List.getElem?_eq_getElem hj]; exact List.getElem_mem hj
  obtain ⟨h1, h2, h3⟩ := compactUpTo_rising z.toArray (fun j hj => by rw [eg j (by simpa using hj)]; exact hs _ (em j (by simpa using hj)))
    (fun i j hij hj => by have hj' : j < z.length := by simpa using hj
                          rw [eg i (by omega), eg j hj']; exact h i j hij hj') z.length (by simp)
  refine rising_eq _ _ h1 (lecticOf_sorted l) fun x => ?_
  rw [lecticOf_mem]
  constructor
  · intro hx
    obtain ⟨j, hj, rfl⟩ := h2 x hx
    rw [eg j hj]
    exact ⟨hs _ (em j hj), (hm _).1 (em j hj)⟩
  · rintro ⟨_, hx⟩
    obtain ⟨j, hj, rfl⟩ := List.getElem_of_mem ((hm x).2 hx)
    have := h3 j hj
    rw [eg j hj, List.getD_eq_getElem?_getD, List.getElem?_eq_getElem hj] at this
    exact this
end Lec
theorem Lec.lit33 (x : Int) (W : World) : Calls Tryz.prog 77 (#[.int .i64 x] ++ #[]) W fun e w' => e = .returned (.bool (!Lec.isSetB 8 x)) ∧ Drawn0 W w' := by
  have h : impl_isAnySet.f x = some (Lec.isSetB 8 x) := Lec.impl_isAnySet_eq x
  generalize Lec.isSetB 8 x = v at h
  have HR := Aside0.mk h
  clear h
  go_enter Tryz.func77, Tryz.ntmps77
  go_wp2_with fail
  refine (impl_isAnySet.calls x v _ HR.out).mono ?_
  rintro e w' ⟨rfl, ⟨nd, rfl⟩⟩
  go_wp2_with fail
  go_ret
  exact ⟨rfl, by repeat (first | exact Drawn0.refl _ | apply Drawn0.step)⟩
theorem Lec.lit36 (x y : Fin 256) (W : World) (hT : TabW W) : Calls Tryz.prog 80 (#[Lec.encF x, Lec.encF y] ++ #[]) W fun e w' => e = .returned (.int .i64 (Lec.cmpF x y)) ∧ Drawn0 W w' := by
  have hb : impl_BeforeSet.f 1 ((x.val : Nat) : Int) ((y.val : Nat) : Int) = some (Lec.beforeB x.val y.val) := by
    rw [Lec.impl_BeforeSet_eq _ _ (Nat.le_refl _)]
    unfold Lec.beforeI
    have h1 : Lec.isSetB 8 ((x.val : Nat) : Int) = true := by rw [Lec.isSetB8]; exact decide_eq_true (by have := x.isLt; omega)
    have h2 : Lec.isSetB 8 ((y.val : Nat) : Int) = true := by rw [Lec.isSetB8]; exact decide_eq_true (by have := y.isLt; omega)
    rw [h1, h2]; rfl
  have HT := Aside0.mk hT
  clear hT
  unfold Lec.cmpF Lec.encF
  generalize Lec.beforeB x.val y.val = v at hb
  have hq : (((x.val : Nat) : Int) == ((y.val : Nat) : Int)) = decide (x.val = y.val) := by
    by_cases h : x.val = y.val
    · rw [h]; simp
    · have hne : ((x.val : Nat) : Int) ≠ ((y.val : Nat) : Int) := by omega
      rw [beq_eq_false_iff_ne.mpr hne, decide_eq_false h]
  generalize ((x.val : Nat) : Int) = a at hb hq
  generalize ((y.val : Nat) : Int) = b at hb hq
  have HR := Aside0.mk hb
  clear hb
  by_cases h : x.val = y.val
  · rw [if_pos h]
    have c : (a == b) = true := by rw [hq]; exact decide_eq_true h
    clear hq h
    go_enter Tryz.func80, Tryz.ntmps80
    go_wp2
    go_ret
    exact ⟨rfl, by repeat (first | exact Drawn0.refl _ | apply Drawn0.step)⟩
  · rw [if_neg h]
    have c : (a == b) = false := by rw [hq]; exact decide_eq_false h
    clear hq h
    cases v with
    | true =>
      rw [if_pos rfl]
      go_enter Tryz.func80, Tryz.ntmps80
      go_wp2_with fail
      refine (impl_BeforeSet.calls 1 a b true _ (by first | exact HT.out | (repeat (first | exact HT.out | (with_reducible refine TabW.drewN ?_ _) | (with_reducible refine TabW.drew ?_)))) HR.out).mono ?_
      rintro e w' ⟨rfl, ⟨nd, rfl⟩⟩
      go_wp2_with fail
      go_ret
      exact ⟨rfl, by repeat (first | exact Drawn0.refl _ | apply Drawn0.step)⟩
    | false =>
      rw [if_neg (by decide)]
      go_enter Tryz.func80, Tryz.ntmps80
      go_wp2_with fail
      refine (impl_BeforeSet.calls 1 a b false _ (by first | exact HT.out | (repeat (first | exact HT.out | (with_reducible refine TabW.drewN ?_ _) | (with_reducible refine TabW.drew ?_)))) HR.out).mono ?_
      rintro e w' ⟨rfl, ⟨nd, rfl⟩⟩
      go_wp2_with fail
      go_ret
      exact ⟨rfl, by repeat (first | exact Drawn0.refl _ | apply Drawn0.step)⟩
def impl_SortLectic.f (l0 : List Int) : Option (List Int) := if l0.length ≤ 17592186044416 then some (if l0.any (fun x => !Lec.isSetB 8 x) then [] else Lec.lecticOf l0) else none
/-- From the copy on: a row of sets, sorted and freed of neighbours that are alike. -/
theorem Lec.sorted_row {w0 wb : World} {g cap : Nat} {l0 : List Int} (hall : ∀ x ∈ l0, Lec.isSetB 8 x = true) (hlen : l0.length ≤ 17592186044416) (hT : TabW w0) (hB : Below w0.heap.size w0 wb)
    (hg : w0.heap.size ≤ g) (ho : wb.ownsRow w0.heap.size 3 1 (.slice (some ⟨g, 0, none⟩) l0.length cap) l0.length (l0.map (Value.int .i64))) :
    Calls Tryz.prog 79 #[.slice (some ⟨g, 0, none⟩) l0.length cap, .func (.func 80) #[] #[]] wb fun e w' => e = .returned (.tuple #[]) ∧ Below w0.heap.size w0 w' ∧
      ∃ zs : List Int, zs.length = l0.length ∧ w'.ownsRow w0.heap.size 3 1 (.slice (some ⟨g, 0, none⟩) l0.length cap) l0.length (zs.map (Value.int .i64)) ∧ Go.Sort.Holds (Value.int .i64) w' g 0 zs.toArray ∧ Go.Lib.compact zs = Lec.lecticOf l0 := by
  have e1 : (l0.map (Value.int .i64)) = ((l0.map Lec.toF).map Lec.encF) := by rw [Lec.map_encF, Lec.map_toF hall]
  have hl : (l0.map Lec.toF).length = l0.length := List.length_map _
  rw [e1] at ho
  obtain ⟨g', cap', ev, hb, hlt, hn, hm, hzl, hH⟩ := Go.Lib.holds_of_ownsRow ho (by simp)
  injection ev with ev1 _ ev3
  injection ev1 with ev1
  injection ev1 with ev1
  subst ev1; subst ev3
  have hd : (l0.map Lec.toF).toArray.size = l0.length := by simp
  have hcmp : CmpLays1 Tryz.prog 80 #[] Lec.encF Lec.cmpF g 0 (l0.map Lec.toF).toArray.size wb := CmpReads.lays fun m os dk hs x y =>
    (Lec.lit36 x y _ (TabW.below hT (Lec.below_sortW os hB hg (Nat.le_refl _)))).mono fun _ _ ⟨he, q, hq⟩ => ⟨he, q, hq⟩
  have key := Any.slices_SortFunc Tryz.laysSort Lec.encF (fun _ => rfl) Lec.cmpF Lec.swoF 80 #[] g 0 cap (l0.map Lec.toF).toArray wb (Go.Proofs.enters_of Tryz.func80 (by kernel_rfl) rfl) hcmp hH hlt (by omega)
  rw [hd] at key
  refine key.mono ?_
  rintro e w' ⟨he, d', n, os, hp, hs, rfl⟩
  have hds : d'.size = l0.length := by rw [hp.1, hd]
  refine ⟨he, Lec.below_sortW os hB hg (Nat.le_refl _), d'.toList.map (fun s : Fin 256 => ((s.val : Nat) : Int)), ?_, ?_, ?_, ?_⟩
  · rw [List.length_map, Array.length_toList, hp.1, hd]
  · have h1 := Go.Lib.ownsRow_putRow (q := n) (k := l0.length) (ys := d'.toList) ho (by rw [Array.length_toList, hp.1, hd]) (Nat.le_refl _)
    rw [Array.toArray_toList, List.take_of_length_le (by rw [Array.length_toList, hp.1, hd]; exact Nat.le_refl _), Lec.map_encF] at h1
    exact pw_own_below h1 (Lec.below_grow0 _ os)
  · refine Lec.holds_int (Go.Sort.holds_grow _ _ _ _ _ _ (by rw [Go.Sort.size_putRow]; exact hlt) (Go.Sort.holds_putRow _ _ _ _ _ _ (Go.Sort.holds_ahead _ _ _ _ _ _ hH) hp.1))
  · have hperm : d'.toList.Perm (l0.map Lec.toF) := by
      have := hp.2.2
      have e2 : d'.extract 0 l0.length = d' := by rw [← hds]; exact Array.extract_size
      have e3 : (l0.map Lec.toF).toArray.extract 0 l0.length = (l0.map Lec.toF).toArray := (congrArg (fun n => (l0.map Lec.toF).toArray.extract 0 n) hd.symm).trans Array.extract_size
      rw [e2, e3] at this
      exact this
    refine Lec.compact_lectic ?_ ?_ ?_
    · intro x hx
      obtain ⟨s, _, rfl⟩ := List.mem_map.1 hx
      have := s.isLt; omega
    · intro i j hij hj
      have hj' : j < d'.size := by simpa using hj
      have hi' : i < d'.size := by omega
      have eg : ∀ k, k < d'.size → Lec.rankI ((d'.toList.map (fun s : Fin 256 => ((s.val : Nat) : Int))).getD k 0) = Lec.rank (d'[k]!).val := fun k hk => by
        unfold Lec.rankI
        rw [List.getD_eq_getElem?_getD, List.getElem?_map, Array.getElem?_toList, Array.getElem?_eq_getElem hk, getElem!_pos d' k hk]
        rfl
      rw [eg i hi', eg j hj']
      by_cases e : i = j
      · subst e; exact Nat.le_refl _
      · have := hs i j (Nat.zero_le _) (by omega) (by omega)
        rw [Lec.ltF] at this
        have := of_decide_eq_false this
        omega
    · intro x
      rw [List.mem_map]
      constructor
      · rintro ⟨s, hs2, rfl⟩
        obtain ⟨y, hy, rfl⟩ := List.mem_map.1 ((hperm.mem_iff).1 hs2)
        rw [Lec.toF_val (hall y hy)]; exact hy
      · intro hx
        exact ⟨Lec.toF x, (hperm.mem_iff).2 (List.mem_map_of_mem hx), Lec.toF_val (hall x hx)⟩
theorem Lec.cells_of_C {w : World} {b off : Nat} {l : List Int} (hr : Kd.C (Kd.int .i64) w (some ⟨b, off, none⟩) l.length l) : ∀ j, j < l.length → w.cell? ⟨b, off + j, none⟩ = some (.int .i64 (l.getD j 0)) := by
  intro j hj
  obtain ⟨ad, e1, hx⟩ := Kd.at_int hr (j : Int) (by omega) (by omega)
  obtain rfl := Option.some.inj e1
  rw [Int.toNat_natCast, add_at] at hx
  exact hx
theorem Lec.C_plain {w : World} {A : Option Addr} {l : List Int} (hr : Kd.C (Kd.int .i64) w A l.length l) (hl : 0 < l.length) : ∃ b off, A = some ⟨b, off, none⟩ := by
  obtain ⟨ad, e1, hx⟩ := Kd.at_int hr 0 (by omega) (by omega)
  obtain ⟨b, off, spot⟩ := ad
  cases spot with
  | none => exact ⟨b, off, e1⟩
  | some s =>
    have e : (⟨b, off, some s⟩ : Addr).add (0 : Int).toNat = ⟨b, off, some s⟩ := rfl
    rw [e] at hx
    unfold World.cell? at hx
    cases hh : w.heap[b]? with
    | none => simp [hh] at hx
    | some o => cases o <;> simp [hh] at hx
set_option maxHeartbeats 4000000 in
theorem impl_SortLectic.calls (A0 : Option Addr) (c0 : Nat) (l0 : List Int) (r : List Int) (w : World) (hr0 : Kd.C (Kd.int .i64) w A0 l0.length l0) (hc0 : l0.length ≤ c0) (hrT : TabW w) (h : impl_SortLectic.f l0 = some r) :
    Calls Tryz.prog 65 #[.slice A0 l0.length c0] w fun e w' => ∃ v0_ : Value, e = .returned (v0_) ∧ Kd.R (Kd.int .i64) 3 w' w.heap.size (fun _ => True) v0_ r ∧ Below w.heap.size w w' := by
  unfold impl_SortLectic.f at h
  by_cases hlen : l0.length ≤ 17592186044416
  case neg => rw [if_neg hlen] at h; cases h
  rw [if_pos hlen] at h
  obtain rfl := Option.some.inj h
  clear h
  have HC := Aside0.mk (containsFunc_calls 77 #[] (fun x => !Lec.isSetB 8 x) A0 c0 l0 w hr0 hc0 (by omega) (Go.Proofs.enters_of Tryz.func77 (by kernel_rfl) rfl) (fun W x _ => Lec.lit33 x W))
  cases hv : l0.any (fun x => !Lec.isSetB 8 x) with
  | true =>
    rw [hv] at HC
    clear hv hr0 hrT
    rw [if_pos rfl]
    go_enter Tryz.func65, Tryz.ntmps65
    go_wp2_with fail
    refine HC.out.mono ?_
    rintro e w' ⟨rfl, hb⟩
    have HB := Aside0.mk hb
    clear hb
    go_wp2_with fail
    go_ret
    exact ⟨_, rfl, Kd.R_nil _ _ _ _ _, HB.out⟩
  | false =>
    rw [hv] at HC
    have hall : ∀ x ∈ l0, Lec.isSetB 8 x = true := fun x hx => by
      have := List.any_eq_false.1 hv x hx
      simpa using this
    clear hv
    rw [if_neg (by decide)]
    have HALL := Aside0.mk hall
    clear hall
    have HT := Aside0.mk hrT
    have HR := Aside0.mk hr0
    clear hrT hr0
    by_cases hn : l0.length = 0
    · have he : l0 = [] := List.eq_nil_of_length_eq_zero hn
      subst he
      clear hn hlen
      have hz : Lec.lecticOf [] = [] := by decide +kernel
      rw [hz]
      clear hz
      have HCL : ∀ W, Calls Tryz.prog 78 #[.slice A0 0 c0] W fun e W' => ∃ p cap, e = .returned (.slice p 0 cap) ∧ Kd.R (Kd.int .i64) 3 W' W.heap.size (fun _ => True) (.slice p 0 cap) [] ∧ Below W.heap.size W W' := by
        intro W
        cases A0 with
        | none =>
          exact (Any.slices_Clone_int_nil Tryz.laysClone 0 c0 W).mono fun e W' ⟨he, hw⟩ => ⟨none, 0, he, Kd.R_nil _ _ _ _ _, by rw [hw]; exact Below.refl _ _⟩
        | some ad =>
          refine (Any.slices_Clone_int_zero Tryz.laysClone ad c0 W).mono fun e W' hh => ?_
          obtain ⟨v', he, ho, hne, hb⟩ := hh
          obtain ⟨p, cap, rfl⟩ := own_slice ho
          exact ⟨p, cap, he, Kd.R_of_own (enc := Value.int .i64) (h1 := fun _ => rfl) (xs := []) ho (fun _ _ => trivial), hb⟩
      have HCL := Aside0.mk HCL
      go_enter Tryz.func65, Tryz.ntmps65
      go_wp2_with fail
      refine HC.out.mono ?_
      rintro e wa ⟨rfl, hb⟩
      have HB := Aside0.mk hb
      clear hb
      go_wp2_with fail
      refine (HCL.out wa).mono ?_
      rintro e wb ⟨p, cap, rfl, hR, hb⟩
      have HR2 := Aside0.mk hR
      have HB2 := Aside0.mk hb
      clear hR hb
      go_wp2_with fail
      refine (AnyF.slices_SortFunc_none Tryz.laysSort0 p cap (.func (.func 80) #[] #[]) wb).mono ?_
      rintro e w' ⟨rfl, rfl⟩
      go_wp2_with fail
      refine (Any.slices_Compact_int_empty Tryz.laysCompact p cap w').mono ?_
      rintro e w'' ⟨rfl, rfl⟩
      go_wp2_with fail
      go_ret
      exact ⟨_, rfl, Kd.R_lower HR2.out HB.out.size, HB.out.trans (HB2.out.mono HB.out.size)⟩
    · obtain ⟨b, off, rfl⟩ := Lec.C_plain HR.out (by omega)
      have HCELL := Aside0.mk (Lec.cells_of_C HR.out)
      go_enter Tryz.func65, Tryz.ntmps65
      go_wp2_with fail
      refine HC.out.mono ?_
      rintro e wa ⟨rfl, hb⟩
      have HB := Aside0.mk hb
      clear hb
      go_wp2_with fail
      refine (Any.slices_Clone_int Tryz.laysClone b off l0.length c0 l0 wa (Nat.le_refl _) (by omega) (fun j hj => (HB.out.cell (World.block_lt_of_cell? w _ (HCELL.out j hj))).trans (HCELL.out j hj))).mono ?_
      rintro e wb ⟨v', rfl, ho, hne, hb⟩
      rw [List.take_of_length_le (Nat.le_refl _)] at ho
      obtain ⟨g, cap, rfl, hg, hlt, hn2, hm, _, _⟩ := Go.Lib.holds_of_ownsRow (enc := Value.int .i64) ho hne
      have HO := Aside0.mk ho
      have HB2 := Aside0.mk hb
      have HG := Aside0.mk hg
      have HN := Aside0.mk hn2
      clear ho hb hg hne hlt hm hn2
      go_wp2_with fail
      refine (Lec.sorted_row HALL.out hlen (TabW.below HT.out HB.out) HB2.out HG.out HO.out).mono ?_
      rintro e wc ⟨rfl, hb, zs, hzl, ho, hH, hcz⟩
      have HO3 := Aside0.mk ho
      have HB3 := Aside0.mk hb
      have HH3 := Aside0.mk hH
      have HCZ := Aside0.mk hcz
      have HZL := Aside0.mk hzl
      clear ho hb hH hcz hzl
      go_wp2_with fail
      have hcomp := Any.slices_Compact_int Tryz.laysCompact g 0 cap zs wc HH3.out (by have := HZL.out; omega) (by rw [HZL.out]; exact HN.out)
      rw [HZL.out, HCZ.out] at hcomp
      have HCO := Aside0.mk hcomp
      clear hcomp
      refine HCO.out.mono ?_
      rintro e wd ⟨rfl, q, rfl⟩
      have hle : (Lec.lecticOf l0).length ≤ l0.length := by
        rw [← HCZ.out, ← HZL.out]
        unfold Go.Lib.compact Go.Lib.compactUpTo
        rw [List.length_map]
        exact Nat.le_trans (List.length_filter_le _ _) (by rw [List.length_range]; exact Nat.le_refl _)
      have ho4 := Go.Lib.ownsRow_putRow (q := q) (k := (Lec.lecticOf l0).length) (ys := Lec.lecticOf l0 ++ List.replicate (l0.length - (Lec.lecticOf l0).length) 0) HO3.out (by rw [List.length_append, List.length_replicate]; omega) hle
      rw [List.take_left] at ho4
      have hb4 := Go.Lib.below_putRow (enc := Value.int .i64) (q := q) (d := (Lec.lecticOf l0 ++ List.replicate (l0.length - (Lec.lecticOf l0).length) 0).toArray) HB3.out HG.out
      have HO4 := Aside0.mk ho4
      have HB4 := Aside0.mk hb4
      clear ho4 hb4 hle
      go_wp2_with fail
      go_ret
      exact ⟨_, rfl, Kd.R_lower (Kd.R_of_own (enc := Value.int .i64) (h1 := fun _ => rfl) HO4.out (fun _ _ => trivial)) HB.out.size, HB.out.trans (HB4.out.mono HB.out.size)⟩

/-! ### impl_allSets: function 33 -/
def impl_allSets.l0 : Nat → List Int → Int → Int → Option (List Int)
  | 0, _, _, _ => none
  | k + 1, x3, x7, x8 => if x8 < x7 then (if x3.length < 17592186044416 then (impl_allSets.l0 k (x3 ++ [x8]) x7 (wrap64 (x8 + 1))) else (none)) else ((impl_SortLectic.f x3).bind fun t228 => (some t228))
def impl_allSets.f (k : Nat) (a0 : Int) : Option (List Int) := if 0 ≤ a0 then (impl_allSets.l0 k (([] : List Int)) (shl .i64 1 a0) 0) else (none)
theorem impl_allSets.mono_l : ∀ k, (∀ y0 y1 y2, LeO (impl_allSets.l0 k y0 y1 y2) (impl_allSets.l0 (k + 1) y0 y1 y2))
  | 0 => fun _ _ _ r h => by simp [impl_allSets.l0] at h
  | k + 1 => by
    have ih0 := impl_allSets.mono_l k
    · intro y0 y1 y2
      unfold impl_allSets.l0
      repeat' first
      | (with_reducible exact ih0 _ _ _)
      | (with_reducible exact LeO.refl _)
      | (with_reducible exact LeO.none _)
      | (with_reducible refine LeO.ite ?_ ?_)
      | (with_reducible refine LeO.bind ?_ (fun _ => ?_))
      | exact ih0 _ _ _
      | exact LeO.none _
      | refine LeO.ite ?_ ?_
      | refine LeO.bind ?_ (fun _ => ?_)
theorem impl_allSets.mono : ∀ a0 k, LeO (impl_allSets.f k a0) (impl_allSets.f (k + 1) a0) := by
  intro a0 k
  have ih0 := impl_allSets.mono_l k
  unfold impl_allSets.f
  repeat' first
      | (with_reducible exact ih0 _ _ _)
      | (with_reducible exact LeO.refl _)
      | (with_reducible exact LeO.none _)
      | (with_reducible refine LeO.ite ?_ ?_)
      | (with_reducible refine LeO.bind ?_ (fun _ => ?_))
      | exact ih0 _ _ _
      | exact LeO.none _
      | refine LeO.ite ?_ ?_
      | refine LeO.bind ?_ (fun _ => ?_)
set_option maxHeartbeats 8000000 in
set_option maxRecDepth 100000 in
theorem impl_allSets.calls (k : Nat) (a0 : Int) (r : List Int) (w : World) (hrT : TabW w) (h : impl_allSets.f k a0 = some r) :
    Calls Tryz.prog 33 #[.int .i64 a0] w fun e w' => ∃ v0_ : Value, e = .returned (v0_) ∧ Kd.R (Kd.int .i64) 3 w' w.heap.size (fun _ => True) v0_ r ∧ Below w.heap.size w w' := by
  have HRT := Aside0.mk hrT
  clear hrT
  have HB := Aside0.mk (Below.refl w.heap.size w)
  have H : (if 0 ≤ a0 then (impl_allSets.l0 k (([] : List Int)) (shl .i64 1 a0) 0) else (none)) = some r := h
  clear h
  obtain ⟨y222, hy222⟩ : ∃ y_ : List Int, y_ = (([] : List Int)) := ⟨_, rfl⟩
  replace H : (if 0 ≤ a0 then (impl_allSets.l0 k y222 (shl .i64 1 a0) 0) else (none)) = some r := by first | (rw [hy222]; with_reducible exact H) | (have H2_ := (Option.bind_some _ _).symm.trans H; rw [hy222]; with_reducible exact H2_) | (have H2_ := (Option.bind_some _ _).symm.trans H; with_reducible exact H2_) | with_reducible exact H | (rw [hy222]; exact H) | exact H
  have Ny222 := Aside0.mk hy222
  clear hy222
  by_cases c2 : 0 ≤ a0
  · rw [if_pos c2] at H
    have c2b0 := eq_true c2
    have c2b1 : decide (0 ≤ a0) = true := decide_eq_true c2
    clear c2
    obtain ⟨ji3, hji3⟩ : ∃ j_ : Int, (shl .i64 1 a0) = j_ := ⟨_, rfl⟩
    replace H : (impl_allSets.l0 k y222 ji3 0) = some r := by first | (rw [hji3] at H; exact H) | (simp only [hji3] at H ⊢; exact H)
    have hji3_ : (IntKind.i64.wrap (1 * 2 ^ min a0.toNat 64)) = ji3 := hji3
    have hji3z : a0 ≤ 64 → (IntKind.i64.wrap (1 * 2 ^ a0.toNat)) = ji3 := shl_small hji3
    have hji3u : (IntKind.i64.wrap (2 ^ min a0.toNat 64)) = ji3 := by have h_ := hji3_; rw [Int.one_mul] at h_; exact h_
    have hji3v : a0 ≤ 64 → (IntKind.i64.wrap (2 ^ a0.toNat)) = ji3 := fun hle_ => by have h_ := hji3z hle_; rw [Int.one_mul] at h_; exact h_
    have hji3y : (wrap64 (1 * 2 ^ min a0.toNat 64)) = ji3 := (i64_w _).symm.trans hji3_
    have hji3x : a0 ≤ 64 → (wrap64 (1 * 2 ^ a0.toNat)) = ji3 := fun h_ => (i64_w _).symm.trans (hji3z h_)
    have H' := Aside0.mk H
    clear H
    go_enter Tryz.func33, Tryz.ntmps33
    go_wp2_with (first | ((with_reducible refine gate_dst (N := 5) rfl ?_); refine Kd.R_lit (Kd.int .i64) _ 3 ?hg (N := 5) ?hd (xs := ([] : List Int)) (inner := []) (ok := fun _ => True) (okp := fun _ => True) ?hr ?hp (fun _ hk => hk) trivial (Below.refl _ _) (Nat.le_refl _) (by simp) ?_; (case hd => rfl); (case hg => rfl); (case hr => first | (go_simp; done) | (go_simp; rfl)); (case hp => exact (Reps.none _ _)); intro v223 w4 ho5 hb hg_ hnew_; clear hg_ hnew_; (first | rw [← Ny222.out] at ho5 | (simp only [Int.reduceToNat] at ho5; rw [← Ny222.out] at ho5)); have HO224 := Aside0.mk (Kd.R_lower ho5 (below_size hB_)); replace HB := kH HB hb; clear hb ho5))
    go_loopg [3, 8] k (fun kq v3 v8 w' => ∃ (x3_1 : List Int) (x8_1 : Int), v8 = .int .i64 x8_1 ∧ Aside0 (impl_allSets.l0 kq x3_1 ji3 x8_1 = some r) ∧ Aside0 (kq ≤ k) ∧ Aside0 (Kd.R (Kd.int .i64) 3 w' w.heap.size (fun _ => True) v3 x3_1) ∧ Aside0 (Below w.heap.size w w'))
    case atStart => exact ⟨(y222), (0), (by first | rfl | (simp; done) | (simp [*]; done)), H', ⟨Nat.le_refl _⟩, ⟨by (with_reducible repeat (first | apply Kd.R_alloc | apply Kd.R_drewN | apply Kd.R_drew)); exact HO224.out⟩, ⟨hB_⟩⟩
    case round =>
      clear H'
      try clear c2
      try clear c2b0
      try clear c2b1
      try clear p2
      try clear c3
      obtain ⟨x3_1, x8_1, rfl, HA, HK1, HO_3, HB⟩ := hrel
      cases gk with
      | zero => exact absurd HA.out (by simp [impl_allSets.l0])
      | succ k1 =>
        have H := HA.out
        clear HA
        simp only [impl_allSets.l0] at H
        by_cases c6 : x8_1 < ji3
        · rw [if_pos c6] at H
          have c6b0 : decide (x8_1 < ji3) = true := decide_eq_true c6
          clear c6
          by_cases c7 : x3_1.length < 17592186044416
          · rw [if_pos c7] at H
            have LMc7 := Aside0.mk c7
            clear c7
            obtain ⟨y225, hy225⟩ : ∃ y_ : List Int, y_ = (x3_1 ++ [x8_1]) := ⟨_, rfl⟩
            replace H : (impl_allSets.l0 k1 y225 ji3 (wrap64 (x8_1 + 1))) = some r := by first | (rw [hy225]; with_reducible exact H) | (have H2_ := (Option.bind_some _ _).symm.trans H; rw [hy225]; with_reducible exact H2_) | (have H2_ := (Option.bind_some _ _).symm.trans H; with_reducible exact H2_) | with_reducible exact H | (rw [hy225]; exact H) | exact H
            have Ny225 := Aside0.mk hy225
            clear hy225
            have H' := Aside0.mk H
            clear H
            go_wp2_with (first | ((with_reducible refine gate_builtin (b := .append) (xs := #[.tmp 11, .tmp 13]) rfl ?_); at_builtin; refine Kd.R_append (Kd.int .i64) (w0 := w) w.heap.size rfl (.tmp 11) (.tmp 13) 24 3 (.int .i64 0) 8 rfl Tryz.underlying24 info3 rfl (by decide) (by omega) u3 x3_1 x8_1 [.int .i64 x8_1] (fun _ => True) (fun _ => False) rfl rfl ?aP (fun _ hk => hk.elim) ?aF ?aO ?aB ?aS ?aL ?_; (case aP => exact rfl); (case aB => exact hB_); (case aF => exact (fun _ _ => trivial)); (case aO => exact (rW HO_3.out)); (case aS => exact (below_size hB_)); (case aL => have := LMc7.out; omega); intro v226 w8 ho hb hg hat; rw [← Ny225.out] at ho; replace HB := Aside0.mk (hb); have HO227 := Aside0.mk (ho); clear HO_3; clear ho hb hg hat))
            go_roundg k1
            case measure => have := HK1.out; omega
            case rel => exact ⟨(y225), (wrap64 (x8_1 + 1)), (by first | rfl | (simp; done) | (simp [*]; done)), H', ⟨by have := HK1.out; omega⟩, ⟨by (with_reducible repeat (first | apply Kd.R_alloc | apply Kd.R_drewN | apply Kd.R_drew)); exact HO227.out⟩, ⟨hB_⟩⟩
          · rw [if_neg c7] at H
            exact absurd H (by simp)
        · rw [if_neg c6] at H
          have c6b0 : decide (x8_1 < ji3) = false := decide_eq_false c6
          clear c6
          replace H := aB H
          obtain ⟨t228, A9, H⟩ := H
          obtain rfl := Option.some.inj H
          obtain ⟨Ao10, co10, eo10⟩ := Kd.R_slice HO_3.out
          subst eo10
          go_wp2_with (first | ((with_reducible refine gate_callee (f := 65) rfl ?_); refine goesL_ (some 17) rfl rfl Tryz.func65 (by kernel_rfl) rfl #[.slice Ao10 x3_1.length co10] rfl gL_ ?_; (with_reducible refine (impl_SortLectic.calls _ _ x3_1 t228 _ ?side1 ?side2 ?sideT A9.out).mono ?_); (case sideT => exact hT_); (case side1 => exact rC HO_3); (case side2 => exact (Kd.R_reads' HO_3.out).2.1); rintro e w11 ⟨v229, rfl, ho0, hb⟩; refine ⟨_, rfl, ?_⟩; have HO230 := Aside0.mk (Kd.R_lower (Kd.R_new' ho0 (Kd.R_lt (rW HO_3.out))) (below_size hB_)); replace HO_3 := kE HO_3 ho0 hb; replace HB := kH HB hb; clear hb ho0))
          go_ret
          exact ⟨_, by first | rfl | (simp [errW_none, errW_some] <;> rfl) | (simp only [← hji3]; first | rfl | (simp [errW_none, errW_some] <;> rfl)) | (simp [*, errW_none, errW_some] <;> rfl), by (with_reducible repeat (first | apply Kd.R_alloc | apply Kd.R_drewN | apply Kd.R_drew)); exact Kd.R_mono HO230.out (fun _ hk => trivial), hB_⟩
  · rw [if_neg c2] at H
    exact absurd H (by simp)

end Go.Proofs.YtodmfdkmmpefpaaGreatDoor.PFnConcepts
