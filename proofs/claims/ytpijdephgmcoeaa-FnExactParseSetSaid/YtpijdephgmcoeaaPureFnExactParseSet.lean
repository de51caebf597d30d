/- For every input the law answers true. No condition. -/
import Derived.Test.YtpijdephgmcoeaaPFnExactParseSetx2
set_option linter.unusedVariables false
set_option linter.unusedSimpArgs false
namespace Go.Proofs.Ytpijdephgmcoeaa.Pure
open Go.RowKit Go.Proofs.Ytpijdephgmcoeaa.PFnExactParseSet Go.Proofs.YtpijdephgmcoeaaW.PrintWords Go.Proofs.YtpijdephgmcoeaaW.PrintLast
/-- The full set of n elements. -/
def full (n : Int) : Int := (2 : Int) ^ n.toNat - 1
def isSetB (n s : Int) : Bool := decide (0 ≤ n ∧ n ≤ 8 ∧ 0 ≤ s ∧ s ≤ full n)
def hasB (s e : Int) : Bool := s.toNat.testBit e.toNat
theorem nine {n : Int} (h0 : 0 ≤ n) (h1 : n ≤ 8) : n = 0 ∨ n = 1 ∨ n = 2 ∨ n = 3 ∨ n = 4 ∨ n = 5 ∨ n = 6 ∨ n = 7 ∨ n = 8 := by omega
theorem full_bd {n : Int} (h0 : 0 ≤ n) (h1 : n ≤ 8) : 0 ≤ full n ∧ full n ≤ 255 := by
  rcases nine h0 h1 with rfl | rfl | rfl | rfl | rfl | rfl | rfl | rfl | rfl <;> decide +kernel
theorem isSetB_bd {n s : Int} (h : isSetB n s = true) : 0 ≤ n ∧ n ≤ 8 ∧ 0 ≤ s ∧ s ≤ full n ∧ s ≤ 255 := by
  unfold isSetB at h
  have h := of_decide_eq_true h
  have := full_bd h.1 h.2.1
  omega
theorem isSetB8 (s : Int) : isSetB 8 s = decide (0 ≤ s ∧ s ≤ 255) := by
  unfold isSetB
  have : full 8 = 255 := by decide +kernel
  rw [this]; simp
theorem shl_full {n : Int} (h0 : 0 ≤ n) (h1 : n ≤ 8) : wrap64 (shl .i64 1 n - 1) = full n := by
  rcases nine h0 h1 with rfl | rfl | rfl | rfl | rfl | rfl | rfl | rfl | rfl <;> decide +kernel
theorem u64_small {n : Int} (h0 : 0 ≤ n) (h1 : n < 18446744073709551616) : IntKind.u64.wrap n = n := by
  simp only [IntKind.wrap, IntKind.bits, IntKind.signed]; simp; omega
theorem u64_nonneg (n : Int) : 0 ≤ IntKind.u64.wrap n := by
  simp only [IntKind.wrap, IntKind.bits, IntKind.signed]; simp; omega
theorem w64 {n : Int} (h0 : -9223372036854775808 ≤ n) (h1 : n < 9223372036854775808) : wrap64 n = n := by unfold wrap64; omega
theorem i64_small (n : Int) (h0 : 0 ≤ n) (h1 : n < 2 ^ 63) : IntKind.i64.wrap n = n := by rw [IntKind.wrap_i64]; omega
theorem and_nat (a b : Nat) (ha : a < 2 ^ 63) (hb : b < 2 ^ 63) : Go.bits .and .i64 a b = ((a &&& b : Nat) : Int) := (bits_nat .i64 63 (by decide) (fun n h0 h1 => i64_small n h0 h1) a b ha hb).1
theorem or_nat (a b : Nat) (ha : a < 2 ^ 63) (hb : b < 2 ^ 63) : Go.bits .or .i64 a b = ((a ||| b : Nat) : Int) := (bits_nat .i64 63 (by decide) (fun n h0 h1 => i64_small n h0 h1) a b ha hb).2
/-- What is in a and not in b. -/
def dif (a b : Nat) : Nat := a ^^^ (a &&& b)
theorem dif_bit (a b i : Nat) : (dif a b).testBit i = (a.testBit i && !b.testBit i) := by
  unfold dif; rw [Nat.testBit_xor, Nat.testBit_and]; cases a.testBit i <;> cases b.testBit i <;> rfl
theorem dif_lt (a b n : Nat) (ha : a < 2 ^ n) : dif a b < 2 ^ n := Nat.xor_lt_two_pow ha (Nat.lt_of_le_of_lt Nat.and_le_left ha)
theorem andNot_nat (a b : Nat) (ha : a < 2 ^ 63) (hb : b < 2 ^ 63) : Go.bits .andNot .i64 a b = ((dif a b : Nat) : Int) := by
  simp only [Go.bits, BitVec.ofInt_natCast, IntKind.bits]
  have e : (BitVec.ofNat 64 a &&& ~~~BitVec.ofNat 64 b).toNat = dif a b := by
    apply Nat.eq_of_testBit_eq
    intro i
    rw [dif_bit, BitVec.testBit_toNat, BitVec.getLsbD_and, BitVec.getLsbD_not, BitVec.getLsbD_ofNat, BitVec.getLsbD_ofNat]
    by_cases hi : i < 64
    · simp [hi]
    · have : a.testBit i = false := Nat.testBit_lt_two_pow (Nat.lt_of_lt_of_le ha (Nat.pow_le_pow_right (by decide) (by omega)))
      simp [hi, this]
  have hl := dif_lt a b 63 ha
  have e2 : IntKind.i64.wrap ((dif a b : Nat) : Int) = ((dif a b : Nat) : Int) := i64_small _ (by omega) (by exact_mod_cast hl)
  exact (congrArg (fun n : Nat => IntKind.i64.wrap (n : Int)) e).trans e2
theorem and_eq_iff_dif (a b : Nat) : (a &&& b = a) ↔ dif a b = 0 := by
  constructor
  · intro h; unfold dif; rw [h, Nat.xor_self]
  · intro h
    apply Nat.eq_of_testBit_eq; intro i
    have h2 := dif_bit a b i
    rw [h, Nat.zero_testBit] at h2
    rw [Nat.testBit_and]
    cases ha : a.testBit i <;> cases hb : b.testBit i <;> simp [ha, hb] at h2 ⊢
theorem bit_nat (s e : Nat) (hs : s < 2 ^ 63) (he : e ≤ 63) : (Go.bits .and .i64 (shr .i64 (s : Int) (e : Int)) 1 == 1) = s.testBit e := by
  have h1 : shr .i64 (s : Int) (e : Int) = ((s / 2 ^ e : Nat) : Int) := by
    unfold shr
    rw [Int.toNat_natCast, Nat.min_eq_left (by simp [IntKind.bits]; omega)]
    simp
  have h2 : s / 2 ^ e < 2 ^ 63 := Nat.lt_of_le_of_lt (Nat.div_le_self _ _) hs
  rw [h1, show (1 : Int) = ((1 : Nat) : Int) from rfl, and_nat _ _ h2 (by decide), Nat.and_one_is_mod, Nat.testBit_eq_decide_div_mod_eq]
  have : ((((s / 2 ^ e % 2 : Nat) : Int)) == ((1 : Nat) : Int)) = decide (s / 2 ^ e % 2 = 1) := by
    generalize s / 2 ^ e % 2 = q
    rw [Bool.eq_iff_iff, beq_iff_eq, decide_eq_true_iff]; omega
  exact this
theorem bit_int {s e : Int} (hs0 : 0 ≤ s) (hs : s < 9223372036854775808) (he0 : 0 ≤ e) (he : e ≤ 63) : (Go.bits .and .i64 (shr .i64 s e) 1 == 1) = hasB s e := by
  obtain ⟨a, rfl⟩ := Int.eq_ofNat_of_zero_le hs0
  obtain ⟨b, rfl⟩ := Int.eq_ofNat_of_zero_le he0
  exact bit_nat a b (by omega) (by omega)

theorem all256 {P : Int → Prop} (h : ∀ s : Fin 256, P ((s.val : Nat) : Int)) {s : Int} (hs : isSetB 8 s = true) : P s := by
  have hb := isSetB_bd hs
  obtain ⟨a, rfl⟩ := Int.eq_ofNat_of_zero_le hb.2.2.1
  exact h ⟨a, by omega⟩

theorem spec_IsSet_eq (n s : Int) : spec_IsSet.f n s = some (isSetB n s) := by
  unfold spec_IsSet.f spec_l1In.f isSetB
  by_cases h0 : 0 ≤ n
  · by_cases h1 : n ≤ 8
    · have hw := u64_small h0 (by omega)
      rw [hw, shl_full h0 h1]
      by_cases h2 : 0 ≤ s <;> simp [h0, h1, h2]
    · simp [h0, h1]
  · simp [h0]

theorem spec_l2Has_eq {s e : Int} (hs0 : 0 ≤ s) (hs : s < 9223372036854775808) (he0 : 0 ≤ e) (he : e ≤ 63) : spec_l2Has.f s e = some (hasB s e) := by
  unfold spec_l2Has.f
  rw [u64_small he0 (by omega), if_pos he0, bit_int hs0 hs he0 he]

theorem spec_HasElement_eq (s e : Int) : spec_HasElement.f s e = some (isSetB 8 s && (decide (0 ≤ e ∧ e ≤ 7) && hasB s e)) := by
  unfold spec_HasElement.f spec_l1In.f
  rw [spec_IsSet_eq]
  by_cases h : isSetB 8 s = true
  · have := isSetB_bd h
    by_cases h0 : 0 ≤ e
    · by_cases h1 : e ≤ 7
      · have h2 := spec_l2Has_eq (s := s) (e := e) (by omega) (by omega) h0 (by omega)
        simp [h, h0, h1, h2]
      · simp [h, h0, h1]
    · simp [h, h0]
  · simp [h]

/-- The elements of s, from 0 on. -/
def elems (s : Int) : List Int := ((List.range 8).filter (fun e => s.toNat.testBit e)).map (fun e : Nat => (e : Int))
theorem spec_ElementsOf_set {s : Int} (hs : isSetB 8 s = true) : spec_ElementsOf.f 9 s = some (elems s) :=
  all256 (P := fun s => spec_ElementsOf.f 9 s = some (elems s)) (by decide +kernel) hs
theorem spec_ElementsOf_no {s : Int} (hs : isSetB 8 s = false) : spec_ElementsOf.f 9 s = some [] := by
  have h (e : Int) : spec_HasElement.f s e = some false := by rw [spec_HasElement_eq, hs]; rfl
  unfold spec_ElementsOf.f
  simp [spec_ElementsOf.l0, h, wrap64]
theorem elems_len : ∀ s : Int, (elems s).length ≤ 8 := by
  intro s; unfold elems; rw [List.length_map]; exact List.length_filter_le _ (List.range 8)

theorem impl_IsSet_eq (n s : Int) : impl_IsSet.f n s = some (isSetB n s) := by
  unfold impl_IsSet.f impl_within.f isSetB
  by_cases h0 : 0 ≤ n
  · by_cases h1 : n ≤ 8
    · rw [shl_full h0 h1]
      by_cases h2 : 0 ≤ s <;> simp [h0, h1, h2]
    · simp [h0, h1]
  · simp [h0]

theorem impl_isAnySet_eq (s : Int) : impl_isAnySet.f s = some (isSetB 8 s) := by
  unfold impl_isAnySet.f; rw [impl_IsSet_eq]; rfl

theorem impl_HasElement_eq (s e : Int) : impl_HasElement.f s e = some (isSetB 8 s && (decide (0 ≤ e ∧ e ≤ 7) && hasB s e)) := by
  unfold impl_HasElement.f impl_within.f
  rw [impl_isAnySet_eq]
  by_cases h : isSetB 8 s = true
  · have := isSetB_bd h
    by_cases h0 : 0 ≤ e
    · by_cases h1 : e ≤ 7
      · have h2 := bit_int (s := s) (e := e) (by omega) (by omega) h0 (by omega)
        simp [h, h0, h1, h2]
      · simp [h, h0, h1]
    · simp [h, h0]
  · simp [h]

theorem impl_ElementsOf_set {s : Int} (hs : isSetB 8 s = true) : impl_ElementsOf.f 9 s = some (elems s) :=
  all256 (P := fun s => impl_ElementsOf.f 9 s = some (elems s)) (by decide +kernel) hs
theorem impl_ElementsOf_no {s : Int} (hs : isSetB 8 s = false) : impl_ElementsOf.f 9 s = some [] := by
  have h (e : Int) : impl_HasElement.f s e = some false := by rw [impl_HasElement_eq, hs]; rfl
  unfold impl_ElementsOf.f
  simp [impl_ElementsOf.l0, h, wrap64]

/-- The letters of s. -/
def letters (s : Int) : List UInt8 := if s = 0 then [45] else ((List.range 8).filter (fun e => s.toNat.testBit e)).map (fun e : Nat => (97 + e).toUInt8)
/-- SetText. -/
def setText (s : Int) : List UInt8 := if isSetB 8 s then letters s else []
theorem map_some {α β : Type} {o : Option α} {f : α → β} {y : β} (h : o.map f = some y) : ∃ x, o = some x ∧ f x = y := by
  cases o with
  | none => cases h
  | some x => exact ⟨x, rfl, Option.some.inj h⟩
theorem spec_SetText_eq (s : Int) : ∃ b, spec_SetText.f 10 s = some b ∧ b.data.toList = setText s := by
  apply map_some (f := fun b : ByteArray => b.data.toList)
  cases hs : isSetB 8 s with
  | true => exact all256 (P := fun s => (spec_SetText.f 10 s).map (fun b : ByteArray => b.data.toList) = some (setText s)) (by decide +kernel) hs
  | false => unfold spec_SetText.f setText; rw [spec_IsSet_eq, hs]; rfl
theorem impl_SetText_eq (s : Int) : ∃ b, impl_SetText.f 10 s = some b ∧ b.data.toList = setText s := by
  apply map_some (f := fun b : ByteArray => b.data.toList)
  cases hs : isSetB 8 s with
  | true => exact all256 (P := fun s => (impl_SetText.f 10 s).map (fun b : ByteArray => b.data.toList) = some (setText s)) (by decide +kernel) hs
  | false => unfold impl_SetText.f setText; rw [impl_isAnySet_eq, hs]; rfl

theorem bt_list (s : ByteArray) (i : Nat) (h : i < s.size) : bt s (i : Int) = ((s.data.toList[i]'(by rw [Array.length_toList]; exact h)).toNat : Int) := by
  unfold bt
  rw [dif_pos (by rw [Int.toNat_natCast]; exact h)]
  simp only [Int.toNat_natCast]
  rfl
theorem size_list (s : ByteArray) : s.data.toList.length = s.size := by rw [Array.length_toList]; rfl

theorem wstep {i : Int} {n : Nat} (h0 : 0 ≤ i) (h : i < (n : Int)) (hn : n ≤ 281474976710656) : wrap64 (i + 1) = i + 1 := by unfold wrap64; omega
theorem rd_nat (l : List Int) (i : Nat) (h : i < l.length) : rd l (i : Int) = l[i] := by unfold rd; rw [Int.toNat_natCast, List.getD_eq_getElem?_getD, List.getElem?_eq_getElem h]; rfl

/-- Row g, as a natural number. -/
def row (a : List Int) (g : Nat) : Nat := (a.getD g 0).toNat
def RowsOk (a : List Int) : Prop := ∀ x ∈ a, 0 ≤ x ∧ x ≤ 255
theorem rd_row {a : List Int} (h : RowsOk a) {i : Nat} (hi : i < a.length) : rd a (i : Int) = (row a i : Int) := by
  rw [rd_nat a i hi]
  have := h a[i] (List.getElem_mem hi)
  unfold row
  rw [List.getD_eq_getElem?_getD, List.getElem?_eq_getElem hi, Option.getD_some, Int.toNat_of_nonneg this.1]
theorem row_lt {a : List Int} (h : RowsOk a) (i : Nat) : row a i < 256 := by
  unfold row
  by_cases hi : i < a.length
  · have := h a[i] (List.getElem_mem hi)
    rw [List.getD_eq_getElem?_getD, List.getElem?_eq_getElem hi, Option.getD_some]; omega
  · rw [List.getD_eq_getElem?_getD, List.getElem?_eq_none (by omega)]; decide
theorem shl_bit {b : Nat} (hb : b ≤ 1) {i : Nat} (hi : i ≤ 8) : shl .i64 (b : Int) (i : Int) = ((b * 2 ^ i : Nat) : Int) := by
  have h0 : b = 0 ∨ b = 1 := by omega
  have h1 : i = 0 ∨ i = 1 ∨ i = 2 ∨ i = 3 ∨ i = 4 ∨ i = 5 ∨ i = 6 ∨ i = 7 ∨ i = 8 := by omega
  rcases h0 with rfl | rfl <;> rcases h1 with rfl | rfl | rfl | rfl | rfl | rfl | rfl | rfl | rfl <;> decide +kernel
theorem shl_one {i : Nat} (hi : i ≤ 8) : shl .i64 1 (i : Int) = ((2 ^ i : Nat) : Int) := by
  have := shl_bit (b := 1) (by omega) hi
  rw [Nat.one_mul] at this
  exact this
theorem pow_le8 {i : Nat} (hi : i ≤ 8) : 2 ^ i ≤ 256 := Nat.le_trans (Nat.pow_le_pow_right (by decide) hi) (by decide)
theorem full_nat {n : Nat} : full (n : Int) = ((2 ^ n - 1 : Nat) : Int) := by
  unfold full
  rw [Int.toNat_natCast, Int.natCast_sub (Nat.two_pow_pos n)]; simp
theorem or_lt {a b n : Nat} (ha : a < 2 ^ n) (hb : b < 2 ^ n) : a ||| b < 2 ^ n := Nat.or_lt_two_pow ha hb
theorem two_pow_bit (i g : Nat) : (2 ^ i).testBit g = decide (i = g) := Nat.testBit_two_pow
theorem full_bit (n m : Nat) : (2 ^ n - 1).testBit m = decide (m < n) := Nat.testBit_two_pow_sub_one n m
/-- A set of n elements is below 2 ^ n. -/
theorem isSet_nat {n : Nat} {s : Int} (h : isSetB (n : Int) s = true) : ∃ t : Nat, s = (t : Int) ∧ t < 2 ^ n ∧ n ≤ 8 ∧ t < 256 := by
  have hb := isSetB_bd h
  obtain ⟨t, rfl⟩ := Int.eq_ofNat_of_zero_le hb.2.2.1
  rw [full_nat] at hb
  have := Nat.two_pow_pos n
  exact ⟨t, rfl, by omega, by omega, by omega⟩
theorem lt_bits {t n : Nat} (h : t < 2 ^ n) {m : Nat} (hm : n ≤ m) : t.testBit m = false := Nat.testBit_lt_two_pow (Nat.lt_of_lt_of_le h (Nat.pow_le_pow_right (by decide) hm))
theorem lt_of_bits {t n : Nat} (h : ∀ m, t.testBit m = true → m < n) : t < 2 ^ n := by
  refine Nat.lt_pow_two_of_testBit t fun i hi => ?_
  cases e : t.testBit i with
  | false => rfl
  | true => exact absurd (h i e) (by omega)
theorem isSet_mk {n t : Nat} (hn : n ≤ 8) (h : t < 2 ^ n) : isSetB (n : Int) (t : Int) = true := by
  unfold isSetB
  rw [full_nat]
  have := Nat.two_pow_pos n
  exact decide_eq_true ⟨by omega, by omega, by omega, by omega⟩

def foldP : Nat → List UInt8 → Option Nat
  | acc, [] => some acc
  | acc, c :: l => if 97 ≤ c.toNat ∧ c.toNat ≤ 104 then foldP (acc ||| 2 ^ (c.toNat - 97)) l else none
theorem foldP_lt : ∀ (l : List UInt8) (acc s : Nat), acc < 256 → foldP acc l = some s → s < 256
  | [], acc, s, h, e => by simp only [foldP, Option.some.injEq] at e; omega
  | c :: l, acc, s, h, e => by
    simp only [foldP] at e
    by_cases hc : 97 ≤ c.toNat ∧ c.toNat ≤ 104
    · rw [if_pos hc] at e
      refine foldP_lt l _ s (Nat.or_lt_two_pow (n := 8) h ?_) e
      exact Nat.pow_lt_pow_right (by decide) (by omega)
    · rw [if_neg hc] at e; cases e
/-- ParseSet: the first set whose text it is. -/
def parseR (T : List UInt8) : Int × Bool := match (List.range 256).find? (fun s => letters (s : Nat) = T) with
  | some s => ((s : Int), true)
  | none => (0, false)
theorem letters_facts : ∀ s : Fin 256, (s.val = 0 ∧ letters ((s.val : Nat) : Int) = [45]) ∨ (s.val ≠ 0 ∧ letters ((s.val : Nat) : Int) ≠ [45] ∧ foldP 0 (letters ((s.val : Nat) : Int)) = some s.val) := by decide +kernel
theorem setText_nat {s : Nat} (h : s < 256) : setText (s : Int) = letters (s : Int) := by
  unfold setText
  rw [isSetB8, decide_eq_true (by omega : (0 : Int) ≤ (s : Int) ∧ (s : Int) ≤ 255), if_pos rfl]
theorem parseR_yes {T : List UInt8} {s : Nat} (hs : s < 256) (h : letters (s : Int) = T) : parseR T = ((s : Int), true) := by
  unfold parseR
  cases e : (List.range 256).find? (fun s => letters ((s : Nat) : Int) = T) with
  | none =>
    have := List.find?_eq_none.1 e s (List.mem_range.2 hs)
    simp [h] at this
  | some t =>
    have h1 : letters (t : Int) = T := by simpa using List.find?_some e
    have h2 : t < 256 := List.mem_range.1 (List.mem_of_find?_eq_some e)
    have a := letters_facts ⟨s, hs⟩
    have b := letters_facts ⟨t, h2⟩
    simp only at a b
    rw [h] at a
    rw [h1] at b
    have : s = t := by
      rcases a with ⟨a1, a2⟩ | ⟨a1, a2, a3⟩ <;> rcases b with ⟨b1, b2⟩ | ⟨b1, b2, b3⟩
      · omega
      · exact absurd a2 b2
      · exact absurd b2 a2
      · exact Option.some.inj (a3.symm.trans b3)
    rw [this]
theorem parseR_no {T : List UInt8} (h : ∀ s : Nat, s < 256 → letters (s : Int) ≠ T) : parseR T = (0, false) := by
  unfold parseR
  cases e : (List.range 256).find? (fun s => letters ((s : Nat) : Int) = T) with
  | none => rfl
  | some t => exact absurd (by simpa using List.find?_some e) (h t (List.mem_range.1 (List.mem_of_find?_eq_some e)))

theorem spec_SetText_at {s : Int} {k : Nat} (hk : 10 ≤ k) : ∃ b, spec_SetText.f k s = some b ∧ b.data.toList = setText s := by
  obtain ⟨b, h, e⟩ := spec_SetText_eq s
  exact ⟨b, at_rounds (fun k => spec_SetText.mono s k) hk h, e⟩
def specEnd (T : List UInt8) : Option Nat → Int × Bool
  | none => (0, false)
  | some s => if setText (s : Int) = T then ((s : Int), true) else (0, false)
theorem specEnd_some (T : List UInt8) (s : Nat) : specEnd T (some s) = if setText (s : Int) = T then ((s : Int), true) else (0, false) := rfl
theorem spec_ParseSet_end (x : ByteArray) (acc : Nat) (i : Int) (k : Nat) (hk : 11 ≤ k) : spec_ParseSet.j1 k x (acc : Int) i false = some (specEnd x.data.toList (some acc)) := by
  obtain ⟨k, rfl⟩ : ∃ m, k = m + 1 := ⟨k - 1, by omega⟩
  simp only [spec_ParseSet.j1, specEnd]
  obtain ⟨b, h, e⟩ := spec_SetText_at (s := (acc : Int)) (k := k) (by omega)
  rw [if_neg (by decide), h, Option.bind_some, ByteArray.toList_eq, ByteArray.toList_eq, e]
  split <;> rfl
theorem spec_ParseSet_loop (x : ByteArray) (hT : x.data.toList ≠ [45]) (hn : x.size ≤ 281474976710656) : ∀ (d i k acc : Nat), i + d = x.size → 2 * d + 12 < k → acc < 256 → spec_ParseSet.l0 k x (acc : Int) (i : Int) = some (specEnd x.data.toList (foldP acc (x.data.toList.drop i)))
  | 0, i, k, acc, hi, hk, _ => by
    obtain ⟨k, rfl⟩ : ∃ m, k = m + 1 := ⟨k - 1, by omega⟩
    have hl := size_list x
    simp only [spec_ParseSet.l0]
    rw [if_neg (by omega), List.drop_eq_nil_of_le (by omega), spec_ParseSet_end x acc _ k (by omega)]
    rfl
  | d + 1, i, k, acc, hi, hk, hacc => by
    obtain ⟨k, rfl⟩ : ∃ m, k = m + 1 + 1 := ⟨k - 2, by omega⟩
    have hl := size_list x
    have h1 : i < x.data.toList.length := by omega
    have e0 : (x.toList != ([45] : List UInt8)) = true := by rw [ByteArray.toList_eq]; simp [hT]
    simp only [spec_ParseSet.l0]
    rw [if_pos (by omega), e0, List.drop_eq_getElem_cons h1]
    simp only [spec_ParseSet.j1, foldP]
    have eb := bt_list x i (by omega)
    rw [if_pos True.intro, if_pos (by omega), if_pos (by omega), eb]
    generalize (x.data.toList[i]) = c
    by_cases g1 : 97 ≤ c.toNat
    · by_cases g2 : c.toNat ≤ 104
      · have hp : 2 ^ (c.toNat - 97) < 2 ^ 8 := Nat.pow_lt_pow_right (by decide) (by omega)
        have e1 : ((c.toNat : Int) - 97) % 256 = ((c.toNat - 97 : Nat) : Int) := by omega
        rw [if_neg (by omega), if_neg (by omega), if_pos ⟨g1, g2⟩, e1, shl_one (by omega), or_nat _ _ (by omega) (by omega), wstep (n := x.size) (by omega) (by omega) hn, show (i : Int) + 1 = ((i + 1 : Nat) : Int) from by omega]
        exact spec_ParseSet_loop x hT hn d (i + 1) k _ (by omega) (by omega) (Nat.or_lt_two_pow (n := 8) hacc hp)
      · rw [if_neg (by omega), if_pos (by omega), if_neg (by omega)]; rfl
    · rw [if_pos (by omega), if_neg (by omega)]; rfl
theorem spec_ParseSet_eq (x : ByteArray) (hn : x.size ≤ 281474976710656) {k : Nat} (hk : 2 * x.size + 20 ≤ k) : spec_ParseSet.f k x = some (parseR x.data.toList) := by
  unfold spec_ParseSet.f
  by_cases hT : x.data.toList = [45]
  · obtain ⟨k, rfl⟩ : ∃ m, k = m + 1 := ⟨k - 1, by omega⟩
    have e0 : (x.toList != ([45] : List UInt8)) = false := by rw [ByteArray.toList_eq, hT]; decide
    have e1 : parseR x.data.toList = (0, true) := parseR_yes (s := 0) (by decide) (by rw [hT]; rfl)
    have e2 : specEnd x.data.toList (some 0) = (0, true) := by
      rw [specEnd_some, hT, if_pos (by decide +kernel)]; rfl
    have hl := size_list x
    rw [hT] at hl
    have hz : x.size = 1 := by rw [← hl]; rfl
    simp only [spec_ParseSet.l0]
    rw [if_pos (by omega), e0, e1, ← e2]
    exact spec_ParseSet_end x 0 _ k (by omega)
  · have := spec_ParseSet_loop x hT hn x.size 0 k 0 (by omega) (by omega) (by omega)
    rw [List.drop_zero] at this
    rw [show (0 : Int) = ((0 : Nat) : Int) from rfl, this]
    congr 1
    by_cases hh : ∃ s : Nat, s < 256 ∧ letters (s : Int) = x.data.toList
    · obtain ⟨s, hs, h⟩ := hh
      rw [parseR_yes hs h]
      rcases letters_facts ⟨s, hs⟩ with ⟨_, h2⟩ | ⟨_, _, h2⟩
      · exact absurd (h.symm.trans h2) hT
      · rw [h] at h2
        rw [h2]
        show specEnd _ (some s) = _
        rw [specEnd_some, setText_nat hs, h, if_pos rfl]
    · rw [parseR_no (fun s hs h => hh ⟨s, hs, h⟩)]
      cases e : foldP 0 x.data.toList with
      | none => rfl
      | some s =>
        have hs := foldP_lt _ 0 s (by decide) e
        rw [specEnd_some, setText_nat hs, if_neg (fun h => hh ⟨s, hs, h⟩)]

theorem impl_SetText_at {s : Int} {k : Nat} (hk : 10 ≤ k) : ∃ b, impl_SetText.f k s = some b ∧ b.data.toList = setText s := by
  obtain ⟨b, h, e⟩ := impl_SetText_eq s
  exact ⟨b, at_rounds (fun k => impl_SetText.mono s k) hk h, e⟩
theorem impl_ParseSet_loop (x : ByteArray) : ∀ (d i k : Nat), i + d = 256 → d + 12 < k → (∀ s : Nat, s < i → letters (s : Int) ≠ x.data.toList) → impl_ParseSet.l0 k x (i : Int) = some (parseR x.data.toList)
  | 0, i, k, hi, hk, hno => by
    obtain ⟨k, rfl⟩ : ∃ m, k = m + 1 := ⟨k - 1, by omega⟩
    simp only [impl_ParseSet.l0]
    rw [if_neg (by omega), parseR_no (fun s hs => hno s (by omega))]
  | d + 1, i, k, hi, hk, hno => by
    obtain ⟨k, rfl⟩ : ∃ m, k = m + 1 := ⟨k - 1, by omega⟩
    obtain ⟨b, h, e⟩ := impl_SetText_at (s := (i : Int)) (k := k) (by omega)
    simp only [impl_ParseSet.l0]
    rw [if_pos (by omega), h, Option.bind_some, ByteArray.toList_eq, ByteArray.toList_eq, e, setText_nat (by omega)]
    by_cases hh : letters (i : Int) = x.data.toList
    · rw [if_pos hh, parseR_yes (by omega) hh]
    · rw [if_neg hh, w64 (by omega) (by omega), show (i : Int) + 1 = ((i + 1 : Nat) : Int) from by omega]
      refine impl_ParseSet_loop x d (i + 1) k (by omega) (by omega) (fun s hs => ?_)
      by_cases e : s = i
      · subst e; exact hh
      · exact hno s (by omega)
theorem impl_ParseSet_eq (x : ByteArray) {k : Nat} (hk : 270 ≤ k) : impl_ParseSet.f k x = some (parseR x.data.toList) := by
  unfold impl_ParseSet.f
  exact impl_ParseSet_loop x 256 0 k (by omega) (by omega) (fun s hs => absurd hs (Nat.not_lt_zero _))

theorem FnExactParseSet : laws_FnExactParseSet.Pure := by
  intro x hx
  refine ⟨2 * x.size + 300, ?_⟩
  unfold laws_FnExactParseSet.f
  by_cases h : (x.size : Int) > 1048576
  · rw [if_pos h]
  · rw [if_neg h, spec_ParseSet_eq x (by omega) (by omega), impl_ParseSet_eq x (by omega)]
    simp

end Go.Proofs.Ytpijdephgmcoeaa.Pure
