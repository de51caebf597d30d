/- For every input the law answers true. No condition. -/
import Derived.Test.YtpnnichlkaedlaaDoorPFnExactFormatIntx1
set_option linter.unusedVariables false
set_option linter.unusedSimpArgs false
namespace Go.Proofs.YtpnnichlkaedlaaDoor.Pure
open Go.RowKit Go.Proofs.YtpnnichlkaedlaaDoor.PFnExactFormatInt Go.Proofs.YtpnnichlkaedlaaDoorW.PrintWords Go.Proofs.YtpnnichlkaedlaaDoorW.PrintLast
/-- The full set of n elements. -/
def full (n : Int) : Int := (2 : Int) ^ n.toNat - 1
def isSetB (n s : Int) : Bool := decide (0 ≤ n ∧ n ≤ 8 ∧ 0 ≤ s ∧ s ≤ full n)
def hasB (s e : Int) : Bool := s.toNat.testBit e.toNat
theorem nine {n : Int} (h0 : 0 ≤ n) (h1 : n ≤ 8) : n = 0 ∨ n = 1 ∨ n = 2 ∨ n = 3 ∨ n = 4 ∨ n = 5 ∨ n = 6 ∨ n = 7 ∨ n = 8 := by omega
theorem full_bd {n : Int} (h0 : 0 ≤ n) (h1 : n ≤ 8) : 0 ≤ full n ∧ full n ≤ 255 := by
  rcases nine h0 h1 with rfl | rfl | rfl | rfl | rfl | rfl | rfl | rfl | rfl <;> decide +kernel
theorem isSetB_bd {n s : Int} (h : isSetB n s = true) : 0 ≤ n ∧ n ≤ 8 ∧ 0 ≤ s ∧ s ≤ full n ∧ s ≤ 255 := by
  unfold isSetB at h
  have h := of_decide_eq_true h
  have := full_bd h.1 h.2.1
  omega
theorem isSetB8 (s : Int) : isSetB 8 s = decide (0 ≤ s ∧ s ≤ 255) := by
  unfold isSetB
  have : full 8 = 255 := by decide +kernel
  rw [this]; simp
theorem shl_full {n : Int} (h0 : 0 ≤ n) (h1 : n ≤ 8) : wrap64 (shl .i64 1 n - 1) = full n := by
  rcases nine h0 h1 with rfl | rfl | rfl | rfl | rfl | rfl | rfl | rfl | rfl <;> decide +kernel
theorem u64_small {n : Int} (h0 : 0 ≤ n) (h1 : n < 18446744073709551616) : IntKind.u64.wrap n = n := by
  simp only [IntKind.wrap, IntKind.bits, IntKind.signed]; simp; omega
theorem u64_nonneg (n : Int) : 0 ≤ IntKind.u64.wrap n := by
  simp only [IntKind.wrap, IntKind.bits, IntKind.signed]; simp; omega
theorem w64 {n : Int} (h0 : -9223372036854775808 ≤ n) (h1 : n < 9223372036854775808) : wrap64 n = n := by unfold wrap64; omega
theorem i64_small (n : Int) (h0 : 0 ≤ n) (h1 : n < 2 ^ 63) : IntKind.i64.wrap n = n := by rw [IntKind.wrap_i64]; omega
theorem and_nat (a b : Nat) (ha : a < 2 ^ 63) (hb : b < 2 ^ 63) : Go.bits .and .i64 a b = ((a &&& b : Nat) : Int) := (bits_nat .i64 63 (by decide) (fun n h0 h1 => i64_small n h0 h1) a b ha hb).1
theorem or_nat (a b : Nat) (ha : a < 2 ^ 63) (hb : b < 2 ^ 63) : Go.bits .or .i64 a b = ((a ||| b : Nat) : Int) := (bits_nat .i64 63 (by decide) (fun n h0 h1 => i64_small n h0 h1) a b ha hb).2
/-- What is in a and not in b. -/
def dif (a b : Nat) : Nat := a ^^^ (a &&& b)
theorem dif_bit (a b i : Nat) : (dif a b).testBit i = (a.testBit i && !b.testBit i) := by
  unfold dif; rw [Nat.testBit_xor, Nat.testBit_and]; cases a.testBit i <;> cases b.testBit i <;> rfl
theorem dif_lt (a b n : Nat) (ha : a < 2 ^ n) : dif a b < 2 ^ n := Nat.xor_lt_two_pow ha (Nat.lt_of_le_of_lt Nat.and_le_left ha)
theorem andNot_nat (a b : Nat) (ha : a < 2 ^ 63) (hb : b < 2 ^ 63) : Go.bits .andNot .i64 a b = ((dif a b : Nat) : Int) := by
  simp only [Go.bits, BitVec.ofInt_natCast, IntKind.bits]
  have e : (BitVec.ofNat 64 a &&& ~~~BitVec.ofNat 64 b).toNat = dif a b := by
    apply Nat.eq_of_testBit_eq
    intro i
    rw [dif_bit, BitVec.testBit_toNat, BitVec.getLsbD_and, BitVec.getLsbD_not, BitVec.getLsbD_ofNat, BitVec.getLsbD_ofNat]
    by_cases hi : i < 64
    · simp [hi]
    · have : a.testBit i = false := Nat.testBit_lt_two_pow (Nat.lt_of_lt_of_le ha (Nat.pow_le_pow_right (by decide) (by omega)))
      simp [hi, this]
  have hl := dif_lt a b 63 ha
  have e2 : IntKind.i64.wrap ((dif a b : Nat) : Int) = ((dif a b : Nat) : Int) := i64_small _ (by omega) (by exact_mod_cast hl)
  exact (congrArg (fun n : Nat => IntKind.i64.wrap (n : Int)) e).trans e2
theorem and_eq_iff_dif (a b : Nat) : (a &&& b = a) ↔ dif a b = 0 := by
  constructor
  · intro h; unfold dif; rw [h, Nat.xor_self]
  · intro h
    apply Nat.eq_of_testBit_eq; intro i
    have h2 := dif_bit a b i
    rw [h, Nat.zero_testBit] at h2
    rw [Nat.testBit_and]
    cases ha : a.testBit i <;> cases hb : b.testBit i <;> simp [ha, hb] at h2 ⊢
theorem bit_nat (s e : Nat) (hs : s < 2 ^ 63) (he : e ≤ 63) : (Go.bits .and .i64 (shr .i64 (s : Int) (e : Int)) 1 == 1) = s.testBit e := by
  have h1 : shr .i64 (s : Int) (e : Int) = ((s / 2 ^ e : Nat) : Int) := by
    unfold shr
    rw [Int.toNat_natCast, Nat.min_eq_left (by simp [IntKind.bits]; omega)]
    simp
  have h2 : s / 2 ^ e < 2 ^ 63 := Nat.lt_of_le_of_lt (Nat.div_le_self _ _) hs
  rw [h1, show (1 : Int) = ((1 : Nat) : Int) from rfl, and_nat _ _ h2 (by decide), Nat.and_one_is_mod, Nat.testBit_eq_decide_div_mod_eq]
  have : ((((s / 2 ^ e % 2 : Nat) : Int)) == ((1 : Nat) : Int)) = decide (s / 2 ^ e % 2 = 1) := by
    generalize s / 2 ^ e % 2 = q
    rw [Bool.eq_iff_iff, beq_iff_eq, decide_eq_true_iff]; omega
  exact this
theorem bit_int {s e : Int} (hs0 : 0 ≤ s) (hs : s < 9223372036854775808) (he0 : 0 ≤ e) (he : e ≤ 63) : (Go.bits .and .i64 (shr .i64 s e) 1 == 1) = hasB s e := by
  obtain ⟨a, rfl⟩ := Int.eq_ofNat_of_zero_le hs0
  obtain ⟨b, rfl⟩ := Int.eq_ofNat_of_zero_le he0
  exact bit_nat a b (by omega) (by omega)

theorem bt_list (s : ByteArray) (i : Nat) (h : i < s.size) : bt s (i : Int) = ((s.data.toList[i]'(by rw [Array.length_toList]; exact h)).toNat : Int) := by
  unfold bt
  rw [dif_pos (by rw [Int.toNat_natCast]; exact h)]
  simp only [Int.toNat_natCast]
  rfl
theorem size_list (s : ByteArray) : s.data.toList.length = s.size := by rw [Array.length_toList]; rfl

theorem wstep {i : Int} {n : Nat} (h0 : 0 ≤ i) (h : i < (n : Int)) (hn : n ≤ 281474976710656) : wrap64 (i + 1) = i + 1 := by unfold wrap64; omega
theorem rd_nat (l : List Int) (i : Nat) (h : i < l.length) : rd l (i : Int) = l[i] := by unfold rd; rw [Int.toNat_natCast, List.getD_eq_getElem?_getD, List.getElem?_eq_getElem h]; rfl

open Go.Lib in
theorem decDigits_step {u : Nat} (h : 10 ≤ u) : decDigits u = decDigits (u / 10) ++ [UInt8.ofNat (48 + u % 10)] := by
  rw [decDigits, dif_neg (by omega)]
/-- The digits of u; none of 0. -/
def decD (u : Nat) : List UInt8 := if u = 0 then [] else Go.Lib.decDigits u
theorem decD_step {u : Nat} (h : u ≠ 0) : decD u = decD (u / 10) ++ [UInt8.ofNat (48 + u % 10)] := by
  unfold decD
  rw [if_neg h]
  by_cases h1 : u < 10
  · rw [Go.Lib.decDigits_one h1, if_pos (by omega), List.nil_append, Nat.mod_eq_of_lt h1]
  · rw [decDigits_step (by omega), if_neg (by omega)]
theorem one_digit {x : Nat} (h : x < 10) (y : ByteArray) : ((strOfNums [((48 + x : Nat) : Int)]) ++ y).data.toList = UInt8.ofNat (48 + x) :: y.data.toList := by
  rw [ByteArray.data_append, Array.toList_append, strOfNums_data]; rfl
theorem fmt_loop (b : Bool) : ∀ (d : Nat) (n : Int) (k : Nat) (out : ByteArray), n.natAbs < 10 ^ d → d < k → n.natAbs ≤ 9223372036854775808 → -9223372036854775808 ≤ n → n ≤ 9223372036854775807 → out.size + d ≤ 1000 →
    ∃ r, spec_FormatInt.l0 k n b out = some r ∧ r.data.toList = (if b = true then [45] else []) ++ (decD n.natAbs ++ out.data.toList)
  | d, n, 0, out, _, hk, _, _, _, _ => absurd hk (Nat.not_lt_zero _)
  | d, n, k + 1, out, hd, hk, hn, hlo, hhi, hs => by
    simp only [spec_FormatInt.l0]
    by_cases h0 : n = 0
    · subst h0
      rw [if_pos rfl]
      cases b with
      | true =>
        rw [if_pos rfl, if_pos (by omega)]
        exact ⟨_, rfl, by rw [ByteArray.data_append, Array.toList_append]; rfl⟩
      | false => exact ⟨_, rfl, rfl⟩
    · rw [if_neg h0]
      have hm := Int.natAbs_tmod n 10
      have hq : (n.tdiv 10).natAbs = n.natAbs / 10 := Int.natAbs_tdiv n 10
      have e10 : (10 : Int).natAbs = 10 := rfl
      rw [e10] at hm
      have hd1 : d ≠ 0 := fun e => by subst e; simp at hd; omega
      obtain ⟨d, rfl⟩ : ∃ d', d = d' + 1 := ⟨d - 1, by omega⟩
      have hpow : 10 ^ (d + 1) = 10 ^ d * 10 := Nat.pow_succ ..
      have hnew : (n.tdiv 10).natAbs < 10 ^ d := by rw [hq]; omega
      have hx : n.natAbs % 10 < 10 := Nat.mod_lt _ (by decide)
      have hlo2 : -9223372036854775808 ≤ n.tdiv 10 := by omega
      have hhi2 : n.tdiv 10 ≤ 9223372036854775807 := by omega
      have ew : wrap64 (n.tdiv 10) = n.tdiv 10 := w64 (by omega) (by omega)
      have hsz : ∀ z : Int, (strOfNums [z]).size = 1 := fun z => strOfNums_size [z]
      have key : ∀ y : ByteArray, y.data.toList = UInt8.ofNat (48 + n.natAbs % 10) :: out.data.toList → y.size = out.size + 1 → ∃ r, spec_FormatInt.l0 k (wrap64 (n.tdiv 10)) b y = some r ∧ r.data.toList = (if b = true then [45] else []) ++ (decD n.natAbs ++ out.data.toList) := fun y hy hys => by
        obtain ⟨r, h1, h2⟩ := fmt_loop b d (n.tdiv 10) k y hnew (by omega) (by omega) hlo2 hhi2 (by omega)
        refine ⟨r, by rw [ew]; exact h1, ?_⟩
        rw [h2, hy, hq, decD_step (u := n.natAbs) (by omega), List.append_assoc]; rfl
      by_cases hneg : n.tmod 10 < 0
      · have e1 : wrap64 (48 + wrap64 (-(n.tmod 10))) % 256 = ((48 + n.natAbs % 10 : Nat) : Int) := by
          rw [w64 (n := -(n.tmod 10)) (by omega) (by omega), w64 (by omega) (by omega)]; omega
        rw [if_pos hneg, e1]; simp only [Option.bind_some]
        rw [if_pos (by rw [hsz]; omega)]
        exact key _ (one_digit hx out) (by rw [ByteArray.size_append, hsz]; omega)
      · have e1 : wrap64 (48 + n.tmod 10) % 256 = ((48 + n.natAbs % 10 : Nat) : Int) := by
          rw [w64 (by omega) (by omega)]; omega
        rw [if_neg hneg, e1]; simp only [Option.bind_some]
        rw [if_pos (by rw [hsz]; omega)]
        exact key _ (one_digit hx out) (by rw [ByteArray.size_append, hsz]; omega)
theorem itoa_zero : Go.Lib.itoa 0 = [48] := by
  unfold Go.Lib.itoa
  rw [if_neg (by decide)]
  exact Go.Lib.decDigits_one (i := 0) (by decide)
/-- FormatInt: the decimal numeral. -/
theorem spec_FormatInt_eq (n : Int) (hlo : -9223372036854775808 ≤ n) (hhi : n ≤ 9223372036854775807) {k : Nat} (hk : 30 ≤ k) : spec_FormatInt.f k n = some ⟨(Go.Lib.itoa n).toArray⟩ := by
  unfold spec_FormatInt.f
  by_cases h0 : n = 0
  · subst h0; rw [if_pos rfl, itoa_zero]
  · rw [if_neg h0]
    have h20 : n.natAbs < 10 ^ 20 := Nat.lt_of_le_of_lt (show n.natAbs ≤ 9223372036854775808 by omega) (by decide)
    obtain ⟨r, h1, h2⟩ := fmt_loop (decide (n < 0)) 20 n k ⟨#[]⟩ h20 (by omega) (by omega) hlo hhi (by decide)
    rw [h1]
    obtain ⟨⟨r⟩⟩ := r
    have h3 : r = Go.Lib.itoa n := by
      rw [show r = (if decide (n < 0) = true then [45] else []) ++ (decD n.natAbs ++ []) from h2, List.append_nil]
      have e2 : decD n.natAbs = Go.Lib.decDigits n.natAbs := by unfold decD; rw [if_neg (by omega)]
      rw [e2]
      unfold Go.Lib.itoa
      by_cases hn : n < 0
      · rw [decide_eq_true hn, if_pos rfl, if_pos hn]; rfl
      · rw [decide_eq_false hn, if_neg (by decide), if_neg hn, List.nil_append, show n.toNat = n.natAbs from by omega]
    rw [h3]
theorem impl_FormatInt_eq (n : Int) (hlo : -9223372036854775808 ≤ n) (hhi : n ≤ 9223372036854775807) : impl_FormatInt.f n = some ⟨(Go.Lib.itoa n).toArray⟩ := by
  unfold impl_FormatInt.f strconv_Itoa.f
  rw [if_pos ⟨hlo, hhi⟩]; rfl

theorem FnExactFormatInt : laws_FnExactFormatInt.Pure := by
  intro n hn
  have hb : -9223372036854775808 ≤ n ∧ n ≤ 9223372036854775807 := by
    have h := hn
    have e : IntKind.i64.min = -9223372036854775808 := by decide
    simp [Lit.wf] at h
    omega
  refine ⟨30, ?_⟩
  unfold laws_FnExactFormatInt.f
  rw [spec_FormatInt_eq n hb.1 hb.2 (by decide), impl_FormatInt_eq n hb.1 hb.2]
  simp

end Go.Proofs.YtpnnichlkaedlaaDoor.Pure
