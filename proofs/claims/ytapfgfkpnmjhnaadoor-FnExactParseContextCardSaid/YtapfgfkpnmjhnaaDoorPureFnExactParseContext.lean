/- For every input the law answers true. No condition. -/
import Derived.Test.YtapfgfkpnmjhnaaDoorPFnExactParseContextx8
set_option linter.unusedVariables false
set_option linter.unusedSimpArgs false
namespace Go.Proofs.YtapfgfkpnmjhnaaDoor.Pure
open Go.RowKit Go.Proofs.YtapfgfkpnmjhnaaDoor.PFnExactParseContext Go.Proofs.YtapfgfkpnmjhnaaDoorW.PrintWords Go.Proofs.YtapfgfkpnmjhnaaDoorW.PrintLast
def joinB (l : List ByteArray) (s : ByteArray) : List UInt8 := Go.Lib.join (l.map (·.data.toList)) s.data.toList
/-- The full set of n elements. -/
def full (n : Int) : Int := (2 : Int) ^ n.toNat - 1
def isSetB (n s : Int) : Bool := decide (0 ≤ n ∧ n ≤ 8 ∧ 0 ≤ s ∧ s ≤ full n)
def hasB (s e : Int) : Bool := s.toNat.testBit e.toNat
theorem nine {n : Int} (h0 : 0 ≤ n) (h1 : n ≤ 8) : n = 0 ∨ n = 1 ∨ n = 2 ∨ n = 3 ∨ n = 4 ∨ n = 5 ∨ n = 6 ∨ n = 7 ∨ n = 8 := by omega
theorem full_bd {n : Int} (h0 : 0 ≤ n) (h1 : n ≤ 8) : 0 ≤ full n ∧ full n ≤ 255 := by
  rcases nine h0 h1 with rfl | rfl | rfl | rfl | rfl | rfl | rfl | rfl | rfl <;> decide +kernel
theorem isSetB_bd {n s : Int} (h : isSetB n s = true) : 0 ≤ n ∧ n ≤ 8 ∧ 0 ≤ s ∧ s ≤ full n ∧ s ≤ 255 := by
  unfold isSetB at h
  have h := of_decide_eq_true h
  have := full_bd h.1 h.2.1
  omega
theorem isSetB8 (s : Int) : isSetB 8 s = decide (0 ≤ s ∧ s ≤ 255) := by
  unfold isSetB
  have : full 8 = 255 := by decide +kernel
  rw [this]; simp
theorem shl_full {n : Int} (h0 : 0 ≤ n) (h1 : n ≤ 8) : wrap64 (shl .i64 1 n - 1) = full n := by
  rcases nine h0 h1 with rfl | rfl | rfl | rfl | rfl | rfl | rfl | rfl | rfl <;> decide +kernel
theorem u64_small {n : Int} (h0 : 0 ≤ n) (h1 : n < 18446744073709551616) : IntKind.u64.wrap n = n := by
  simp only [IntKind.wrap, IntKind.bits, IntKind.signed]; simp; omega
theorem u64_nonneg (n : Int) : 0 ≤ IntKind.u64.wrap n := by
  simp only [IntKind.wrap, IntKind.bits, IntKind.signed]; simp; omega
theorem w64 {n : Int} (h0 : -9223372036854775808 ≤ n) (h1 : n < 9223372036854775808) : wrap64 n = n := by unfold wrap64; omega
theorem i64_small (n : Int) (h0 : 0 ≤ n) (h1 : n < 2 ^ 63) : IntKind.i64.wrap n = n := by rw [IntKind.wrap_i64]; omega
theorem and_nat (a b : Nat) (ha : a < 2 ^ 63) (hb : b < 2 ^ 63) : Go.bits .and .i64 a b = ((a &&& b : Nat) : Int) := (bits_nat .i64 63 (by decide) (fun n h0 h1 => i64_small n h0 h1) a b ha hb).1
theorem or_nat (a b : Nat) (ha : a < 2 ^ 63) (hb : b < 2 ^ 63) : Go.bits .or .i64 a b = ((a ||| b : Nat) : Int) := (bits_nat .i64 63 (by decide) (fun n h0 h1 => i64_small n h0 h1) a b ha hb).2
/-- What is in a and not in b. -/
def dif (a b : Nat) : Nat := a ^^^ (a &&& b)
theorem dif_bit (a b i : Nat) : (dif a b).testBit i = (a.testBit i && !b.testBit i) := by
  unfold dif; rw [Nat.testBit_xor, Nat.testBit_and]; cases a.testBit i <;> cases b.testBit i <;> rfl
theorem dif_lt (a b n : Nat) (ha : a < 2 ^ n) : dif a b < 2 ^ n := Nat.xor_lt_two_pow ha (Nat.lt_of_le_of_lt Nat.and_le_left ha)
theorem andNot_nat (a b : Nat) (ha : a < 2 ^ 63) (hb : b < 2 ^ 63) : Go.bits .andNot .i64 a b = ((dif a b : Nat) : Int) := by
  simp only [Go.bits, BitVec.ofInt_natCast, IntKind.bits]
  have e : (BitVec.ofNat 64 a &&& ~~~BitVec.ofNat 64 b).toNat = dif a b := by
    apply Nat.eq_of_testBit_eq
    intro i
    rw [dif_bit, BitVec.testBit_toNat, BitVec.getLsbD_and, BitVec.getLsbD_not, BitVec.getLsbD_ofNat, BitVec.getLsbD_ofNat]
    by_cases hi : i < 64
    · simp [hi]
    · have : a.testBit i = false := Nat.testBit_lt_two_pow (Nat.lt_of_lt_of_le ha (Nat.pow_le_pow_right (by decide) (by omega)))
      simp [hi, this]
  have hl := dif_lt a b 63 ha
  have e2 : IntKind.i64.wrap ((dif a b : Nat) : Int) = ((dif a b : Nat) : Int) := i64_small _ (by omega) (by exact_mod_cast hl)
  exact (congrArg (fun n : Nat => IntKind.i64.wrap (n : Int)) e).trans e2
theorem and_eq_iff_dif (a b : Nat) : (a &&& b = a) ↔ dif a b = 0 := by
  constructor
  · intro h; unfold dif; rw [h, Nat.xor_self]
  · intro h
    apply Nat.eq_of_testBit_eq; intro i
    have h2 := dif_bit a b i
    rw [h, Nat.zero_testBit] at h2
    rw [Nat.testBit_and]
    cases ha : a.testBit i <;> cases hb : b.testBit i <;> simp [ha, hb] at h2 ⊢
theorem bit_nat (s e : Nat) (hs : s < 2 ^ 63) (he : e ≤ 63) : (Go.bits .and .i64 (shr .i64 (s : Int) (e : Int)) 1 == 1) = s.testBit e := by
  have h1 : shr .i64 (s : Int) (e : Int) = ((s / 2 ^ e : Nat) : Int) := by
    unfold shr
    rw [Int.toNat_natCast, Nat.min_eq_left (by simp [IntKind.bits]; omega)]
    simp
  have h2 : s / 2 ^ e < 2 ^ 63 := Nat.lt_of_le_of_lt (Nat.div_le_self _ _) hs
  rw [h1, show (1 : Int) = ((1 : Nat) : Int) from rfl, and_nat _ _ h2 (by decide), Nat.and_one_is_mod, Nat.testBit_eq_decide_div_mod_eq]
  have : ((((s / 2 ^ e % 2 : Nat) : Int)) == ((1 : Nat) : Int)) = decide (s / 2 ^ e % 2 = 1) := by
    generalize s / 2 ^ e % 2 = q
    rw [Bool.eq_iff_iff, beq_iff_eq, decide_eq_true_iff]; omega
  exact this
theorem bit_int {s e : Int} (hs0 : 0 ≤ s) (hs : s < 9223372036854775808) (he0 : 0 ≤ e) (he : e ≤ 63) : (Go.bits .and .i64 (shr .i64 s e) 1 == 1) = hasB s e := by
  obtain ⟨a, rfl⟩ := Int.eq_ofNat_of_zero_le hs0
  obtain ⟨b, rfl⟩ := Int.eq_ofNat_of_zero_le he0
  exact bit_nat a b (by omega) (by omega)

theorem wstep {i : Int} {n : Nat} (h0 : 0 ≤ i) (h : i < (n : Int)) (hn : n ≤ 281474976710656) : wrap64 (i + 1) = i + 1 := by unfold wrap64; omega
theorem rd_nat (l : List Int) (i : Nat) (h : i < l.length) : rd l (i : Int) = l[i] := by unfold rd; rw [Int.toNat_natCast, List.getD_eq_getElem?_getD, List.getElem?_eq_getElem h]; rfl

theorem eqIntS_loop (a b : List Int) (hl : a.length = b.length) (hn : a.length ≤ 281474976710656) : ∀ (d i k : Nat), i + d = a.length → d < k → laws_eqIntS.l0 k a b (i : Int) = some (decide (a.drop i = b.drop i))
  | 0, i, k, hi, hk => by
    obtain ⟨k, rfl⟩ : ∃ m, k = m + 1 := ⟨k - 1, by omega⟩
    simp only [laws_eqIntS.l0]; rw [if_neg (by omega), List.drop_eq_nil_of_le (by omega), List.drop_eq_nil_of_le (by omega)]; simp
  | d + 1, i, k, hi, hk => by
    obtain ⟨k, rfl⟩ : ∃ m, k = m + 1 := ⟨k - 1, by omega⟩
    have h1 : i < a.length := by omega
    have h2 : i < b.length := by omega
    have ih := eqIntS_loop a b hl hn d (i + 1) k (by omega) (by omega)
    simp only [laws_eqIntS.l0]
    rw [if_pos (by omega), if_pos (by omega), if_pos (by omega), wstep (n := a.length) (by omega) (by omega) hn]
    have ra : rd a (i : Int) = a[i] := by unfold rd; rw [Int.toNat_natCast, List.getD_eq_getElem?_getD, List.getElem?_eq_getElem h1]; rfl
    have rb : rd b (i : Int) = b[i] := by unfold rd; rw [Int.toNat_natCast, List.getD_eq_getElem?_getD, List.getElem?_eq_getElem h2]; rfl
    rw [ra, rb, List.drop_eq_getElem_cons h1, List.drop_eq_getElem_cons h2]
    by_cases e : a[i] = b[i]
    · rw [if_pos e, e]
      have : ((i : Int) + 1) = ((i + 1 : Nat) : Int) := by omega
      rw [this, ih]; simp only [List.cons.injEq, true_and]
    · rw [if_neg e]; simp only [List.cons.injEq, e, false_and, decide_false]
theorem eqIntS_eq (a b : List Int) (hn : a.length ≤ 281474976710656) {k : Nat} (hk : a.length < k) : laws_eqIntS.f k a b = some (decide (a = b)) := by
  unfold laws_eqIntS.f
  by_cases hl : a.length = b.length
  · rw [if_pos (by omega)]
    have := eqIntS_loop a b hl hn a.length 0 k (by omega) hk
    simpa using this
  · rw [if_neg (by omega)]
    have : a ≠ b := fun h => hl (by rw [h])
    simp [this]

theorem eqContext_eq (n : Int) (a : List Int) (m : Int) (b : List Int) (hn : a.length ≤ 281474976710656) {k : Nat} (hk : a.length < k) : laws_eqContext.f k n a m b = some (decide (n = m ∧ a = b)) := by
  unfold laws_eqContext.f
  rw [eqIntS_eq a b hn hk]
  by_cases h : n = m
  · by_cases h2 : a = b <;> simp [h, h2]
  · simp [h]

theorem spec_IsSet_eq (n s : Int) : spec_IsSet.f n s = some (isSetB n s) := by
  unfold spec_IsSet.f spec_l1In.f isSetB
  by_cases h0 : 0 ≤ n
  · by_cases h1 : n ≤ 8
    · have hw := u64_small h0 (by omega)
      rw [hw, shl_full h0 h1]
      by_cases h2 : 0 ≤ s <;> simp [h0, h1, h2]
    · simp [h0, h1]
  · simp [h0]

theorem impl_IsSet_eq (n s : Int) : impl_IsSet.f n s = some (isSetB n s) := by
  unfold impl_IsSet.f impl_within.f isSetB
  by_cases h0 : 0 ≤ n
  · by_cases h1 : n ≤ 8
    · rw [shl_full h0 h1]
      by_cases h2 : 0 ≤ s <;> simp [h0, h1, h2]
    · simp [h0, h1]
  · simp [h0]

/-- Is it a context? -/
def ctxB (n : Int) (a : List Int) : Bool := decide (0 ≤ n ∧ n ≤ 6) && (decide (a.length ≤ 8) && a.all (isSetB n))
theorem ctxB_out {n : Int} {a : List Int} (h : ctxB n a = true) : 0 ≤ n ∧ n ≤ 6 ∧ a.length ≤ 8 ∧ ∀ x ∈ a, isSetB n x = true := by
  unfold ctxB at h
  simp only [Bool.and_eq_true, decide_eq_true_eq, List.all_eq_true] at h
  exact ⟨h.1.1, h.1.2, h.2.1, h.2.2⟩
theorem spec_IsContext_loop (n : Int) (a : List Int) (hn : a.length ≤ 281474976710656) : ∀ (d i k : Nat), i + d = a.length → d < k → spec_IsContext.l0 k (i : Int) n a = some (decide (0 ≤ n ∧ n ≤ 6) && (decide (a.length ≤ 8) && (a.drop i).all (isSetB n)))
  | 0, i, k, hi, hk => by
    obtain ⟨k, rfl⟩ : ∃ m, k = m + 1 := ⟨k - 1, by omega⟩
    simp only [spec_IsContext.l0]; rw [if_neg (by omega), List.drop_eq_nil_of_le (by omega)]
    unfold spec_l1In.f
    have e : decide ((a.length : Int) ≤ 8) = decide (a.length ≤ 8) := by rw [decide_eq_decide]; omega
    rw [e]
    by_cases h0 : 0 ≤ n
    · by_cases h1 : n ≤ 6 <;> simp [h0, h1]
    · simp [h0]
  | d + 1, i, k, hi, hk => by
    obtain ⟨k, rfl⟩ : ∃ m, k = m + 1 := ⟨k - 1, by omega⟩
    have h1 : i < a.length := by omega
    have ih := spec_IsContext_loop n a hn d (i + 1) k (by omega) (by omega)
    simp only [spec_IsContext.l0]
    rw [if_pos (by omega), if_pos (by omega), rd_nat a i h1, spec_IsSet_eq, Option.bind_some, List.drop_eq_getElem_cons h1, List.all_cons, wstep (n := a.length) (by omega) (by omega) hn]
    cases hs : isSetB n a[i] with
    | true => rw [if_pos rfl, show (i : Int) + 1 = ((i + 1 : Nat) : Int) from by omega, ih, Bool.true_and]
    | false => simp
theorem spec_IsContext_eq (n : Int) (a : List Int) (hn : a.length ≤ 281474976710656) {k : Nat} (hk : a.length < k) : spec_IsContext.f k n a = some (ctxB n a) := by
  unfold spec_IsContext.f ctxB
  have := spec_IsContext_loop n a hn a.length 0 k (by omega) hk
  simpa using this
theorem impl_IsContext_eq (n : Int) (a : List Int) : impl_IsContext.f n a = some (ctxB n a) := by
  unfold impl_IsContext.f ctxB impl_within.f
  have e : ∀ x, impl_IsContext.row n x = isSetB n x := fun x => by unfold impl_IsContext.row; rw [impl_IsSet_eq]; rfl
  have e2 : (!(a.any fun x => !impl_IsContext.row n x)) = a.all (isSetB n) := by
    simp only [e]
    induction a with
    | nil => rfl
    | cons x l ih => simp only [List.any_cons, List.all_cons, Bool.not_or, Bool.not_not, ih]
  rw [e2]
  by_cases h0 : 0 ≤ n
  · by_cases h1 : n ≤ 6
    · by_cases h2 : a.length ≤ 8
      · have h3 : (a.length : Int) ≤ 8 := by omega
        simp [h0, h1, h2, h3]
      · have h3 : ¬ (a.length : Int) ≤ 8 := by omega
        simp [h0, h1, h2, h3]
    · simp [h0, h1]
  · simp [h0]

theorem bt_list (s : ByteArray) (i : Nat) (h : i < s.size) : bt s (i : Int) = ((s.data.toList[i]'(by rw [Array.length_toList]; exact h)).toNat : Int) := by
  unfold bt
  rw [dif_pos (by rw [Int.toNat_natCast]; exact h)]
  simp only [Int.toNat_natCast]
  rfl
theorem size_list (s : ByteArray) : s.data.toList.length = s.size := by rw [Array.length_toList]; rfl

open Go.Lib in
theorem decDigits_step {u : Nat} (h : 10 ≤ u) : decDigits u = decDigits (u / 10) ++ [UInt8.ofNat (48 + u % 10)] := by
  rw [decDigits, dif_neg (by omega)]
/-- The digits of u; none of 0. -/
def decD (u : Nat) : List UInt8 := if u = 0 then [] else Go.Lib.decDigits u
theorem decD_step {u : Nat} (h : u ≠ 0) : decD u = decD (u / 10) ++ [UInt8.ofNat (48 + u % 10)] := by
  unfold decD
  rw [if_neg h]
  by_cases h1 : u < 10
  · rw [Go.Lib.decDigits_one h1, if_pos (by omega), List.nil_append, Nat.mod_eq_of_lt h1]
  · rw [decDigits_step (by omega), if_neg (by omega)]
theorem one_digit {x : Nat} (h : x < 10) (y : ByteArray) : ((strOfNums [((48 + x : Nat) : Int)]) ++ y).data.toList = UInt8.ofNat (48 + x) :: y.data.toList := by
  rw [ByteArray.data_append, Array.toList_append, strOfNums_data]; rfl
theorem fmt_loop (b : Bool) : ∀ (d : Nat) (n : Int) (k : Nat) (out : ByteArray), n.natAbs < 10 ^ d → d < k → n.natAbs ≤ 9223372036854775808 → -9223372036854775808 ≤ n → n ≤ 9223372036854775807 → out.size + d ≤ 1000 →
    ∃ r, spec_FormatInt.l0 k n b out = some r ∧ r.data.toList = (if b = true then [45] else []) ++ (decD n.natAbs ++ out.data.toList)
  | d, n, 0, out, _, hk, _, _, _, _ => absurd hk (Nat.not_lt_zero _)
  | d, n, k + 1, out, hd, hk, hn, hlo, hhi, hs => by
    simp only [spec_FormatInt.l0]
    by_cases h0 : n = 0
    · subst h0
      rw [if_pos rfl]
      cases b with
      | true =>
        rw [if_pos rfl, if_pos (by omega)]
        exact ⟨_, rfl, by rw [ByteArray.data_append, Array.toList_append]; rfl⟩
      | false => exact ⟨_, rfl, rfl⟩
    · rw [if_neg h0]
      have hm := Int.natAbs_tmod n 10
      have hq : (n.tdiv 10).natAbs = n.natAbs / 10 := Int.natAbs_tdiv n 10
      have e10 : (10 : Int).natAbs = 10 := rfl
      rw [e10] at hm
      have hd1 : d ≠ 0 := fun e => by subst e; simp at hd; omega
      obtain ⟨d, rfl⟩ : ∃ d', d = d' + 1 := ⟨d - 1, by omega⟩
      have hpow : 10 ^ (d + 1) = 10 ^ d * 10 := Nat.pow_succ ..
      have hnew : (n.tdiv 10).natAbs < 10 ^ d := by rw [hq]; omega
      have hx : n.natAbs % 10 < 10 := Nat.mod_lt _ (by decide)
      have hlo2 : -9223372036854775808 ≤ n.tdiv 10 := by omega
      have hhi2 : n.tdiv 10 ≤ 9223372036854775807 := by omega
      have ew : wrap64 (n.tdiv 10) = n.tdiv 10 := w64 (by omega) (by omega)
      have hsz : ∀ z : Int, (strOfNums [z]).size = 1 := fun z => strOfNums_size [z]
      have key : ∀ y : ByteArray, y.data.toList = UInt8.ofNat (48 + n.natAbs % 10) :: out.data.toList → y.size = out.size + 1 → ∃ r, spec_FormatInt.l0 k (wrap64 (n.tdiv 10)) b y = some r ∧ r.data.toList = (if b = true then [45] else []) ++ (decD n.natAbs ++ out.data.toList) := fun y hy hys => by
        obtain ⟨r, h1, h2⟩ := fmt_loop b d (n.tdiv 10) k y hnew (by omega) (by omega) hlo2 hhi2 (by omega)
        refine ⟨r, by rw [ew]; exact h1, ?_⟩
        rw [h2, hy, hq, decD_step (u := n.natAbs) (by omega), List.append_assoc]; rfl
      by_cases hneg : n.tmod 10 < 0
      · have e1 : wrap64 (48 + wrap64 (-(n.tmod 10))) % 256 = ((48 + n.natAbs % 10 : Nat) : Int) := by
          rw [w64 (n := -(n.tmod 10)) (by omega) (by omega), w64 (by omega) (by omega)]; omega
        rw [if_pos hneg, e1]; simp only [Option.bind_some]
        rw [if_pos (by rw [hsz]; omega)]
        exact key _ (one_digit hx out) (by rw [ByteArray.size_append, hsz]; omega)
      · have e1 : wrap64 (48 + n.tmod 10) % 256 = ((48 + n.natAbs % 10 : Nat) : Int) := by
          rw [w64 (by omega) (by omega)]; omega
        rw [if_neg hneg, e1]; simp only [Option.bind_some]
        rw [if_pos (by rw [hsz]; omega)]
        exact key _ (one_digit hx out) (by rw [ByteArray.size_append, hsz]; omega)
theorem itoa_zero : Go.Lib.itoa 0 = [48] := by
  unfold Go.Lib.itoa
  rw [if_neg (by decide)]
  exact Go.Lib.decDigits_one (i := 0) (by decide)
/-- FormatInt: the decimal numeral. -/
theorem spec_FormatInt_eq (n : Int) (hlo : -9223372036854775808 ≤ n) (hhi : n ≤ 9223372036854775807) {k : Nat} (hk : 30 ≤ k) : spec_FormatInt.f k n = some ⟨(Go.Lib.itoa n).toArray⟩ := by
  unfold spec_FormatInt.f
  by_cases h0 : n = 0
  · subst h0; rw [if_pos rfl, itoa_zero]
  · rw [if_neg h0]
    have h20 : n.natAbs < 10 ^ 20 := Nat.lt_of_le_of_lt (show n.natAbs ≤ 9223372036854775808 by omega) (by decide)
    obtain ⟨r, h1, h2⟩ := fmt_loop (decide (n < 0)) 20 n k ⟨#[]⟩ h20 (by omega) (by omega) hlo hhi (by decide)
    rw [h1]
    obtain ⟨⟨r⟩⟩ := r
    have h3 : r = Go.Lib.itoa n := by
      rw [show r = (if decide (n < 0) = true then [45] else []) ++ (decD n.natAbs ++ []) from h2, List.append_nil]
      have e2 : decD n.natAbs = Go.Lib.decDigits n.natAbs := by unfold decD; rw [if_neg (by omega)]
      rw [e2]
      unfold Go.Lib.itoa
      by_cases hn : n < 0
      · rw [decide_eq_true hn, if_pos rfl, if_pos hn]; rfl
      · rw [decide_eq_false hn, if_neg (by decide), if_neg hn, List.nil_append, show n.toNat = n.natAbs from by omega]
    rw [h3]
theorem impl_FormatInt_eq (n : Int) (hlo : -9223372036854775808 ≤ n) (hhi : n ≤ 9223372036854775807) : impl_FormatInt.f n = some ⟨(Go.Lib.itoa n).toArray⟩ := by
  unfold impl_FormatInt.f strconv_Itoa.f
  rw [if_pos ⟨hlo, hhi⟩]; rfl

theorem all256 {P : Int → Prop} (h : ∀ s : Fin 256, P ((s.val : Nat) : Int)) {s : Int} (hs : isSetB 8 s = true) : P s := by
  have hb := isSetB_bd hs
  obtain ⟨a, rfl⟩ := Int.eq_ofNat_of_zero_le hb.2.2.1
  exact h ⟨a, by omega⟩

theorem spec_l2Has_eq {s e : Int} (hs0 : 0 ≤ s) (hs : s < 9223372036854775808) (he0 : 0 ≤ e) (he : e ≤ 63) : spec_l2Has.f s e = some (hasB s e) := by
  unfold spec_l2Has.f
  rw [u64_small he0 (by omega), if_pos he0, bit_int hs0 hs he0 he]

theorem spec_HasElement_eq (s e : Int) : spec_HasElement.f s e = some (isSetB 8 s && (decide (0 ≤ e ∧ e ≤ 7) && hasB s e)) := by
  unfold spec_HasElement.f spec_l1In.f
  rw [spec_IsSet_eq]
  by_cases h : isSetB 8 s = true
  · have := isSetB_bd h
    by_cases h0 : 0 ≤ e
    · by_cases h1 : e ≤ 7
      · have h2 := spec_l2Has_eq (s := s) (e := e) (by omega) (by omega) h0 (by omega)
        simp [h, h0, h1, h2]
      · simp [h, h0, h1]
    · simp [h, h0]
  · simp [h]

/-- The elements of s, from 0 on. -/
def elems (s : Int) : List Int := ((List.range 8).filter (fun e => s.toNat.testBit e)).map (fun e : Nat => (e : Int))
theorem spec_ElementsOf_set {s : Int} (hs : isSetB 8 s = true) : spec_ElementsOf.f 9 s = some (elems s) :=
  all256 (P := fun s => spec_ElementsOf.f 9 s = some (elems s)) (by decide +kernel) hs
theorem spec_ElementsOf_no {s : Int} (hs : isSetB 8 s = false) : spec_ElementsOf.f 9 s = some [] := by
  have h (e : Int) : spec_HasElement.f s e = some false := by rw [spec_HasElement_eq, hs]; rfl
  unfold spec_ElementsOf.f
  simp [spec_ElementsOf.l0, h, wrap64]
theorem elems_len : ∀ s : Int, (elems s).length ≤ 8 := by
  intro s; unfold elems; rw [List.length_map]; exact List.length_filter_le _ (List.range 8)

theorem impl_isAnySet_eq (s : Int) : impl_isAnySet.f s = some (isSetB 8 s) := by
  unfold impl_isAnySet.f; rw [impl_IsSet_eq]; rfl

theorem impl_HasElement_eq (s e : Int) : impl_HasElement.f s e = some (isSetB 8 s && (decide (0 ≤ e ∧ e ≤ 7) && hasB s e)) := by
  unfold impl_HasElement.f impl_within.f
  rw [impl_isAnySet_eq]
  by_cases h : isSetB 8 s = true
  · have := isSetB_bd h
    by_cases h0 : 0 ≤ e
    · by_cases h1 : e ≤ 7
      · have h2 := bit_int (s := s) (e := e) (by omega) (by omega) h0 (by omega)
        simp [h, h0, h1, h2]
      · simp [h, h0, h1]
    · simp [h, h0]
  · simp [h]

theorem impl_ElementsOf_set {s : Int} (hs : isSetB 8 s = true) : impl_ElementsOf.f 9 s = some (elems s) :=
  all256 (P := fun s => impl_ElementsOf.f 9 s = some (elems s)) (by decide +kernel) hs
theorem impl_ElementsOf_no {s : Int} (hs : isSetB 8 s = false) : impl_ElementsOf.f 9 s = some [] := by
  have h (e : Int) : impl_HasElement.f s e = some false := by rw [impl_HasElement_eq, hs]; rfl
  unfold impl_ElementsOf.f
  simp [impl_ElementsOf.l0, h, wrap64]

/-- The letters of s. -/
def letters (s : Int) : List UInt8 := if s = 0 then [45] else ((List.range 8).filter (fun e => s.toNat.testBit e)).map (fun e : Nat => (97 + e).toUInt8)
/-- SetText. -/
def setText (s : Int) : List UInt8 := if isSetB 8 s then letters s else []
theorem map_some {α β : Type} {o : Option α} {f : α → β} {y : β} (h : o.map f = some y) : ∃ x, o = some x ∧ f x = y := by
  cases o with
  | none => cases h
  | some x => exact ⟨x, rfl, Option.some.inj h⟩
theorem spec_SetText_eq (s : Int) : ∃ b, spec_SetText.f 10 s = some b ∧ b.data.toList = setText s := by
  apply map_some (f := fun b : ByteArray => b.data.toList)
  cases hs : isSetB 8 s with
  | true => exact all256 (P := fun s => (spec_SetText.f 10 s).map (fun b : ByteArray => b.data.toList) = some (setText s)) (by decide +kernel) hs
  | false => unfold spec_SetText.f setText; rw [spec_IsSet_eq, hs]; rfl
theorem impl_SetText_eq (s : Int) : ∃ b, impl_SetText.f 10 s = some b ∧ b.data.toList = setText s := by
  apply map_some (f := fun b : ByteArray => b.data.toList)
  cases hs : isSetB 8 s with
  | true => exact all256 (P := fun s => (impl_SetText.f 10 s).map (fun b : ByteArray => b.data.toList) = some (setText s)) (by decide +kernel) hs
  | false => unfold impl_SetText.f setText; rw [impl_isAnySet_eq, hs]; rfl

theorem rdS (l : List ByteArray) (i : Nat) (h : i < l.length) : rdOf ByteArray.empty l (i : Int) = l[i] := by unfold rdOf; rw [Int.toNat_natCast, List.getD_eq_getElem?_getD, List.getElem?_eq_getElem h]; rfl
def sumSz (l : List ByteArray) : Nat := (l.map (·.size)).sum
theorem sumSz_take (l : List ByteArray) (i : Nat) (h : i < l.length) : sumSz (l.take (i + 1)) = sumSz (l.take i) + l[i].size := by
  unfold sumSz; rw [List.take_succ_eq_append_getElem h, List.map_append, List.sum_append_nat, List.map_singleton, List.sum_singleton]
theorem sumSz_drop (l : List ByteArray) (i : Nat) (h : i < l.length) : sumSz (l.drop i) = l[i].size + sumSz (l.drop (i + 1)) := by
  unfold sumSz; rw [List.drop_eq_getElem_cons h, List.map_cons, List.sum_cons]
theorem sumSz_le (l : List ByteArray) (i : Nat) : sumSz (l.take i) + sumSz (l.drop i) = sumSz l := by
  unfold sumSz
  rw [← List.sum_append_nat, ← List.map_append, List.take_append_drop]

/-- Bytes, as numbers. -/
def nums (b : List UInt8) : List Int := b.map fun x => (x.toNat : Int)
theorem bytesOf_nums (s : ByteArray) : bytesOf s = nums s.data.toList := rfl
theorem nums_len (b : List UInt8) : (nums b).length = b.length := List.length_map _
theorem nums_app (a b : List UInt8) : nums a ++ nums b = nums (a ++ b) := (List.map_append).symm
theorem strOfNums_nums (b : List UInt8) : strOfNums (nums b) = ⟨b.toArray⟩ := by
  unfold strOfNums nums
  rw [List.map_map]
  have e : ((fun n : Int => UInt8.ofNat n.toNat) ∘ fun x : UInt8 => (x.toNat : Int)) = id := by
    funext x
    show UInt8.ofNat ((x.toNat : Int)).toNat = x
    rw [Int.toNat_natCast, UInt8.ofNat_toNat]
  rw [e, List.map_id]
theorem dlen (s : ByteArray) : s.data.toList.length = s.size := by rw [Array.length_toList]; rfl
theorem join_snoc (l : List ByteArray) (s x : ByteArray) : joinB (l ++ [x]) s = if l = [] then x.data.toList else joinB l s ++ s.data.toList ++ x.data.toList := by
  cases l with
  | nil => rw [if_pos rfl]; exact Go.Lib.join_one _ _
  | cons y r =>
    rw [if_neg (by simp)]
    unfold joinB
    rw [List.cons_append, List.map_cons, List.map_cons, Go.Lib.join_cons, Go.Lib.join_cons, List.map_append]
    unfold Go.Lib.joinTail
    rw [List.map_append, List.flatten_append]
    simp
theorem join_take (l : List ByteArray) (s : ByteArray) (i : Nat) (h : i < l.length) : joinB (l.take (i + 1)) s = if i = 0 then l[i].data.toList else joinB (l.take i) s ++ s.data.toList ++ l[i].data.toList := by
  rw [List.take_succ_eq_append_getElem h, join_snoc]
  by_cases h0 : i = 0
  · subst h0; rfl
  · rw [if_neg h0, if_neg (fun e => h0 (by have := congrArg List.length e; rw [List.length_take, List.length_nil] at this; omega))]
theorem join_len (l : List ByteArray) (s : ByteArray) : ∀ i, i ≤ l.length → (joinB (l.take i) s).length = (i - 1) * s.size + sumSz (l.take i)
  | 0, _ => by
    rw [List.take_zero]
    show 0 = (0 - 1) * s.size + 0
    rw [Nat.zero_sub, Nat.zero_mul]
  | i + 1, h => by
    have ih := join_len l s i (by omega)
    rw [join_take l s i (by omega), sumSz_take l i (by omega)]
    by_cases h0 : i = 0
    · rw [if_pos h0, dlen]; subst h0; show _ = 0 * s.size + (0 + _); omega
    · rw [if_neg h0, List.length_append, List.length_append, ih, dlen, dlen]
      obtain ⟨j, rfl⟩ : ∃ j, i = j + 1 := ⟨i - 1, by omega⟩
      have e1 : j + 1 - 1 = j := rfl
      have e2 : j + 1 + 1 - 1 = j + 1 := rfl
      rw [e1, e2, Nat.add_mul, Nat.one_mul]
      omega
theorem join_mono (l : List ByteArray) (s : ByteArray) {i : Nat} (h : i ≤ l.length) : (joinB (l.take i) s).length ≤ (joinB l s).length := by
  have e := join_len l s l.length (Nat.le_refl _)
  rw [List.take_length] at e
  rw [join_len l s i h, e]
  have h1 := sumSz_le l i
  have h2 : (i - 1) * s.size ≤ (l.length - 1) * s.size := Nat.mul_le_mul_right _ (by omega)
  omega
/-- What Join answers. -/
def joinR (l : List ByteArray) (s : ByteArray) : ByteArray := if (joinB l s).length ≤ 1048576 then ⟨(joinB l s).toArray⟩ else ⟨#[]⟩

theorem spec_Join_loop (l : List ByteArray) (s : ByteArray) (hl : l.length ≤ 1048576) (hs : s.size ≤ 1048576) (hx : ∀ x ∈ l, x.size ≤ 1048576) (d : Nat) : ∀ (i k : Nat), i + d = l.length → d < k → (joinB (l.take i) s).length ≤ 1048576 →
    spec_Join.l0 k l s (nums (joinB (l.take i) s)) (i : Int) = some (joinR l s) := by
  induction d with
  | zero =>
    intro i k hi hk hp
    obtain ⟨k, rfl⟩ : ∃ m, k = m + 1 := ⟨k - 1, by omega⟩
    rw [List.take_of_length_le (by omega)] at hp ⊢
    simp only [spec_Join.l0]
    rw [if_neg (by omega), strOfNums_nums]
    unfold joinR
    rw [if_pos hp]
  | succ d ih =>
    intro i k hi hk hp
    obtain ⟨k, rfl⟩ : ∃ m, k = m + 1 := ⟨k - 1, by omega⟩
    have h1 : i < l.length := by omega
    have hw : wrap64 ((i : Int) + 1) = ((i + 1 : Nat) : Int) := by rw [wstep (n := l.length) (by omega) (by omega) (by omega)]; omega
    have hxi := hx _ (List.getElem_mem h1)
    have ht := join_take l s i h1
    have hmono := join_mono l s (i := i + 1) (by omega)
    have ih' := ih (i + 1) k (by omega) (by omega)
    have hbig : ¬ (joinB (l.take (i + 1)) s).length ≤ 1048576 → joinR l s = (⟨#[]⟩ : ByteArray) := fun h => by unfold joinR; rw [if_neg (by omega)]
    simp only [spec_Join.l0]
    rw [if_pos (by omega), rdS l i h1, hw]
    by_cases h0 : i = 0
    · rw [if_pos h0] at ht
      have hnil : nums (joinB (l.take i) s) = [] := by rw [h0]; rfl
      rw [if_neg (by omega), if_pos (by omega), hnil, if_pos (by simp only [List.length_nil]; omega), Option.bind_some, List.nil_append, bytesOf_nums, ← ht]
      by_cases hb : (joinB (l.take (i + 1)) s).length ≤ 1048576
      · rw [if_neg (by rw [nums_len]; omega)]; exact ih' hb
      · rw [if_pos (by rw [nums_len]; omega), hbig hb]
    · rw [if_neg h0] at ht
      have hlt : (nums (joinB (l.take i) s)).length + s.size < 140737488355328 := by rw [nums_len]; omega
      have hlt2 : (nums (joinB (l.take i) s ++ s.data.toList)).length + l[i].size < 140737488355328 := by rw [nums_len, List.length_append, dlen]; omega
      rw [if_pos (by omega), if_pos hlt, Option.bind_some, if_pos (by omega), bytesOf_nums, nums_app, if_pos hlt2, Option.bind_some, bytesOf_nums, nums_app, ← ht]
      by_cases hb : (joinB (l.take (i + 1)) s).length ≤ 1048576
      · rw [if_neg (by rw [nums_len]; omega)]; exact ih' hb
      · rw [if_pos (by rw [nums_len]; omega), hbig hb]
theorem spec_Join_eq (l : List ByteArray) (s : ByteArray) (hl : l.length ≤ 1048576) (hs : s.size ≤ 1048576) (hx : ∀ x ∈ l, x.size ≤ 1048576) {k : Nat} (hk : l.length < k) : spec_Join.f k l s = some (joinR l s) := by
  unfold spec_Join.f
  exact spec_Join_loop l s hl hs hx l.length 0 k (by omega) (by omega) (by show 0 ≤ _; omega)

theorem l2Sets_loop (l : List Int) (hn : l.length ≤ 281474976710656) : ∀ (d i k : Nat), i + d = l.length → d < k → spec_l2Sets.l0 k l (i : Int) = some ((l.drop i).all (isSetB 8))
  | 0, i, k, hi, hk => by
    obtain ⟨k, rfl⟩ : ∃ m, k = m + 1 := ⟨k - 1, by omega⟩
    simp only [spec_l2Sets.l0]; rw [if_neg (by omega), List.drop_of_length_le (by omega)]; rfl
  | d + 1, i, k, hi, hk => by
    obtain ⟨k, rfl⟩ : ∃ m, k = m + 1 := ⟨k - 1, by omega⟩
    have h1 : i < l.length := by omega
    have ih := l2Sets_loop l hn d (i + 1) k (by omega) (by omega)
    simp only [spec_l2Sets.l0]
    rw [if_pos (by omega), if_pos (by omega), rd_nat l i h1, spec_IsSet_eq, Option.bind_some, wstep (n := l.length) (by omega) (by omega) (by omega), show (i : Int) + 1 = ((i + 1 : Nat) : Int) from by omega, ih, List.drop_eq_getElem_cons h1, List.all_cons]
    cases isSetB 8 l[i] <;> simp
theorem l2Sets_eq (l : List Int) (hn : l.length ≤ 281474976710656) {k : Nat} (hk : l.length < k) : spec_l2Sets.f k l = some (l.all (isSetB 8)) := by
  unfold spec_l2Sets.f
  have := l2Sets_loop l hn l.length 0 k (by omega) hk
  simpa using this

def txt (s : Int) : ByteArray := ⟨(setText s).toArray⟩
theorem txt_of {b : ByteArray} {s : Int} (h : b.data.toList = setText s) : b = txt s := by
  obtain ⟨d⟩ := b
  unfold txt
  rw [← h]
theorem spec_txt (s : Int) (d : Nat) : spec_SetText.f (10 + d) s = some (txt s) := by
  induction d with
  | zero => obtain ⟨b, h1, h2⟩ := spec_SetText_eq s; rw [← txt_of h2]; exact h1
  | succ d ih => exact spec_SetText.mono s (10 + d) _ ih
theorem impl_txt (s : Int) (d : Nat) : impl_SetText.f (10 + d) s = some (txt s) := by
  induction d with
  | zero => obtain ⟨b, h1, h2⟩ := impl_SetText_eq s; rw [← txt_of h2]; exact h1
  | succ d ih => exact impl_SetText.mono s (10 + d) _ ih
theorem txt_size (s : Int) : (txt s).size ≤ 8 := by
  show (setText s).toArray.size ≤ 8
  rw [List.size_toArray]
  unfold setText letters
  split
  · split
    · decide
    · rw [List.length_map]
      refine Nat.le_trans (List.length_filter_le _ _) ?_
      rw [List.length_range]; exact Nat.le_refl _
  · exact Nat.zero_le _
def comma : ByteArray := ⟨#[44]⟩
theorem txt_sum (l : List Int) : sumSz (l.map txt) ≤ 8 * l.length := by
  unfold sumSz
  induction l with
  | nil => exact Nat.le_refl _
  | cons x l ih =>
    have := txt_size x
    rw [List.map_cons, List.map_cons, List.sum_cons, List.length_cons]
    omega
theorem spec_texts_loop (l : List Int) (hl : l.length ≤ 1048576) (d : Nat) : ∀ (i k : Nat), i + d = l.length → d + 1048600 ≤ k → spec_SetsText.l0 k l ((l.take i).map txt) (i : Int) = some (joinR (l.map txt) comma) := by
  induction d with
  | zero =>
    intro i k hi hk
    obtain ⟨k, rfl⟩ : ∃ m, k = m + 1 := ⟨k - 1, by omega⟩
    have hj := spec_Join_eq (l.map txt) comma (by rw [List.length_map]; exact hl) (by decide) (fun x hx => by obtain ⟨s, _, rfl⟩ := List.mem_map.1 hx; have := txt_size s; omega) (k := k) (by rw [List.length_map]; omega)
    simp only [spec_SetsText.l0]
    rw [if_neg (by omega), List.take_of_length_le (by omega)]
    exact congrArg (fun o : Option ByteArray => o.bind fun t => some t) hj
  | succ d ih =>
    intro i k hi hk
    obtain ⟨k, rfl⟩ : ∃ m, k = m + 1 := ⟨k - 1, by omega⟩
    have h1 : i < l.length := by omega
    have hw : wrap64 ((i : Int) + 1) = ((i + 1 : Nat) : Int) := by rw [wstep (n := l.length) (by omega) (by omega) (by omega)]; omega
    have hlt : ((l.take i).map txt).length < 8796093022208 := by rw [List.length_map, List.length_take]; omega
    have ht : (l.take i).map txt ++ [txt l[i]] = (l.take (i + 1)).map txt := by rw [List.take_succ_eq_append_getElem h1, List.map_append]; rfl
    have hk2 : k = 10 + (k - 10) := by omega
    have es := spec_txt l[i] (k - 10)
    rw [← hk2] at es
    simp only [spec_SetsText.l0]
    rw [if_pos (by omega), if_pos (by omega), rd_nat l i h1, es, Option.bind_some, if_pos hlt, ht, hw]
    exact ih (i + 1) k (by omega) (by omega)
theorem joinR_size (l : List ByteArray) (b : ByteArray) : (joinR l b).size ≤ 1048576 := by
  unfold joinR
  split
  · show (joinB l b).toArray.size ≤ 1048576
    rw [List.size_toArray]; assumption
  · decide
/-- SetsText of a list of sets. -/
def setsR (a : List Int) : ByteArray := if a.length = 0 then (⟨#[110, 111, 110, 101]⟩ : ByteArray) else joinR (a.map txt) comma
theorem setsR_size (a : List Int) : (setsR a).size ≤ 1048576 := by
  unfold setsR
  split
  · decide
  · exact joinR_size _ _
theorem spec_sets_at (a : List Int) (hl : a.length ≤ 8) (hs : a.all (isSetB 8) = true) {k : Nat} (hk : 1048700 ≤ k) : spec_SetsText.f k a = some (setsR a) := by
  unfold spec_SetsText.f setsR
  rw [l2Sets_eq a (by omega) (by omega), Option.bind_some, hs, if_pos rfl]
  have ez : ((0 : Nat) : Int) = 0 := rfl
  have es := spec_texts_loop a (by omega) a.length 0 k (by omega) (by omega)
  rw [ez, List.take_zero] at es
  by_cases h0 : a.length = 0
  · rw [if_pos (by omega), if_pos h0]
  · rw [if_neg (by omega), if_neg h0]; exact es
/-- ContextText. -/
def ctxText (n : Int) (a : List Int) : ByteArray := if ctxB n a = true then (((⟨(Go.Lib.itoa n).toArray⟩ : ByteArray) ++ (⟨#[32]⟩ : ByteArray)) ++ setsR a) else ⟨#[]⟩
theorem ctx_all {n : Int} {a : List Int} (h : ctxB n a = true) : a.all (isSetB 8) = true := by
  rw [List.all_eq_true]
  intro x hx
  have hb := isSetB_bd ((ctxB_out h).2.2.2 x hx)
  rw [isSetB8, decide_eq_true (by omega)]
theorem itoa_small (n : Int) (h0 : 0 ≤ n) (h1 : n ≤ 6) : (Go.Lib.itoa n) = [UInt8.ofNat (48 + n.toNat)] := by
  unfold Go.Lib.itoa
  rw [if_neg (by omega), Go.Lib.decDigits_one (by omega)]
theorem spec_ctxText_eq (n : Int) (a : List Int) (hn : a.length ≤ 281474976710656) {k : Nat} (hk : 1048700 ≤ k) (hk2 : a.length < k) : spec_ContextText.f k n a = some (ctxText n a) := by
  unfold spec_ContextText.f ctxText
  rw [spec_IsContext_eq n a hn hk2]; simp only [Option.bind_some]
  cases h : ctxB n a with
  | false => rfl
  | true =>
    have hc := ctxB_out h
    have hz := setsR_size a
    have h1 : (⟨(Go.Lib.itoa n).toArray⟩ : ByteArray).size = 1 := by rw [itoa_small n hc.1 hc.2.1]; rfl
    simp only [if_true]
    rw [spec_FormatInt_eq n (by omega) (by omega) (by omega)]; simp only [Option.bind_some]
    rw [h1, if_pos (by decide), spec_sets_at a (by omega) (ctx_all h) hk]; simp only [Option.bind_some]
    rw [if_pos (by omega)]
def foldD : Nat → List UInt8 → Option Nat
  | acc, [] => some acc
  | acc, c :: l => if 48 ≤ c.toNat ∧ c.toNat ≤ 57 then foldD (10 * acc + (c.toNat - 48)) l else none
theorem foldD_lt : ∀ (l : List UInt8) (acc u : Nat), foldD acc l = some u → u < (acc + 1) * 10 ^ l.length
  | [], acc, u, h => by simp only [foldD, Option.some.injEq] at h; subst h; simp
  | c :: l, acc, u, h => by
    simp only [foldD] at h
    by_cases hc : 48 ≤ c.toNat ∧ c.toNat ≤ 57
    · rw [if_pos hc] at h
      have h1 := foldD_lt l _ u h
      have h2 : (10 * acc + (c.toNat - 48) + 1) * 10 ^ l.length ≤ ((acc + 1) * 10) * 10 ^ l.length := Nat.mul_le_mul_right _ (by omega)
      rw [List.length_cons, Nat.pow_succ, show (acc + 1) * (10 ^ l.length * 10) = ((acc + 1) * 10) * 10 ^ l.length from by rw [Nat.mul_assoc, Nat.mul_comm 10]]
      omega
    · rw [if_neg hc] at h; cases h
theorem foldD_append : ∀ (l : List UInt8) (acc : Nat) (c : UInt8), foldD acc (l ++ [c]) = (foldD acc l).bind fun a => if 48 ≤ c.toNat ∧ c.toNat ≤ 57 then some (10 * a + (c.toNat - 48)) else none
  | [], acc, c => by simp only [List.nil_append, foldD, Option.bind_some]
  | x :: l, acc, c => by
    simp only [List.cons_append, foldD]
    split
    · exact foldD_append l _ c
    · rfl
theorem digit_toNat {x : Nat} (h : x < 10) : (UInt8.ofNat (48 + x)).toNat = 48 + x := by
  rw [UInt8.toNat_ofNat']; omega
theorem foldD_dec (u : Nat) : foldD 0 (Go.Lib.decDigits u) = some u := by
  induction u using Nat.strongRecOn with
  | _ u ih =>
    by_cases h : u < 10
    · rw [Go.Lib.decDigits_one h]
      simp only [foldD]
      rw [digit_toNat h, if_pos (by omega)]
      congr 1; omega
    · rw [decDigits_step (by omega), foldD_append, ih (u / 10) (by omega), Option.bind_some, digit_toNat (by omega), if_pos (by omega)]
      congr 1; omega
theorem decDigits_ne (u : Nat) : Go.Lib.decDigits u ≠ [] := by
  by_cases h : u < 10
  · rw [Go.Lib.decDigits_one h]; exact List.cons_ne_nil _ _
  · rw [decDigits_step (by omega)]; simp
theorem foldD_digits : ∀ (l : List UInt8) (acc u : Nat), foldD acc l = some u → ∀ c ∈ l, 48 ≤ c.toNat ∧ c.toNat ≤ 57
  | [], _, _, _, c, hc => by cases hc
  | x :: l, acc, u, h, c, hc => by
    simp only [foldD] at h
    by_cases hx : 48 ≤ x.toNat ∧ x.toNat ≤ 57
    · rw [if_pos hx] at h
      rcases List.mem_cons.1 hc with rfl | hc
      · exact hx
      · exact foldD_digits l _ u h c hc
    · rw [if_neg hx] at h; cases h
theorem decDigits_len (m : Nat) : ∀ u, u < 10 ^ (m + 1) → (Go.Lib.decDigits u).length ≤ m + 1 := by
  induction m with
  | zero => intro u h; rw [Go.Lib.decDigits_one (by omega)]; exact Nat.le_refl _
  | succ m ih =>
    intro u h
    by_cases h1 : u < 10
    · rw [Go.Lib.decDigits_one h1]; simp
    · have hp : 10 ^ (m + 1 + 1) = 10 ^ (m + 1) * 10 := Nat.pow_succ ..
      have := ih (u / 10) (by omega)
      rw [decDigits_step (by omega), List.length_append, List.length_singleton]; omega
/-- A numeral's digits begin with no sign. -/
theorem decDigits_head (u : Nat) : ∃ c l, Go.Lib.decDigits u = c :: l ∧ 48 ≤ c.toNat ∧ c.toNat ≤ 57 := by
  cases h : Go.Lib.decDigits u with
  | nil => exact absurd h (decDigits_ne u)
  | cons c l => exact ⟨c, l, rfl, foldD_digits (c :: l) 0 u (by rw [← h]; exact foldD_dec u) c (List.mem_cons_self ..)⟩
theorem itoa_neg {v : Int} (h : v < 0) : Go.Lib.itoa v = 45 :: Go.Lib.decDigits v.natAbs := by unfold Go.Lib.itoa; rw [if_pos h]
theorem itoa_pos {v : Int} (h : 0 ≤ v) : Go.Lib.itoa v = Go.Lib.decDigits v.natAbs := by unfold Go.Lib.itoa; rw [if_neg (by omega), show v.toNat = v.natAbs from by omega]
theorem decDigits_inj {a b : Nat} (h : Go.Lib.decDigits a = Go.Lib.decDigits b) : a = b := by
  have h1 := foldD_dec a
  rw [h, foldD_dec b] at h1
  exact (Option.some.inj h1).symm
theorem itoa_inj {a b : Int} (h : Go.Lib.itoa a = Go.Lib.itoa b) : a = b := by
  by_cases ha : a < 0 <;> by_cases hb : b < 0
  · rw [itoa_neg ha, itoa_neg hb] at h
    have := decDigits_inj (List.cons.inj h).2
    omega
  · obtain ⟨c, l, e, h1, _⟩ := decDigits_head b.natAbs
    rw [itoa_neg ha, itoa_pos (by omega), e] at h
    have h2 : c = 45 := ((List.cons.inj h).1).symm
    rw [h2] at h1; exact absurd h1 (by decide)
  · obtain ⟨c, l, e, h1, _⟩ := decDigits_head a.natAbs
    rw [itoa_neg hb, itoa_pos (by omega), e] at h
    have h2 : c = 45 := (List.cons.inj h).1
    rw [h2] at h1; exact absurd h1 (by decide)
  · rw [itoa_pos (by omega), itoa_pos (by omega)] at h
    have := decDigits_inj h
    omega
theorem parseUint10_fold : ∀ (l : List UInt8) (acc u : Nat), foldD acc l = some u → u < 1844674407370955162 → acc ≤ u → Go.Lib.parseUint10 acc l = .ok u
  | [], acc, u, h, _, _ => by simp only [foldD, Option.some.injEq] at h; subst h; rfl
  | c :: l, acc, u, h, hu, ha => by
    simp only [foldD] at h
    by_cases hc : 48 ≤ c.toNat ∧ c.toNat ≤ 57
    · rw [if_pos hc] at h
      have hge := foldD_ge l _ u h
      simp only [Go.Lib.parseUint10]
      rw [if_pos hc, if_neg (by omega), if_neg (by omega), Nat.mul_comm acc 10]
      exact parseUint10_fold l _ u h hu hge
    · rw [if_neg hc] at h; cases h
where
  foldD_ge : ∀ (l : List UInt8) (acc u : Nat), foldD acc l = some u → acc ≤ u
    | [], acc, u, h => by simp only [foldD, Option.some.injEq] at h; omega
    | c :: l, acc, u, h => by
      simp only [foldD] at h
      by_cases hc : 48 ≤ c.toNat ∧ c.toNat ≤ 57
      · rw [if_pos hc] at h
        have := foldD_ge l _ u h
        omega
      · rw [if_neg hc] at h; cases h
theorem atoi_itoa (v : Int) (hv : v.natAbs < 1844674407370955162) : Go.Lib.atoiAll (Go.Lib.itoa v) = .ok v := by
  have hp : Go.Lib.parseMag (Go.Lib.decDigits v.natAbs) = .ok v.natAbs := by
    unfold Go.Lib.parseMag
    rw [if_neg (decDigits_ne _)]
    exact parseUint10_fold _ 0 _ (foldD_dec _) hv (Nat.zero_le _)
  by_cases h : v < 0
  · rw [itoa_neg h]
    unfold Go.Lib.atoiAll
    have e45 : (45 : UInt8).toNat = 45 := rfl
    simp only [e45]
    rw [if_pos (Or.inr trivial), hp]
    simp only [not_true_eq_false, false_and, if_false, true_and, if_true]
    rw [if_neg (by omega)]
    congr 1; omega
  · obtain ⟨c, l, e, h1, h2⟩ := decDigits_head v.natAbs
    rw [e] at hp
    rw [itoa_pos (by omega), e]
    unfold Go.Lib.atoiAll
    have n45 : ¬ c.toNat = 45 := by omega
    have n43 : ¬ c.toNat = 43 := by omega
    simp only [n45, n43, or_self, if_false, hp]
    rw [if_neg (by omega), if_neg (by simp)]
    congr 1; omega
/-- What reading ends in: the number that the digits spell, if its numeral is the text. -/
def endR (below : Bool) (s : List UInt8) : Option Nat → Int × Bool
  | none => (0, false)
  | some u => if Go.Lib.itoa (if below = true then -(u : Int) else u) = s then ((if below = true then -(u : Int) else u), true) else (0, false)
theorem read_loop (s t : ByteArray) (b : Bool) (ht : t.size ≤ 12) : ∀ (d i k acc : Nat), i + d = t.size → d + 40 ≤ k → acc < 10 ^ i → spec_l1Read.l0 k s b t (acc : Int) (i : Int) = some (endR b s.data.toList (foldD acc (t.data.toList.drop i)))
  | 0, i, k, acc, hi, hk, ha => by
    obtain ⟨k, rfl⟩ : ∃ m, k = m + 1 := ⟨k - 1, by omega⟩
    have hl := size_list t
    have hp : 10 ^ i ≤ 10 ^ 12 := Nat.pow_le_pow_right (by decide) (by omega)
    have hp2 : (10 : Nat) ^ 12 = 1000000000000 := by decide
    simp only [spec_l1Read.l0]
    rw [if_neg (by omega), List.drop_eq_nil_of_le (by omega)]
    simp only [foldD, endR]
    have ew : wrap64 (-(acc : Int)) = -(acc : Int) := w64 (by omega) (by omega)
    cases b with
    | true =>
      rw [if_pos rfl, ew, spec_FormatInt_eq _ (by omega) (by omega) (by omega)]; simp only [Option.bind_some, if_true]
      rw [ByteArray.toList_eq, ByteArray.toList_eq]
      split <;> rfl
    | false =>
      rw [if_neg (by decide), spec_FormatInt_eq _ (by omega) (by omega) (by omega)]; simp only [Option.bind_some, Bool.false_eq_true, if_false]
      rw [ByteArray.toList_eq, ByteArray.toList_eq]
      split <;> rfl
  | d + 1, i, k, acc, hi, hk, ha => by
    obtain ⟨k, rfl⟩ : ∃ m, k = m + 1 := ⟨k - 1, by omega⟩
    have hl := size_list t
    have h1 : i < t.data.toList.length := by omega
    have hp : 10 ^ i ≤ 10 ^ 11 := Nat.pow_le_pow_right (by decide) (by omega)
    have hp2 : (10 : Nat) ^ 11 = 100000000000 := by decide
    have hp3 : 10 ^ (i + 1) = 10 ^ i * 10 := Nat.pow_succ ..
    simp only [spec_l1Read.l0]
    rw [if_pos (by omega), if_pos (by omega), bt_list t i (by omega), List.drop_eq_getElem_cons h1]
    simp only [foldD]
    generalize (t.data.toList[i]) = c
    have hc := c.toNat_lt
    by_cases g1 : 48 ≤ c.toNat
    · by_cases g2 : c.toNat ≤ 57
      · have e1 : wrap64 (wrap64 (10 * (acc : Int)) + ((c.toNat : Int) - 48) % 256) = ((10 * acc + (c.toNat - 48) : Nat) : Int) := by
          rw [w64 (n := 10 * (acc : Int)) (by omega) (by omega), w64 (by omega) (by omega)]; omega
        rw [if_neg (by omega), if_neg (by omega), if_pos ⟨g1, g2⟩, e1, wstep (n := t.size) (by omega) (by omega) (by omega), show (i : Int) + 1 = ((i + 1 : Nat) : Int) from by omega]
        exact read_loop s t b ht d (i + 1) k _ (by omega) (by omega) (by omega)
      · rw [if_neg (by omega), if_pos (by omega), if_neg (by omega)]; rfl
    · rw [if_pos (by omega), if_neg (by omega)]; rfl
/-- l1Read. -/
def readS (most : Nat) (s : List UInt8) : Int × Bool :=
  if s.head? = some 45 then (if s.tail.length < 1 ∨ most < s.tail.length then (0, false) else endR true s (foldD 0 s.tail))
  else (if s.length < 1 ∨ most < s.length then (0, false) else endR false s (foldD 0 s))
theorem read_j1 (s t : ByteArray) (b : Bool) (most : Nat) (hm : most ≤ 12) {k : Nat} (hk : 60 ≤ k) : spec_l1Read.j1 k s (most : Int) b t = some (if t.size < 1 ∨ most < t.size then (0, false) else endR b s.data.toList (foldD 0 t.data.toList)) := by
  obtain ⟨k, rfl⟩ : ∃ m, k = m + 1 + 1 := ⟨k - 2, by omega⟩
  simp only [spec_l1Read.j1, spec_l1Read.j2]
  by_cases h1 : t.size < 1
  · rw [if_pos (by omega), if_pos trivial, if_pos (Or.inl h1)]
  · rw [if_neg (by omega)]
    by_cases h2 : most < t.size
    · rw [decide_eq_true (by omega), if_pos rfl, if_pos (Or.inr h2)]
    · rw [decide_eq_false (by omega), if_neg (by decide), if_neg (by omega)]
      have := read_loop s t b (by omega) t.size 0 k 0 (by omega) (by omega) (by decide)
      rw [List.drop_zero] at this
      exact this
theorem spec_l1Read_eq (s : ByteArray) (most : Nat) (hm : most ≤ 12) {k : Nat} (hk : 70 ≤ k) : spec_l1Read.f k s (most : Int) = some (readS most s.data.toList) := by
  obtain ⟨k, rfl⟩ : ∃ m, k = m + 1 := ⟨k - 1, by omega⟩
  have hl := size_list s
  unfold spec_l1Read.f readS
  by_cases h0 : s.size = 0
  · have hn : s.data.toList = [] := List.eq_nil_of_length_eq_zero (by omega)
    rw [if_neg (by omega)]
    simp only [spec_l1Read.j0]
    rw [if_neg (by decide), read_j1 s s false most hm (by omega), hn]
    simp [h0]
  · rw [if_pos (by omega), if_pos (by omega)]
    have hb := bt_list s 0 (by omega)
    have hb' : bt s 0 = ((s.data.toList[0]'(by omega)).toNat : Int) := hb
    have hne : s.data.toList ≠ [] := fun e => by rw [e] at hl; simp at hl; omega
    obtain ⟨c, tl, htl⟩ := List.exists_cons_of_ne_nil hne
    have hc : s.data.toList[0]'(by omega) = c := by simp [htl]
    rw [hc] at hb'
    have hd : s.data.toList = c :: s.data.toList.tail := by rw [htl]; rfl
    have hx : (s.extract 1 s.size).data.toList = s.data.toList.tail := by
      rw [ByteArray.data_extract, Array.toList_extract]
      rw [List.extract_eq_take_drop, List.take_of_length_le (by rw [List.length_drop]; omega)]
      exact List.drop_one
    have hxs : (s.extract 1 s.size).size = s.data.toList.tail.length := by rw [← size_list, hx]
    simp only [spec_l1Read.j0]
    rw [hb']
    by_cases h45 : c = 45
    · subst h45
      have e1 : (((45 : UInt8).toNat : Int) == 45) = true := rfl
      have e2 : s.data.toList.head? = some 45 := by rw [hd]; rfl
      rw [e1, if_pos rfl, if_pos (by omega), read_j1 s _ true most hm (by omega), if_pos e2, hx, hxs]
    · have h46 : c.toNat ≠ 45 := fun e => h45 (UInt8.toNat_inj.1 e)
      have e1 : ((c.toNat : Int) == 45) = false := by rw [beq_eq_false_iff_ne]; omega
      have e2 : ¬ s.data.toList.head? = some 45 := by rw [hd]; simpa using h45
      rw [e1, if_neg (by decide), read_j1 s s false most hm (by omega), if_neg e2, hl]
/-- What l1Read says: the number of at most so many digits whose numeral is the text. -/
theorem readS_spec (most : Nat) (h1 : 1 ≤ most) (s : List UInt8) : (∃ v : Int, readS most s = (v, true) ∧ Go.Lib.itoa v = s ∧ v.natAbs < 10 ^ most) ∨ (readS most s = (0, false) ∧ ∀ v : Int, v.natAbs < 10 ^ most → Go.Lib.itoa v ≠ s) := by
  by_cases hh : ∃ v : Int, v.natAbs < 10 ^ most ∧ Go.Lib.itoa v = s
  · obtain ⟨v, hv, hs⟩ := hh
    left
    refine ⟨v, ?_, hs, hv⟩
    have hlen := decDigits_len (most - 1) v.natAbs (by rw [show most - 1 + 1 = most from by omega]; exact hv)
    have hne := List.length_pos_iff.2 (decDigits_ne v.natAbs)
    unfold readS
    by_cases h : v < 0
    · rw [itoa_neg h] at hs
      have e1 : s.head? = some 45 := by rw [← hs]; rfl
      have e2 : s.tail = Go.Lib.decDigits v.natAbs := by rw [← hs]; rfl
      rw [if_pos e1, e2, if_neg (by omega), foldD_dec]
      simp only [endR, if_true]
      rw [show -((v.natAbs : Nat) : Int) = v from by omega, itoa_neg h, if_pos hs]
    · rw [itoa_pos (by omega)] at hs
      obtain ⟨c, l, e, g1, g2⟩ := decDigits_head v.natAbs
      have e1 : ¬ s.head? = some 45 := by
        rw [← hs, e]
        intro h2
        have : c = 45 := by simpa using h2
        rw [this] at g1; exact absurd g1 (by decide)
      rw [if_neg e1, ← hs, if_neg (by omega), foldD_dec]
      simp only [endR, Bool.false_eq_true, if_false]
      rw [show ((v.natAbs : Nat) : Int) = v from by omega, itoa_pos (by omega), if_pos rfl]
  · right
    refine ⟨?_, fun v hv e => hh ⟨v, hv, e⟩⟩
    have key : ∀ (b : Bool) (t : List UInt8), ¬ (t.length < 1 ∨ most < t.length) → endR b s (foldD 0 t) = (0, false) := fun b t ht => by
      cases hf : foldD 0 t with
      | none => rfl
      | some u =>
        have hu := foldD_lt t 0 u hf
        have hp : 10 ^ t.length ≤ 10 ^ most := Nat.pow_le_pow_right (by decide) (by omega)
        simp only [endR]
        refine if_neg fun e => hh ⟨_, ?_, e⟩
        cases b
        · simp only [Bool.false_eq_true, if_false]; omega
        · simp only [if_true]; omega
    unfold readS
    split
    · split
      · rfl
      · exact key _ _ (by assumption)
    · split
      · rfl
      · exact key _ _ (by assumption)

def readI (lo hi : Int) (s : ByteArray) : Int × Bool := match readEnd s with
  | some v => if Go.Lib.itoa v = s.data.toList then (if lo ≤ v ∧ v ≤ hi then (v, true) else (0, false)) else (0, false)
  | none => (0, false)
theorem impl_readInt_eq (s : ByteArray) (hs : s.size ≤ 281474976710656) (lo hi : Int) : impl_readInt.f s lo hi = some (readI lo hi s) := by
  unfold impl_readInt.f readI
  rw [if_pos hs]
  cases h : readEnd s with
  | none => rfl
  | some v =>
    have hb : -9223372036854775808 ≤ v ∧ v ≤ 9223372036854775807 := by
      unfold readEnd at h
      cases e : Go.Lib.atoiAll s.data.toList with
      | ok x =>
        rw [e] at h
        obtain rfl := Option.some.inj h
        exact Go.Lib.atoiAll_bounds e
      | _ => rw [e] at h; cases h
    simp only
    rw [impl_FormatInt_eq v hb.1 hb.2]; simp only [Option.bind_some]
    rw [ByteArray.toList_eq, ByteArray.toList_eq]
    unfold impl_within.f
    by_cases c1 : Go.Lib.itoa v = s.data.toList
    · rw [if_pos c1, if_pos c1]
      by_cases c2 : lo ≤ v
      · rw [if_pos c2]; simp only [Option.bind_some]
        by_cases c3 : v ≤ hi
        · rw [decide_eq_true c3, if_pos rfl, if_pos ⟨c2, c3⟩]
        · rw [decide_eq_false c3, if_neg (by decide), if_neg (fun e => c3 e.2)]
      · rw [if_neg c2, if_neg (fun e => c2 e.1)]; rfl
    · rw [if_neg c1, if_neg c1]
/-- What readInt says: the number in the range whose numeral is the text. -/
theorem readI_spec (lo hi : Int) (h0 : -1000000000000 < lo) (h1 : hi < 1000000000000) (s : ByteArray) : (∃ v : Int, readI lo hi s = (v, true) ∧ Go.Lib.itoa v = s.data.toList ∧ lo ≤ v ∧ v ≤ hi) ∨ (readI lo hi s = (0, false) ∧ ∀ v : Int, lo ≤ v → v ≤ hi → Go.Lib.itoa v ≠ s.data.toList) := by
  by_cases hh : ∃ v : Int, (lo ≤ v ∧ v ≤ hi) ∧ Go.Lib.itoa v = s.data.toList
  · obtain ⟨v, hv, hs⟩ := hh
    left
    refine ⟨v, ?_, hs, hv⟩
    have he : readEnd s = some v := by
      unfold readEnd
      rw [← hs, atoi_itoa v (by omega)]
    unfold readI
    rw [he]; simp only
    rw [if_pos hs, if_pos hv]
  · right
    refine ⟨?_, fun v a b e => hh ⟨v, ⟨a, b⟩, e⟩⟩
    unfold readI
    cases h : readEnd s with
    | none => rfl
    | some v =>
      simp only
      by_cases c1 : Go.Lib.itoa v = s.data.toList
      · rw [if_pos c1, if_neg (fun c2 => hh ⟨v, c2, c1⟩)]
      · rw [if_neg c1]

theorem read_num (s : ByteArray) : (if (readS 6 s.data.toList).2 = true then (if (readS 6 s.data.toList).1 < 0 then ((0 : Int), false) else ((readS 6 s.data.toList).1, true)) else (0, false)) = readI 0 999999 s := by
  have hp : (10 : Nat) ^ 6 = 1000000 := by decide
  rcases readS_spec 6 (by decide) s.data.toList with ⟨v, e1, e2, e3⟩ | ⟨e1, e2⟩ <;> rcases readI_spec 0 999999 (by decide) (by decide) s with ⟨u, f1, f2, f3⟩ | ⟨f1, f2⟩
  · obtain rfl := itoa_inj (e2.trans f2.symm)
    rw [e1, f1]; simp only [if_true]
    rw [if_neg (by omega)]
  · rw [e1, f1]; simp only [if_true]
    by_cases hv : v < 0
    · rw [if_pos hv]
    · exact absurd e2 (f2 v (by omega) (by omega))
  · exact absurd f2 (e2 u (by omega))
  · rw [e1, f1]; rfl
theorem impl_ParseNumber_eq (s : ByteArray) (hs : s.size ≤ 281474976710656) : impl_ParseNumber.f s = some (readI 0 999999 s) := by
  unfold impl_ParseNumber.f
  rw [impl_readInt_eq s hs]; rfl

/-- The pieces of l between the bytes c. -/
def splitC (c : UInt8) : List UInt8 → List (List UInt8)
  | [] => [[]]
  | b :: l => if b = c then [] :: splitC c l else match splitC c l with
    | [] => [[b]]
    | h :: t => (b :: h) :: t
def splitAcc (c : UInt8) : List UInt8 → List UInt8 → List (List UInt8)
  | p, [] => [p]
  | p, b :: l => if b = c then p :: splitAcc c [] l else splitAcc c (p ++ [b]) l
theorem splitC_ne (c : UInt8) : ∀ l, splitC c l ≠ []
  | [] => by simp [splitC]
  | b :: l => by
    simp only [splitC]
    split
    · simp
    · split <;> simp
theorem splitAcc_eq (c : UInt8) : ∀ (l p : List UInt8), splitAcc c p l = match splitC c l with
    | [] => [p]
    | h :: t => (p ++ h) :: t
  | [], p => by simp [splitAcc, splitC]
  | b :: l, p => by
    simp only [splitAcc, splitC]
    by_cases e : b = c
    · rw [if_pos e, if_pos e, splitAcc_eq c l []]
      cases h : splitC c l with
      | nil => exact absurd h (splitC_ne c l)
      | cons x t => simp
    · rw [if_neg e, if_neg e, splitAcc_eq c l]
      cases h : splitC c l with
      | nil => exact absurd h (splitC_ne c l)
      | cons x t => simp
theorem splitAcc_nil (c : UInt8) (l : List UInt8) : splitAcc c [] l = splitC c l := by
  rw [splitAcc_eq]
  cases h : splitC c l with
  | nil => exact absurd h (splitC_ne c l)
  | cons x t => rfl
open Go.Lib in
theorem splitK_one (c : UInt8) : ∀ l : List UInt8, splitK [c] 0 (count l [c]) l = splitC c l
  | [] => by
    rw [count_miss (by simp [index])]; rfl
  | b :: l => by
    have ih := splitK_one c l
    simp only [splitC]
    by_cases e : b = c
    · subst e
      have hix : index (b :: l) [b] = 0 := by rw [index]; simp [List.isPrefixOf]
      rw [if_pos rfl, count_cons_eq, Nat.add_comm 1]
      simp only [splitK, hix]
      rw [if_neg (by decide)]
      simp only [Int.toNat_zero, List.length_singleton, Nat.zero_add, List.drop_succ_cons, List.drop_zero, List.take_zero]
      rw [ih]
    · rw [if_neg e, count_cons_ne b c l e, ← ih]
      have hp : ([c] : List UInt8).isPrefixOf (b :: l) = false := by simp [List.isPrefixOf, Ne.symm e]
      have hix : index (b :: l) [c] = if index l [c] == -1 then -1 else index l [c] + 1 := by rw [index, hp]; simp
      cases hc : count l [c] with
      | zero => rfl
      | succ k =>
        by_cases hm : index l [c] = -1
        · rw [count_miss hm] at hc; cases hc
        · have hge := index_ge l [c]
          obtain ⟨j, hj⟩ : ∃ j : Nat, index l [c] = j := ⟨(index l [c]).toNat, by omega⟩
          have hb : (index l [c] == -1) = false := by rw [beq_eq_false_iff_ne]; exact hm
          have hix2 : index (b :: l) [c] = ((j + 1 : Nat) : Int) := by rw [hix, hb, if_neg (by decide), hj]; omega
          have hb2 : (((j + 1 : Nat) : Int) == -1) = false := by rw [beq_eq_false_iff_ne]; omega
          have hb3 : ((j : Int) == -1) = false := by rw [beq_eq_false_iff_ne]; omega
          simp only [splitK, hix2, hj, hb2, hb3, Bool.false_eq_true, if_false, Int.toNat_natCast, List.length_singleton, Nat.add_zero, List.take_succ_cons, List.drop_succ_cons]
def mkB (l : List UInt8) : ByteArray := ⟨l.toArray⟩
theorem mkB_data (b : ByteArray) : mkB b.data.toList = b := by obtain ⟨⟨l⟩⟩ := b; rfl
def cB (x : Int) : UInt8 := UInt8.ofNat x.toNat
theorem splitL_eq (s : ByteArray) (x : Int) : splitL s (strOfNums [x]) = (splitC (cB x) s.data.toList).map mkB := by
  have h : (splitL s (strOfNums [x])).map (·.data.toList) = splitC (cB x) s.data.toList := by
    unfold splitL
    rw [Go.Lib.splitB_data]
    exact splitK_one (cB x) s.data.toList
  rw [← h, List.map_map]
  conv => lhs; rw [← List.map_id (splitL s (strOfNums [x]))]
  apply List.map_congr_left
  intro b _
  exact (mkB_data b).symm
theorem splitC_len (c : UInt8) : ∀ l : List UInt8, (splitC c l).length ≤ l.length + 1
  | [] => by simp [splitC]
  | b :: l => by
    have ih := splitC_len c l
    simp only [splitC]
    split
    · simp; exact ih
    · cases h : splitC c l with
      | nil => simp
      | cons x t => rw [h] at ih; simp at ih ⊢; omega
theorem cut_list (s : ByteArray) (a b : Nat) : (s.extract a b).data.toList = (s.data.toList.drop a).take (b - a) := by
  rw [ByteArray.data_extract, Array.toList_extract, List.extract_eq_take_drop]
theorem split_loop (s : ByteArray) (x : Int) (hx0 : 0 ≤ x) (hx1 : x ≤ 255) (hs : s.size ≤ 1048576) : ∀ (d f i k : Nat) (out : List ByteArray), i + d = s.size → f ≤ i → d + 2 < k → out.length ≤ i → spec_SplitByte.l0 k s x out (f : Int) (i : Int) = some (out ++ (splitAcc (cB x) ((s.data.toList.drop f).take (i - f)) (s.data.toList.drop i)).map mkB)
  | 0, f, i, k, out, hi, hf, hk, ho => by
    obtain ⟨k, rfl⟩ : ∃ m, k = m + 1 + 1 := ⟨k - 2, by omega⟩
    have hl := size_list s
    have e1 : wrap64 ((i : Int) + 1) = ((i + 1 : Nat) : Int) := by rw [w64 (by omega) (by omega)]; omega
    simp only [spec_SplitByte.l0]
    rw [if_pos (by omega), if_pos (by omega), if_pos (by omega), if_pos (by omega), if_pos (by omega), e1, if_neg (by omega), List.drop_eq_nil_of_le (by omega : s.data.toList.length ≤ i)]
    simp only [splitAcc, List.map_cons, List.map_nil, Int.toNat_natCast]
    rw [← cut_list, mkB_data]
  | d + 1, f, i, k, out, hi, hf, hk, ho => by
    obtain ⟨k, rfl⟩ : ∃ m, k = m + 1 := ⟨k - 1, by omega⟩
    have hl := size_list s
    have h1 : i < s.data.toList.length := by omega
    have e1 : wrap64 ((i : Int) + 1) = ((i + 1 : Nat) : Int) := by rw [w64 (by omega) (by omega)]; omega
    simp only [spec_SplitByte.l0]
    rw [if_pos (by omega), if_neg (by omega), if_pos (by omega), if_pos (by omega), bt_list s i (by omega), List.drop_eq_getElem_cons h1]
    simp only [splitAcc, Int.toNat_natCast]
    by_cases hc : s.data.toList[i] = cB x
    · have hb : (((s.data.toList[i]'h1).toNat : Nat) : Int) = x := by rw [hc]; unfold cB; rw [UInt8.toNat_ofNat']; omega
      rw [if_pos hb, if_pos (by omega), if_pos (by omega), if_pos (by omega), e1, if_pos hc]
      have := split_loop s x hx0 hx1 hs d (i + 1) (i + 1) k (out ++ [s.extract f i]) (by omega) (Nat.le_refl _) (by omega) (by rw [List.length_append, List.length_singleton]; omega)
      rw [this, Nat.sub_self, List.take_zero, List.append_assoc, ← cut_list, List.map_cons, mkB_data]; rfl
    · have hb : ¬ (((s.data.toList[i]'h1).toNat : Nat) : Int) = x := fun e => hc (by
        unfold cB
        rw [← e, Int.toNat_natCast, UInt8.ofNat_toNat])
      rw [if_neg hb, e1, if_neg hc]
      have := split_loop s x hx0 hx1 hs d f (i + 1) k out (by omega) (by omega) (by omega) (by omega)
      rw [this]
      congr 2
      have hd : (s.data.toList.drop f).take (i + 1 - f) = (s.data.toList.drop f).take (i - f) ++ [s.data.toList[i]] := by
        have h2 : i - f < (s.data.toList.drop f).length := by rw [List.length_drop]; omega
        rw [show i + 1 - f = (i - f) + 1 from by omega, List.take_succ_eq_append_getElem h2, List.getElem_drop]
        congr 3; omega
      rw [hd]
theorem spec_SplitByte_eq (s : ByteArray) (x : Int) (hx0 : 0 ≤ x) (hx1 : x ≤ 255) (hs : s.size ≤ 1048576) {k : Nat} (hk : s.size + 3 ≤ k) : spec_SplitByte.f k s x = some ((splitC (cB x) s.data.toList).map mkB) := by
  unfold spec_SplitByte.f
  have := split_loop s x hx0 hx1 hs s.size 0 0 k [] (by omega) (Nat.le_refl _) (by omega) (Nat.le_refl _)
  rw [show ((0 : Nat) : Int) = 0 from rfl] at this
  rw [this, List.nil_append]
  simp only [List.drop_zero, Nat.sub_self, List.take_zero, splitAcc_nil]

theorem join_two (p q : List UInt8) (r : List (List UInt8)) (c : UInt8) : Go.Lib.join (p :: q :: r) [c] = p ++ c :: Go.Lib.join (q :: r) [c] := by
  rw [Go.Lib.join_cons, Go.Lib.join_cons]
  unfold Go.Lib.joinTail
  simp
theorem join_head (b : UInt8) (h : List UInt8) (t : List (List UInt8)) (c : UInt8) : Go.Lib.join ((b :: h) :: t) [c] = b :: Go.Lib.join (h :: t) [c] := by
  rw [Go.Lib.join_cons, Go.Lib.join_cons]; rfl
theorem join_split (c : UInt8) : ∀ l : List UInt8, Go.Lib.join (splitC c l) [c] = l
  | [] => Go.Lib.join_one _ _
  | b :: l => by
    have ih := join_split c l
    simp only [splitC]
    by_cases e : b = c
    · rw [if_pos e]
      cases h : splitC c l with
      | nil => exact absurd h (splitC_ne c l)
      | cons x t => rw [join_two, ← h, ih, e]; rfl
    · rw [if_neg e]
      cases h : splitC c l with
      | nil => exact absurd h (splitC_ne c l)
      | cons x t => rw [h] at ih; simp only; rw [join_head, ih]
theorem splitC_no (c : UInt8) : ∀ l : List UInt8, c ∉ l → splitC c l = [l]
  | [], _ => rfl
  | b :: l, h => by
    simp only [splitC]
    rw [if_neg (fun e => h (by rw [e]; exact List.mem_cons_self ..)), splitC_no c l (fun e => h (List.mem_cons_of_mem _ e))]
theorem splitC_mem (c : UInt8) : ∀ (l p : List UInt8), p ∈ splitC c l → c ∉ p
  | [], p, h => by
    simp only [splitC, List.mem_singleton] at h
    subst h; exact List.not_mem_nil
  | b :: l, p, h => by
    simp only [splitC] at h
    by_cases e : b = c
    · rw [if_pos e] at h
      rcases List.mem_cons.1 h with rfl | h
      · exact List.not_mem_nil
      · exact splitC_mem c l p h
    · rw [if_neg e] at h
      cases hh : splitC c l with
      | nil => exact absurd hh (splitC_ne c l)
      | cons x t =>
        rw [hh] at h
        rcases List.mem_cons.1 h with rfl | h
        · intro hc
          rcases List.mem_cons.1 hc with hc | hc
          · exact e hc.symm
          · exact splitC_mem c l x (by rw [hh]; exact List.mem_cons_self ..) hc
        · exact splitC_mem c l p (by rw [hh]; exact List.mem_cons_of_mem _ h)
theorem splitC_app (c : UInt8) (l : List UInt8) : ∀ p : List UInt8, c ∉ p → splitC c (p ++ c :: l) = p :: splitC c l
  | [], _ => by simp [splitC]
  | b :: p, h => by
    have ih := splitC_app c l p (fun e => h (List.mem_cons_of_mem _ e))
    simp only [List.cons_append, splitC]
    rw [if_neg (fun e => h (by rw [e]; exact List.mem_cons_self ..)), ih]
theorem split_join (c : UInt8) : ∀ ps : List (List UInt8), ps ≠ [] → (∀ p ∈ ps, c ∉ p) → splitC c (Go.Lib.join ps [c]) = ps
  | [], h, _ => absurd rfl h
  | [p], _, h => by rw [Go.Lib.join_one]; exact splitC_no c p (h p (List.mem_cons_self ..))
  | p :: q :: r, _, h => by
    rw [join_two, splitC_app c _ p (h p (List.mem_cons_self ..)), split_join c (q :: r) (List.cons_ne_nil _ _) (fun x hx => h x (List.mem_cons_of_mem _ hx))]

/-- Row g, as a natural number. -/
def row (a : List Int) (g : Nat) : Nat := (a.getD g 0).toNat
def RowsOk (a : List Int) : Prop := ∀ x ∈ a, 0 ≤ x ∧ x ≤ 255
theorem rd_row {a : List Int} (h : RowsOk a) {i : Nat} (hi : i < a.length) : rd a (i : Int) = (row a i : Int) := by
  rw [rd_nat a i hi]
  have := h a[i] (List.getElem_mem hi)
  unfold row
  rw [List.getD_eq_getElem?_getD, List.getElem?_eq_getElem hi, Option.getD_some, Int.toNat_of_nonneg this.1]
theorem row_lt {a : List Int} (h : RowsOk a) (i : Nat) : row a i < 256 := by
  unfold row
  by_cases hi : i < a.length
  · have := h a[i] (List.getElem_mem hi)
    rw [List.getD_eq_getElem?_getD, List.getElem?_eq_getElem hi, Option.getD_some]; omega
  · rw [List.getD_eq_getElem?_getD, List.getElem?_eq_none (by omega)]; decide
theorem shl_bit {b : Nat} (hb : b ≤ 1) {i : Nat} (hi : i ≤ 8) : shl .i64 (b : Int) (i : Int) = ((b * 2 ^ i : Nat) : Int) := by
  have h0 : b = 0 ∨ b = 1 := by omega
  have h1 : i = 0 ∨ i = 1 ∨ i = 2 ∨ i = 3 ∨ i = 4 ∨ i = 5 ∨ i = 6 ∨ i = 7 ∨ i = 8 := by omega
  rcases h0 with rfl | rfl <;> rcases h1 with rfl | rfl | rfl | rfl | rfl | rfl | rfl | rfl | rfl <;> decide +kernel
theorem shl_one {i : Nat} (hi : i ≤ 8) : shl .i64 1 (i : Int) = ((2 ^ i : Nat) : Int) := by
  have := shl_bit (b := 1) (by omega) hi
  rw [Nat.one_mul] at this
  exact this
theorem pow_le8 {i : Nat} (hi : i ≤ 8) : 2 ^ i ≤ 256 := Nat.le_trans (Nat.pow_le_pow_right (by decide) hi) (by decide)
theorem full_nat {n : Nat} : full (n : Int) = ((2 ^ n - 1 : Nat) : Int) := by
  unfold full
  rw [Int.toNat_natCast, Int.natCast_sub (Nat.two_pow_pos n)]; simp
theorem or_lt {a b n : Nat} (ha : a < 2 ^ n) (hb : b < 2 ^ n) : a ||| b < 2 ^ n := Nat.or_lt_two_pow ha hb
theorem two_pow_bit (i g : Nat) : (2 ^ i).testBit g = decide (i = g) := Nat.testBit_two_pow
theorem full_bit (n m : Nat) : (2 ^ n - 1).testBit m = decide (m < n) := Nat.testBit_two_pow_sub_one n m
/-- A set of n elements is below 2 ^ n. -/
theorem isSet_nat {n : Nat} {s : Int} (h : isSetB (n : Int) s = true) : ∃ t : Nat, s = (t : Int) ∧ t < 2 ^ n ∧ n ≤ 8 ∧ t < 256 := by
  have hb := isSetB_bd h
  obtain ⟨t, rfl⟩ := Int.eq_ofNat_of_zero_le hb.2.2.1
  rw [full_nat] at hb
  have := Nat.two_pow_pos n
  exact ⟨t, rfl, by omega, by omega, by omega⟩
theorem lt_bits {t n : Nat} (h : t < 2 ^ n) {m : Nat} (hm : n ≤ m) : t.testBit m = false := Nat.testBit_lt_two_pow (Nat.lt_of_lt_of_le h (Nat.pow_le_pow_right (by decide) hm))
theorem lt_of_bits {t n : Nat} (h : ∀ m, t.testBit m = true → m < n) : t < 2 ^ n := by
  refine Nat.lt_pow_two_of_testBit t fun i hi => ?_
  cases e : t.testBit i with
  | false => rfl
  | true => exact absurd (h i e) (by omega)
theorem isSet_mk {n t : Nat} (hn : n ≤ 8) (h : t < 2 ^ n) : isSetB (n : Int) (t : Int) = true := by
  unfold isSetB
  rw [full_nat]
  have := Nat.two_pow_pos n
  exact decide_eq_true ⟨by omega, by omega, by omega, by omega⟩

def foldP : Nat → List UInt8 → Option Nat
  | acc, [] => some acc
  | acc, c :: l => if 97 ≤ c.toNat ∧ c.toNat ≤ 104 then foldP (acc ||| 2 ^ (c.toNat - 97)) l else none
theorem foldP_lt : ∀ (l : List UInt8) (acc s : Nat), acc < 256 → foldP acc l = some s → s < 256
  | [], acc, s, h, e => by simp only [foldP, Option.some.injEq] at e; omega
  | c :: l, acc, s, h, e => by
    simp only [foldP] at e
    by_cases hc : 97 ≤ c.toNat ∧ c.toNat ≤ 104
    · rw [if_pos hc] at e
      refine foldP_lt l _ s (Nat.or_lt_two_pow (n := 8) h ?_) e
      exact Nat.pow_lt_pow_right (by decide) (by omega)
    · rw [if_neg hc] at e; cases e
/-- ParseSet: the first set whose text it is. -/
def parseR (T : List UInt8) : Int × Bool := match (List.range 256).find? (fun s => letters (s : Nat) = T) with
  | some s => ((s : Int), true)
  | none => (0, false)
theorem letters_facts : ∀ s : Fin 256, (s.val = 0 ∧ letters ((s.val : Nat) : Int) = [45]) ∨ (s.val ≠ 0 ∧ letters ((s.val : Nat) : Int) ≠ [45] ∧ foldP 0 (letters ((s.val : Nat) : Int)) = some s.val) := by decide +kernel
theorem setText_nat {s : Nat} (h : s < 256) : setText (s : Int) = letters (s : Int) := by
  unfold setText
  rw [isSetB8, decide_eq_true (by omega : (0 : Int) ≤ (s : Int) ∧ (s : Int) ≤ 255), if_pos rfl]
theorem parseR_yes {T : List UInt8} {s : Nat} (hs : s < 256) (h : letters (s : Int) = T) : parseR T = ((s : Int), true) := by
  unfold parseR
  cases e : (List.range 256).find? (fun s => letters ((s : Nat) : Int) = T) with
  | none =>
    have := List.find?_eq_none.1 e s (List.mem_range.2 hs)
    simp [h] at this
  | some t =>
    have h1 : letters (t : Int) = T := by simpa using List.find?_some e
    have h2 : t < 256 := List.mem_range.1 (List.mem_of_find?_eq_some e)
    have a := letters_facts ⟨s, hs⟩
    have b := letters_facts ⟨t, h2⟩
    simp only at a b
    rw [h] at a
    rw [h1] at b
    have : s = t := by
      rcases a with ⟨a1, a2⟩ | ⟨a1, a2, a3⟩ <;> rcases b with ⟨b1, b2⟩ | ⟨b1, b2, b3⟩
      · omega
      · exact absurd a2 b2
      · exact absurd b2 a2
      · exact Option.some.inj (a3.symm.trans b3)
    rw [this]
theorem parseR_no {T : List UInt8} (h : ∀ s : Nat, s < 256 → letters (s : Int) ≠ T) : parseR T = (0, false) := by
  unfold parseR
  cases e : (List.range 256).find? (fun s => letters ((s : Nat) : Int) = T) with
  | none => rfl
  | some t => exact absurd (by simpa using List.find?_some e) (h t (List.mem_range.1 (List.mem_of_find?_eq_some e)))

theorem impl_SetText_at {s : Int} {k : Nat} (hk : 10 ≤ k) : ∃ b, impl_SetText.f k s = some b ∧ b.data.toList = setText s := by
  obtain ⟨b, h, e⟩ := impl_SetText_eq s
  exact ⟨b, at_rounds (fun k => impl_SetText.mono s k) hk h, e⟩
theorem impl_ParseSet_loop (x : ByteArray) : ∀ (d i k : Nat), i + d = 256 → d + 12 < k → (∀ s : Nat, s < i → letters (s : Int) ≠ x.data.toList) → impl_ParseSet.l0 k x (i : Int) = some (parseR x.data.toList)
  | 0, i, k, hi, hk, hno => by
    obtain ⟨k, rfl⟩ : ∃ m, k = m + 1 := ⟨k - 1, by omega⟩
    simp only [impl_ParseSet.l0]
    rw [if_neg (by omega), parseR_no (fun s hs => hno s (by omega))]
  | d + 1, i, k, hi, hk, hno => by
    obtain ⟨k, rfl⟩ : ∃ m, k = m + 1 := ⟨k - 1, by omega⟩
    obtain ⟨b, h, e⟩ := impl_SetText_at (s := (i : Int)) (k := k) (by omega)
    simp only [impl_ParseSet.l0]
    rw [if_pos (by omega), h, Option.bind_some, ByteArray.toList_eq, ByteArray.toList_eq, e, setText_nat (by omega)]
    by_cases hh : letters (i : Int) = x.data.toList
    · rw [if_pos hh, parseR_yes (by omega) hh]
    · rw [if_neg hh, w64 (by omega) (by omega), show (i : Int) + 1 = ((i + 1 : Nat) : Int) from by omega]
      refine impl_ParseSet_loop x d (i + 1) k (by omega) (by omega) (fun s hs => ?_)
      by_cases e : s = i
      · subst e; exact hh
      · exact hno s (by omega)
theorem impl_ParseSet_eq (x : ByteArray) {k : Nat} (hk : 270 ≤ k) : impl_ParseSet.f k x = some (parseR x.data.toList) := by
  unfold impl_ParseSet.f
  exact impl_ParseSet_loop x 256 0 k (by omega) (by omega) (fun s hs => absurd hs (Nat.not_lt_zero _))

theorem spec_SetText_at {s : Int} {k : Nat} (hk : 10 ≤ k) : ∃ b, spec_SetText.f k s = some b ∧ b.data.toList = setText s := by
  obtain ⟨b, h, e⟩ := spec_SetText_eq s
  exact ⟨b, at_rounds (fun k => spec_SetText.mono s k) hk h, e⟩
def specEnd (T : List UInt8) : Option Nat → Int × Bool
  | none => (0, false)
  | some s => if setText (s : Int) = T then ((s : Int), true) else (0, false)
theorem specEnd_some (T : List UInt8) (s : Nat) : specEnd T (some s) = if setText (s : Int) = T then ((s : Int), true) else (0, false) := rfl
theorem spec_ParseSet_end (x : ByteArray) (acc : Nat) (i : Int) (k : Nat) (hk : 11 ≤ k) : spec_ParseSet.j1 k x (acc : Int) i false = some (specEnd x.data.toList (some acc)) := by
  obtain ⟨k, rfl⟩ : ∃ m, k = m + 1 := ⟨k - 1, by omega⟩
  simp only [spec_ParseSet.j1, specEnd]
  obtain ⟨b, h, e⟩ := spec_SetText_at (s := (acc : Int)) (k := k) (by omega)
  rw [if_neg (by decide), h, Option.bind_some, ByteArray.toList_eq, ByteArray.toList_eq, e]
  split <;> rfl
theorem spec_ParseSet_loop (x : ByteArray) (hT : x.data.toList ≠ [45]) (hn : x.size ≤ 281474976710656) : ∀ (d i k acc : Nat), i + d = x.size → 2 * d + 12 < k → acc < 256 → spec_ParseSet.l0 k x (acc : Int) (i : Int) = some (specEnd x.data.toList (foldP acc (x.data.toList.drop i)))
  | 0, i, k, acc, hi, hk, _ => by
    obtain ⟨k, rfl⟩ : ∃ m, k = m + 1 := ⟨k - 1, by omega⟩
    have hl := size_list x
    simp only [spec_ParseSet.l0]
    rw [if_neg (by omega), List.drop_eq_nil_of_le (by omega), spec_ParseSet_end x acc _ k (by omega)]
    rfl
  | d + 1, i, k, acc, hi, hk, hacc => by
    obtain ⟨k, rfl⟩ : ∃ m, k = m + 1 + 1 := ⟨k - 2, by omega⟩
    have hl := size_list x
    have h1 : i < x.data.toList.length := by omega
    have e0 : (x.toList != ([45] : List UInt8)) = true := by rw [ByteArray.toList_eq]; simp [hT]
    simp only [spec_ParseSet.l0]
    rw [if_pos (by omega), e0, List.drop_eq_getElem_cons h1]
    simp only [spec_ParseSet.j1, foldP]
    have eb := bt_list x i (by omega)
    rw [if_pos True.intro, if_pos (by omega), if_pos (by omega), eb]
    generalize (x.data.toList[i]) = c
    by_cases g1 : 97 ≤ c.toNat
    · by_cases g2 : c.toNat ≤ 104
      · have hp : 2 ^ (c.toNat - 97) < 2 ^ 8 := Nat.pow_lt_pow_right (by decide) (by omega)
        have e1 : ((c.toNat : Int) - 97) % 256 = ((c.toNat - 97 : Nat) : Int) := by omega
        rw [if_neg (by omega), if_neg (by omega), if_pos ⟨g1, g2⟩, e1, shl_one (by omega), or_nat _ _ (by omega) (by omega), wstep (n := x.size) (by omega) (by omega) hn, show (i : Int) + 1 = ((i + 1 : Nat) : Int) from by omega]
        exact spec_ParseSet_loop x hT hn d (i + 1) k _ (by omega) (by omega) (Nat.or_lt_two_pow (n := 8) hacc hp)
      · rw [if_neg (by omega), if_pos (by omega), if_neg (by omega)]; rfl
    · rw [if_pos (by omega), if_neg (by omega)]; rfl
theorem spec_ParseSet_eq (x : ByteArray) (hn : x.size ≤ 281474976710656) {k : Nat} (hk : 2 * x.size + 20 ≤ k) : spec_ParseSet.f k x = some (parseR x.data.toList) := by
  unfold spec_ParseSet.f
  by_cases hT : x.data.toList = [45]
  · obtain ⟨k, rfl⟩ : ∃ m, k = m + 1 := ⟨k - 1, by omega⟩
    have e0 : (x.toList != ([45] : List UInt8)) = false := by rw [ByteArray.toList_eq, hT]; decide
    have e1 : parseR x.data.toList = (0, true) := parseR_yes (s := 0) (by decide) (by rw [hT]; rfl)
    have e2 : specEnd x.data.toList (some 0) = (0, true) := by
      rw [specEnd_some, hT, if_pos (by decide +kernel)]; rfl
    have hl := size_list x
    rw [hT] at hl
    have hz : x.size = 1 := by rw [← hl]; rfl
    simp only [spec_ParseSet.l0]
    rw [if_pos (by omega), e0, e1, ← e2]
    exact spec_ParseSet_end x 0 _ k (by omega)
  · have := spec_ParseSet_loop x hT hn x.size 0 k 0 (by omega) (by omega) (by omega)
    rw [List.drop_zero] at this
    rw [show (0 : Int) = ((0 : Nat) : Int) from rfl, this]
    congr 1
    by_cases hh : ∃ s : Nat, s < 256 ∧ letters (s : Int) = x.data.toList
    · obtain ⟨s, hs, h⟩ := hh
      rw [parseR_yes hs h]
      rcases letters_facts ⟨s, hs⟩ with ⟨_, h2⟩ | ⟨_, _, h2⟩
      · exact absurd (h.symm.trans h2) hT
      · rw [h] at h2
        rw [h2]
        show specEnd _ (some s) = _
        rw [specEnd_some, setText_nat hs, h, if_pos rfl]
    · rw [parseR_no (fun s hs h => hh ⟨s, hs, h⟩)]
      cases e : foldP 0 x.data.toList with
      | none => rfl
      | some s =>
        have hs := foldP_lt _ 0 s (by decide) e
        rw [specEnd_some, setText_nat hs, if_neg (fun h => hh ⟨s, hs, h⟩)]

theorem letters_ne : ∀ s : Fin 256, letters ((s.val : Nat) : Int) ≠ [] := by decide +kernel
theorem txt_list (s : Int) : (txt s).data.toList = setText s := rfl
theorem parse_text (s : Int) : (isSetB 8 s = true ∧ setText s ≠ [] ∧ parseR (setText s) = (s, true)) ∨ (setText s = [] ∧ parseR (setText s) = (0, false)) := by
  cases h : isSetB 8 s with
  | true =>
    have hb := isSetB_bd h
    obtain ⟨a, rfl⟩ := Int.eq_ofNat_of_zero_le hb.2.2.1
    have ha : a < 256 := by omega
    left
    rw [setText_nat ha]
    exact ⟨rfl, letters_ne ⟨a, ha⟩, parseR_yes ha rfl⟩
  | false =>
    right
    have e : setText s = [] := by unfold setText; rw [h]; rfl
    rw [e]
    exact ⟨rfl, parseR_no fun t ht => letters_ne ⟨t, ht⟩⟩

def noneL : List UInt8 := [110, 111, 110, 101]
def setsL (a : List Int) : List UInt8 := if a.length = 0 then noneL else Go.Lib.join (a.map setText) [44]
theorem setText_len (x : Int) : (setText x).length ≤ 8 := by
  have := txt_size x
  rw [← size_list] at this
  exact this
theorem join_sets_len (a : List Int) : (Go.Lib.join (a.map setText) [44]).length ≤ 9 * a.length := by
  induction a with
  | nil => decide
  | cons x r ih =>
    have h := setText_len x
    cases r with
    | nil => rw [List.map_cons, List.map_nil, Go.Lib.join_one]; simp; omega
    | cons y r =>
      rw [List.map_cons, List.map_cons, join_two, List.length_append, List.length_cons, ← List.map_cons (f := setText)]
      simp only [List.length_cons] at ih ⊢
      omega
theorem setsR_list (a : List Int) (hl : a.length ≤ 8) : (setsR a).data.toList = setsL a := by
  unfold setsR setsL
  split
  · rfl
  · have hj : joinB (a.map txt) comma = Go.Lib.join (a.map setText) [44] := by
      unfold joinB
      rw [List.map_map]; rfl
    have := join_sets_len a
    unfold joinR
    rw [hj, if_pos (by omega)]
theorem ctxText_list {n : Int} {a : List Int} (h : ctxB n a = true) : (ctxText n a).data.toList = Go.Lib.itoa n ++ 32 :: setsL a := by
  have hc := ctxB_out h
  unfold ctxText
  rw [if_pos h, ByteArray.data_append, ByteArray.data_append, Array.toList_append, Array.toList_append, setsR_list a hc.2.2.1, List.append_assoc]; rfl
theorem setText_chars (x : Int) (c : UInt8) (h : c ∈ setText x) : c ≠ 32 ∧ c ≠ 44 ∧ c ≠ 110 := by
  cases hs : isSetB 8 x with
  | false => unfold setText at h; rw [hs] at h; cases h
  | true => exact all256 (P := fun x => ∀ c ∈ setText x, c ≠ 32 ∧ c ≠ 44 ∧ c ≠ 110) (by decide +kernel) hs c h
theorem mem_join (d c : UInt8) : ∀ ps : List (List UInt8), c ∈ Go.Lib.join ps [d] → c = d ∨ ∃ p ∈ ps, c ∈ p
  | [], h => by cases h
  | [p], h => by rw [Go.Lib.join_one] at h; exact Or.inr ⟨p, List.mem_cons_self .., h⟩
  | p :: q :: r, h => by
    rw [join_two] at h
    rcases List.mem_append.1 h with h | h
    · exact Or.inr ⟨p, List.mem_cons_self .., h⟩
    · rcases List.mem_cons.1 h with h | h
      · exact Or.inl h
      · rcases mem_join d c (q :: r) h with h | ⟨p', h1, h2⟩
        · exact Or.inl h
        · exact Or.inr ⟨p', List.mem_cons_of_mem _ h1, h2⟩
theorem setsL_no32 (a : List Int) : (32 : UInt8) ∉ setsL a := by
  unfold setsL
  split
  · decide
  · intro h
    rcases mem_join _ _ _ h with h | ⟨p, h1, h2⟩
    · exact absurd h (by decide)
    · obtain ⟨x, _, rfl⟩ := List.mem_map.1 h1
      exact (setText_chars x _ h2).1 rfl
theorem setsL_none (a : List Int) (h0 : a.length ≠ 0) : setsL a ≠ noneL := by
  intro e
  have h : (110 : UInt8) ∈ setsL a := by rw [e]; decide
  unfold setsL at h
  rw [if_neg h0] at h
  rcases mem_join _ _ _ h with h | ⟨p, h1, h2⟩
  · exact absurd h (by decide)
  · obtain ⟨x, _, rfl⟩ := List.mem_map.1 h1
    exact (setText_chars x _ h2).2.2 rfl
def parseAll : List (List UInt8) → Option (List Int)
  | [] => some []
  | p :: r => if (parseR p).2 = true then (parseAll r).map ((parseR p).1 :: ·) else none
theorem parseAll_sets : ∀ a : List Int, a.all (isSetB 8) = true → parseAll (a.map setText) = some a
  | [], _ => rfl
  | x :: a, h => by
    rw [List.all_cons, Bool.and_eq_true] at h
    have ih := parseAll_sets a h.2
    rw [List.map_cons]
    simp only [parseAll]
    rcases parse_text x with ⟨_, _, h3⟩ | ⟨h2, _⟩
    · rw [h3, ih]; rfl
    · have hb := isSetB_bd h.1
      obtain ⟨m, rfl⟩ := Int.eq_ofNat_of_zero_le hb.2.2.1
      rw [setText_nat (by omega)] at h2
      exact absurd h2 (letters_ne ⟨m, by omega⟩)
theorem parseR_inv {p : List UInt8} {x : Int} (h : parseR p = (x, true)) : setText x = p := by
  unfold parseR at h
  cases e : (List.range 256).find? (fun s => letters ((s : Nat) : Int) = p) with
  | none => rw [e] at h; cases h
  | some s =>
    rw [e] at h
    have h1 : letters (s : Int) = p := by simpa using List.find?_some e
    have h2 : s < 256 := List.mem_range.1 (List.mem_of_find?_eq_some e)
    have h3 : (s : Int) = x := (Prod.mk.inj h).1
    rw [← h3, setText_nat h2]; exact h1
theorem parseAll_inv : ∀ (ps : List (List UInt8)) (rows : List Int), parseAll ps = some rows → ps = rows.map setText
  | [], rows, h => by simp only [parseAll, Option.some.injEq] at h; subst h; rfl
  | p :: r, rows, h => by
    simp only [parseAll] at h
    by_cases hb : (parseR p).2 = true
    · rw [if_pos hb] at h
      obtain ⟨t, h1, rfl⟩ := Option.map_eq_some_iff.1 h
      rw [List.map_cons, ← parseAll_inv r t h1, parseR_inv (p := p) (x := (parseR p).1) (by rw [← hb])]
    · rw [if_neg hb] at h; cases h
/-! the cut at the first c -/
open Go.Lib in
theorem cut_nil (c : UInt8) : cut [] [c] = ([], [], false) := by
  unfold cut
  rw [show index [] [c] = -1 from by simp [index], if_neg (by decide)]
open Go.Lib in
theorem cut_cons (b c : UInt8) (l : List UInt8) : cut (b :: l) [c] = if b = c then ([], l, true) else (b :: (cut l [c]).1, (cut l [c]).2.1, (cut l [c]).2.2) := by
  by_cases e : b = c
  · subst e
    have hix : index (b :: l) [b] = 0 := by rw [index]; simp [List.isPrefixOf]
    rw [if_pos rfl]
    unfold cut
    rw [hix, if_pos (by decide)]; rfl
  · have hp : ([c] : List UInt8).isPrefixOf (b :: l) = false := by simp [List.isPrefixOf, Ne.symm e]
    have hix : index (b :: l) [c] = if index l [c] == -1 then -1 else index l [c] + 1 := by rw [index, hp]; simp
    have hge := index_ge l [c]
    rw [if_neg e]
    by_cases hm : index l [c] = -1
    · have e1 : index (b :: l) [c] = -1 := by rw [hix, hm]; rfl
      unfold cut
      rw [e1, hm, if_neg (by decide), if_neg (by decide)]
    · obtain ⟨j, hj⟩ : ∃ j : Nat, index l [c] = j := ⟨(index l [c]).toNat, by omega⟩
      have hb : (index l [c] == -1) = false := by rw [beq_eq_false_iff_ne]; exact hm
      have e1 : index (b :: l) [c] = ((j + 1 : Nat) : Int) := by rw [hix, hb, if_neg (by decide), hj]; omega
      unfold cut
      rw [e1, hj, if_pos (by omega), if_pos (by omega)]
      simp only [Int.toNat_natCast, List.length_singleton, List.take_succ_cons, List.drop_succ_cons]
theorem cut_app (c : UInt8) (l : List UInt8) : ∀ p : List UInt8, c ∉ p → Go.Lib.cut (p ++ c :: l) [c] = (p, l, true)
  | [], _ => by rw [List.nil_append, cut_cons, if_pos rfl]
  | b :: p, h => by
    rw [List.cons_append, cut_cons, if_neg (fun e => h (by rw [e]; exact List.mem_cons_self ..)), cut_app c l p (fun e => h (List.mem_cons_of_mem _ e))]
theorem cut_inv (c : UInt8) : ∀ l : List UInt8, (Go.Lib.cut l [c]).2.2 = true → l = (Go.Lib.cut l [c]).1 ++ c :: (Go.Lib.cut l [c]).2.1
  | [], h => by rw [cut_nil] at h; cases h
  | b :: l, h => by
    rw [cut_cons] at h ⊢
    by_cases e : b = c
    · rw [if_pos e, e]; rfl
    · rw [if_neg e] at h ⊢
      have := cut_inv c l h
      simp only [List.cons_append, ← this]
/-! the two readings -/
def Good (T : List UInt8) (n : Int) (a : List Int) : Prop := ctxB n a = true ∧ (ctxText n a).data.toList = T
def endC (s : ByteArray) (ok : Bool) (n : Int) (rows : List Int) : Int × List Int × Bool := if ok = true then (if ctxText n rows = s then (n, rows, true) else (0, [], false)) else (0, [], false)
def specC (s : ByteArray) : Int × List Int × Bool := match splitC 32 s.data.toList with
  | [w0, w1] => if w1 = noneL then endC s (readS 12 w0).2 (readS 12 w0).1 [] else match parseAll (splitC 44 w1) with
    | some rows => endC s (readS 12 w0).2 (readS 12 w0).1 rows
    | none => (0, [], false)
  | _ => (0, [], false)
def setsP (w : List UInt8) : List Int × Bool := if w = noneL then ([], true) else match parseAll (splitC 44 w) with
  | some rows => (rows, true)
  | none => ([], false)
def implC (s : ByteArray) : Int × List Int × Bool :=
  if (Go.Lib.cut s.data.toList [32]).2.2 = true then (if (readI 0 999999 (mkB (Go.Lib.cut s.data.toList [32]).1)).2 = true then (if (setsP (Go.Lib.cut s.data.toList [32]).2.1).2 = true then
    (if ctxB (readI 0 999999 (mkB (Go.Lib.cut s.data.toList [32]).1)).1 (setsP (Go.Lib.cut s.data.toList [32]).2.1).1 = true then ((readI 0 999999 (mkB (Go.Lib.cut s.data.toList [32]).1)).1, (setsP (Go.Lib.cut s.data.toList [32]).2.1).1, true) else (0, [], false)) else (0, [], false)) else (0, [], false)) else (0, [], false)
theorem itoa_no32 {n : Int} (h0 : 0 ≤ n) (h1 : n ≤ 6) : (32 : UInt8) ∉ Go.Lib.itoa n := by
  rw [itoa_small n h0 h1, List.mem_singleton]
  intro e
  have := congrArg UInt8.toNat e
  rw [digit_toNat (by omega)] at this
  have e32 : (32 : UInt8).toNat = 32 := rfl
  omega
theorem setsP_sets (a : List Int) (ha : a.all (isSetB 8) = true) : setsP (setsL a) = (a, true) := by
  unfold setsP
  by_cases h0 : a.length = 0
  · have : a = [] := List.eq_nil_of_length_eq_zero h0
    subst this
    exact if_pos (show setsL [] = noneL from rfl)
  · rw [if_neg (setsL_none a h0)]
    have e : splitC 44 (setsL a) = a.map setText := by
      unfold setsL
      rw [if_neg h0]
      exact split_join 44 _ (fun e => h0 (by rw [← List.length_map (f := setText), e]; rfl)) (fun p hp hc => by
        obtain ⟨x, _, rfl⟩ := List.mem_map.1 hp
        exact (setText_chars x _ hc).2.1 rfl)
    rw [e, parseAll_sets a ha]
theorem setsP_inv {w : List UInt8} {a : List Int} (h : setsP w = (a, true)) : w = setsL a := by
  unfold setsP at h
  by_cases hw : w = noneL
  · rw [if_pos hw] at h
    have : a = [] := (Prod.mk.inj h).1.symm
    subst this
    rw [hw]; rfl
  · rw [if_neg hw] at h
    cases hp : parseAll (splitC 44 w) with
    | none => rw [hp] at h; cases h
    | some rows =>
      rw [hp] at h
      have : a = rows := (Prod.mk.inj h).1.symm
      subst this
      have e := parseAll_inv _ _ hp
      have hne : a.length ≠ 0 := fun h0 => splitC_ne 44 w (by rw [e, List.eq_nil_of_length_eq_zero h0]; rfl)
      unfold setsL
      rw [if_neg hne, ← e, join_split]
theorem implC_good {s : ByteArray} {n : Int} {a : List Int} (h : Good s.data.toList n a) : implC s = (n, a, true) := by
  obtain ⟨hb, hT⟩ := h
  have hc := ctxB_out hb
  rw [ctxText_list hb] at hT
  have ecut : Go.Lib.cut s.data.toList [32] = (Go.Lib.itoa n, setsL a, true) := by rw [← hT]; exact cut_app 32 _ _ (itoa_no32 hc.1 hc.2.1)
  have er : readI 0 999999 (mkB (Go.Lib.itoa n)) = (n, true) := by
    rcases readI_spec 0 999999 (by decide) (by decide) (mkB (Go.Lib.itoa n)) with ⟨v, f1, f2, _⟩ | ⟨_, f2⟩
    · rw [f1, itoa_inj f2]
    · exact absurd rfl (f2 n hc.1 (by omega))
  unfold implC
  rw [ecut]; simp only
  rw [er, setsP_sets a (ctx_all hb)]; simp only [if_true]
  rw [if_pos hb]
theorem implC_back (s : ByteArray) : implC s = (0, [], false) ∨ ∃ n a, implC s = (n, a, true) ∧ Good s.data.toList n a := by
  unfold implC
  by_cases c1 : (Go.Lib.cut s.data.toList [32]).2.2 = true
  · rw [if_pos c1]
    by_cases c2 : (readI 0 999999 (mkB (Go.Lib.cut s.data.toList [32]).1)).2 = true
    · rw [if_pos c2]
      by_cases c3 : (setsP (Go.Lib.cut s.data.toList [32]).2.1).2 = true
      · rw [if_pos c3]
        by_cases c4 : ctxB (readI 0 999999 (mkB (Go.Lib.cut s.data.toList [32]).1)).1 (setsP (Go.Lib.cut s.data.toList [32]).2.1).1 = true
        · rw [if_pos c4]
          refine Or.inr ⟨_, _, rfl, c4, ?_⟩
          have e1 := cut_inv 32 s.data.toList c1
          have e2 : (Go.Lib.cut s.data.toList [32]).2.1 = setsL (setsP (Go.Lib.cut s.data.toList [32]).2.1).1 := setsP_inv (Prod.ext rfl c3)
          have e3 : Go.Lib.itoa (readI 0 999999 (mkB (Go.Lib.cut s.data.toList [32]).1)).1 = (Go.Lib.cut s.data.toList [32]).1 := by
            rcases readI_spec 0 999999 (by decide) (by decide) (mkB (Go.Lib.cut s.data.toList [32]).1) with ⟨v, f1, f2, _⟩ | ⟨f1, _⟩
            · rw [f1]; exact f2
            · rw [f1] at c2; cases c2
          rw [ctxText_list c4, e3, ← e2]
          exact e1.symm
        · rw [if_neg c4]; exact Or.inl rfl
      · rw [if_neg c3]; exact Or.inl rfl
    · rw [if_neg c2]; exact Or.inl rfl
  · rw [if_neg c1]; exact Or.inl rfl
theorem specC_good {s : ByteArray} {n : Int} {a : List Int} (h : Good s.data.toList n a) : specC s = (n, a, true) := by
  obtain ⟨hb, hT⟩ := h
  have hc := ctxB_out hb
  have hs : ctxText n a = s := by rw [← mkB_data s, ← hT, mkB_data]
  rw [ctxText_list hb] at hT
  have es : splitC 32 s.data.toList = [Go.Lib.itoa n, setsL a] := by rw [← hT, splitC_app 32 _ _ (itoa_no32 hc.1 hc.2.1), splitC_no 32 _ (setsL_no32 a)]
  have er : readS 12 (Go.Lib.itoa n) = (n, true) := by
    rcases readS_spec 12 (by decide) (Go.Lib.itoa n) with ⟨v, f1, f2, _⟩ | ⟨_, f2⟩
    · rw [f1, itoa_inj f2]
    · exact absurd rfl (f2 n (Nat.lt_of_le_of_lt (show n.natAbs ≤ 6 by omega) (by decide)))
  have e := setsP_sets a (ctx_all hb)
  unfold setsP at e
  unfold specC
  rw [es]; simp only
  rw [er]
  by_cases c : setsL a = noneL
  · rw [if_pos c] at e ⊢
    have : a = [] := (Prod.mk.inj e).1.symm
    subst this
    unfold endC; rw [if_pos rfl, if_pos hs]
  · rw [if_neg c] at e ⊢
    cases hp : parseAll (splitC 44 (setsL a)) with
    | none => rw [hp] at e; cases e
    | some rows =>
      rw [hp] at e
      have : rows = a := (Prod.mk.inj e).1
      subst this
      unfold endC; simp only; rw [if_pos trivial, if_pos hs]
theorem endC_back {s : ByteArray} (hs : s.data.toList ≠ []) (ok : Bool) (n : Int) (a : List Int) : endC s ok n a = (0, [], false) ∨ ∃ n' a', endC s ok n a = (n', a', true) ∧ Good s.data.toList n' a' := by
  unfold endC
  cases ok with
  | false => exact Or.inl rfl
  | true =>
    rw [if_pos rfl]
    by_cases c : ctxText n a = s
    · rw [if_pos c]
      refine Or.inr ⟨n, a, ?_, ?_⟩
      · rfl
      · cases hb : ctxB n a with
        | true => exact ⟨hb, by rw [c]⟩
        | false =>
          unfold ctxText at c
          rw [hb, if_neg (by decide)] at c
          exact absurd (by rw [← c]) hs
    · rw [if_neg c]; exact Or.inl rfl
theorem specC_back (s : ByteArray) : specC s = (0, [], false) ∨ ∃ n a, specC s = (n, a, true) ∧ Good s.data.toList n a := by
  unfold specC
  cases hw : splitC 32 s.data.toList with
  | nil => exact Or.inl rfl
  | cons w0 t =>
    cases t with
    | nil => exact Or.inl rfl
    | cons w1 t =>
      cases t with
      | cons _ _ => exact Or.inl rfl
      | nil =>
        have hs : s.data.toList ≠ [] := fun e => by rw [e] at hw; simp [splitC] at hw
        simp only
        by_cases c : w1 = noneL
        · rw [if_pos c]
          rcases endC_back hs (readS 12 w0).2 (readS 12 w0).1 [] with h | ⟨n, a, h1, h2⟩
          · exact Or.inl h
          · exact Or.inr ⟨_, _, h1, h2⟩
        · rw [if_neg c]
          cases hp : parseAll (splitC 44 w1) with
          | none => exact Or.inl rfl
          | some rows =>
            simp only
            rcases endC_back hs (readS 12 w0).2 (readS 12 w0).1 rows with h | ⟨n, a, h1, h2⟩
            · exact Or.inl h
            · exact Or.inr ⟨_, _, h1, h2⟩
theorem specC_implC (s : ByteArray) : specC s = implC s := by
  rcases specC_back s with h | ⟨n, a, h1, h2⟩
  · rcases implC_back s with h' | ⟨n, a, h1, h2⟩
    · rw [h, h']
    · rw [h1]; exact specC_good h2
  · rw [h1]; exact (implC_good h2).symm

/-- n numbers from m on. -/
def marked (m : Int) : Nat → List Int
  | 0 => []
  | n + 1 => m :: marked (m + 1) n
theorem marked_len (m : Int) (n : Nat) : (marked m n).length = n := by induction n generalizing m with
  | zero => rfl
  | succ n ih => simp [marked, ih]
theorem marked_get (m : Int) (n i : Nat) (h : i < n) : (marked m n).getD i 0 = m + i := by induction n generalizing m i with
  | zero => omega
  | succ n ih =>
    cases i with
    | zero => simp [marked]
    | succ i => simp only [marked, List.getD_cons_succ]; rw [ih (m + 1) i (by omega)]; omega
theorem marked_snoc (m : Int) (n : Nat) : marked m (n + 1) = marked m n ++ [m + n] := by induction n generalizing m with
  | zero => simp [marked]
  | succ n ih => rw [marked, ih (m + 1)]; simp only [marked, List.cons_append]; congr 3; omega
theorem mark_loop (a : List Int) (m : Int) (hm0 : 0 ≤ m) (hn : m + a.length ≤ 4611686018427387904) : ∀ (d i k : Nat), i + d = a.length → d < k → laws_markIntS.l0 k (marked m i ++ a.drop i) (m + i) (i : Int) = some (m + a.length, marked m a.length)
  | 0, i, k, hi, hk => by
    obtain ⟨k, rfl⟩ : ∃ m, k = m + 1 := ⟨k - 1, by omega⟩
    have hl : (marked m i ++ a.drop i).length = a.length := by rw [List.length_append, marked_len, List.length_drop]; omega
    simp only [laws_markIntS.l0]; rw [if_neg (by omega), List.drop_eq_nil_of_le (by omega), List.append_nil]
    have : i = a.length := by omega
    rw [this]
  | d + 1, i, k, hi, hk => by
    obtain ⟨k, rfl⟩ : ∃ m, k = m + 1 := ⟨k - 1, by omega⟩
    have hl : (marked m i ++ a.drop i).length = a.length := by rw [List.length_append, marked_len, List.length_drop]; omega
    have h1 : i < a.length := by omega
    have ih := mark_loop a m hm0 hn d (i + 1) k (by omega) (by omega)
    simp only [laws_markIntS.l0]
    rw [if_pos (by omega), if_pos (by omega), w64 (by omega) (by omega), w64 (by omega) (by omega)]
    have e : (marked m i ++ a.drop i).set ((i : Int)).toNat (m + i) = marked m (i + 1) ++ a.drop (i + 1) := by
      rw [Int.toNat_natCast, List.set_append_right _ _ (by rw [marked_len]; omega), marked_len, Nat.sub_self, List.drop_eq_getElem_cons h1, List.set_cons_zero, marked_snoc]; simp
    rw [e, show m + (i : Int) + 1 = m + ((i + 1 : Nat) : Int) from by omega, show (i : Int) + 1 = ((i + 1 : Nat) : Int) from by omega]
    exact ih
theorem markIntS_eq (a : List Int) (m : Int) (hm0 : 0 ≤ m) (hn : m + a.length ≤ 4611686018427387904) {k : Nat} (hk : a.length < k) : laws_markIntS.f k a m = some (m + a.length, marked m a.length) := by
  have := mark_loop a m hm0 hn a.length 0 k (by omega) hk
  unfold laws_markIntS.f
  simpa [marked] using this

theorem markContext_eq (n : Int) (a : List Int) (hn : a.length ≤ 1048576) {k : Nat} (hk : a.length < k) : laws_markContext.f k n a 1 = some (1 + (a.length : Int), marked 1 a.length) := by
  unfold laws_markContext.f
  rw [markIntS_eq a 1 (by omega) (by omega) hk]; rfl

theorem held_loop (n : Nat) (m : Int) (hm0 : 0 ≤ m) (hn : m + n ≤ 4611686018427387904) : ∀ (d i k : Nat), i + d = n → d < k → laws_heldIntS.l0 k (marked m n) (m + i) (i : Int) = some (m + n)
  | 0, i, k, hi, hk => by
    obtain ⟨k, rfl⟩ : ∃ m, k = m + 1 := ⟨k - 1, by omega⟩
    simp only [laws_heldIntS.l0]; rw [marked_len, if_neg (by omega)]; congr 1; omega
  | d + 1, i, k, hi, hk => by
    obtain ⟨k, rfl⟩ : ∃ m, k = m + 1 := ⟨k - 1, by omega⟩
    have ih := held_loop n m hm0 hn d (i + 1) k (by omega) (by omega)
    simp only [laws_heldIntS.l0]; rw [marked_len, if_pos (by omega), if_pos (by omega), w64 (by omega) (by omega), w64 (by omega) (by omega)]
    have : rd (marked m n) (i : Int) = m + i := by unfold rd; rw [Int.toNat_natCast, marked_get m n i (by omega)]
    rw [if_pos this, show m + (i : Int) + 1 = m + ((i + 1 : Nat) : Int) from by omega, show (i : Int) + 1 = ((i + 1 : Nat) : Int) from by omega]
    exact ih
theorem heldIntS_eq (n : Nat) (m : Int) (hm0 : 0 ≤ m) (hn : m + n ≤ 4611686018427387904) {k : Nat} (hk : n < k) : laws_heldIntS.f k (marked m n) m = some (m + n) := by
  have := held_loop n m hm0 hn n 0 k (by omega) hk
  unfold laws_heldIntS.f
  simpa using this

theorem heldContext_eq (n : Int) (m : Nat) (hn : m ≤ 1048576) {k : Nat} (hk : m < k) : laws_heldContext.f k n (marked 1 m) 1 = some (1 + (m : Int)) := by
  unfold laws_heldContext.f
  rw [heldIntS_eq m 1 (by omega) (by omega) hk, Option.bind_some, if_neg (by omega)]

theorem rdB (l : List (List UInt8)) (i : Nat) (h : i < l.length) : rdOf ByteArray.empty (l.map mkB) (i : Int) = mkB l[i] := by
  unfold rdOf
  have h2 : i < (l.map mkB).length := by rw [List.length_map]; exact h
  rw [Int.toNat_natCast, List.getD_eq_getElem?_getD, List.getElem?_eq_getElem h2, List.getElem_map]; rfl
theorem mkB_size (l : List UInt8) : (mkB l).size = l.length := by rw [← size_list]; rfl
theorem mkB_toList (l : List UInt8) : (mkB l).toList = l := by rw [ByteArray.toList_eq]; rfl
theorem parseSets_loop (ps : List (List UInt8)) (hn : ps.length ≤ 2000000) (d : Nat) : ∀ (i k : Nat) (rows : List Int), i + d = ps.length → d + 300 < k → rows.length = i →
    impl_parseSets.l0 k rows (ps.map mkB) (ps.length : Int) (i : Int) = some (match parseAll (ps.drop i) with | some r => (rows ++ r, true) | none => ([], false)) := by
  induction d with
  | zero =>
    intro i k rows hi hk hr
    obtain ⟨k, rfl⟩ : ∃ m, k = m + 1 := ⟨k - 1, by omega⟩
    simp only [impl_parseSets.l0]
    rw [if_neg (by omega), List.drop_eq_nil_of_le (by omega)]
    simp only [parseAll, List.append_nil]
  | succ d ih =>
    intro i k rows hi hk hr
    obtain ⟨k, rfl⟩ : ∃ m, k = m + 1 := ⟨k - 1, by omega⟩
    have h1 : i < ps.length := by omega
    have hw : wrap64 ((i : Int) + 1) = ((i + 1 : Nat) : Int) := by rw [w64 (by omega) (by omega)]; omega
    have hlt : rows.length < 17592186044416 := by omega
    have hm : ((ps.map mkB).length : Int) = ps.length := by rw [List.length_map]
    simp only [impl_parseSets.l0]
    rw [hm, if_pos (by omega), if_pos (by omega), if_pos (by omega), rdB ps i h1, impl_ParseSet_eq (mkB ps[i]) (by omega), List.drop_eq_getElem_cons h1]; simp only [Option.bind_some, parseAll]
    have hd : (mkB ps[i]).data.toList = ps[i] := rfl
    rw [hd]
    by_cases hb : (parseR ps[i]).2 = true
    · rw [if_pos hb, if_pos hb, if_pos hlt, hw, ih (i + 1) k _ (by omega) (by omega) (by rw [List.length_append, List.length_singleton]; omega)]
      cases parseAll (ps.drop (i + 1)) with
      | none => rfl
      | some r => simp only [Option.map_some, List.append_assoc, List.singleton_append]
    · rw [if_neg hb, if_neg hb]
theorem impl_parseSets_eq (w : List UInt8) (hw : w.length ≤ 1048576) {k : Nat} (hk : 2000000 ≤ k) : impl_parseSets.f k (mkB w) = some (setsP w) := by
  unfold impl_parseSets.f setsP
  rw [mkB_toList]
  by_cases h : w = noneL
  · rw [if_pos h]; unfold noneL at h; rw [if_pos h]
  · rw [if_neg h]; unfold noneL at h; rw [if_neg h]
    have e : strings_Split.f (mkB w) (⟨#[44]⟩ : ByteArray) = some ((splitC 44 w).map mkB) := by
      unfold strings_Split.f
      rw [if_pos ⟨by rw [mkB_size]; omega, by decide⟩]
      exact congrArg some (splitL_eq (mkB w) 44)
    have hl := splitC_len 44 w
    have hm : (((splitC 44 w).map mkB).length : Int) = (splitC 44 w).length := by rw [List.length_map]
    rw [e]; simp only [Option.bind_some]
    rw [hm]
    have := parseSets_loop (splitC 44 w) (by omega) (splitC 44 w).length 0 k [] (by omega) (by omega) rfl
    rw [show ((0 : Nat) : Int) = 0 from rfl, List.drop_zero] at this
    rw [this]
    cases parseAll (splitC 44 w) with
    | none => rfl
    | some r => rfl
theorem cut_len (l : List UInt8) : (Go.Lib.cut l [32]).1.length ≤ l.length ∧ (Go.Lib.cut l [32]).2.1.length ≤ l.length := by
  induction l with
  | nil => rw [cut_nil]; exact ⟨Nat.le_refl _, Nat.le_refl _⟩
  | cons b l ih =>
    rw [cut_cons]
    by_cases e : b = 32
    · rw [if_pos e]; simp
    · rw [if_neg e]; simp only [List.length_cons]; omega
theorem impl_ParseContext_eq (s : ByteArray) (hs : s.size ≤ 1048576) {k : Nat} (hk : 2000000 ≤ k) : impl_ParseContext.f k s = some (implC s) := by
  unfold impl_ParseContext.f
  have hl := size_list s
  have hc := cut_len s.data.toList
  have e1 : strings_Cut.f s (⟨#[32]⟩ : ByteArray) = some (mkB (Go.Lib.cut s.data.toList [32]).1, mkB (Go.Lib.cut s.data.toList [32]).2.1, (Go.Lib.cut s.data.toList [32]).2.2) := by
    unfold strings_Cut.f
    rw [if_pos (by omega)]; rfl
  rw [e1]; simp only [Option.bind_some]
  rw [impl_ParseNumber_eq _ (by rw [mkB_size]; omega)]; simp only [Option.bind_some]
  rw [impl_parseSets_eq _ (by omega) hk]; simp only [Option.bind_some]
  rw [impl_IsContext_eq]; simp only [Option.bind_some]
  unfold implC
  split
  · split
    · split
      · split <;> rfl
      · rfl
    · rfl
  · rfl
theorem ctx_loop (s : ByteArray) (x4 : List ByteArray) (w1 : List UInt8) (h4 : 1 < (x4.length : Int)) (hw : rdOf ByteArray.empty x4 1 = mkB w1) (hnone : w1 ≠ noneL) (ok : Bool) (n : Int) (ps : List (List UInt8)) (hn : ps.length ≤ 1048577) (hps : ∀ p ∈ ps, p.length ≤ 1048576) (d : Nat) : ∀ (i k : Nat) (rows : List Int), i + d = ps.length → 2 * d + 4000000 < k → rows.length = i →
    spec_ParseContext.l0 k s x4 ok (ps.map mkB) (i : Int) n rows = some (match parseAll (ps.drop i) with | some r => endC s ok n (rows ++ r) | none => (0, [], false)) := by
  have hm : ((ps.map mkB).length : Int) = ps.length := by rw [List.length_map]
  have hne : (w1 != ([110, 111, 110, 101] : List UInt8)) = true := by
    unfold noneL at hnone
    simp [hnone]
  induction d with
  | zero =>
    intro i k rows hi hk hr
    obtain ⟨k, rfl⟩ : ∃ m, k = m + 1 + 1 := ⟨k - 2, by omega⟩
    simp only [spec_ParseContext.l0]
    rw [hm, if_neg (by omega), List.drop_eq_nil_of_le (by omega)]
    simp only [spec_ParseContext.j1, parseAll, List.append_nil]
    rw [if_neg (by decide)]
    unfold endC
    cases ok with
    | false => rfl
    | true =>
      rw [if_pos rfl, if_pos rfl, spec_ctxText_eq n rows (by omega) (k := k) (by omega) (by omega)]; simp only [Option.bind_some]
      rw [ByteArray.toList_eq, ByteArray.toList_eq]
      by_cases c : ctxText n rows = s
      · rw [if_pos c, c, if_pos rfl]
      · rw [if_neg c, if_neg (fun e => c (by rw [← mkB_data (ctxText n rows), e, mkB_data]))]
  | succ d ih =>
    intro i k rows hi hk hr
    obtain ⟨k, rfl⟩ : ∃ m, k = m + 1 + 1 := ⟨k - 2, by omega⟩
    have h1 : i < ps.length := by omega
    have hwr : wrap64 ((i : Int) + 1) = ((i + 1 : Nat) : Int) := by rw [w64 (by omega) (by omega)]; omega
    have hlt : rows.length < 17592186044416 := by omega
    have hsz : (mkB ps[i]).size ≤ 1048576 := by rw [mkB_size]; exact hps _ (List.getElem_mem h1)
    have hd : (mkB ps[i]).data.toList = ps[i] := rfl
    simp only [spec_ParseContext.l0]
    rw [hm, if_pos (by omega), if_pos h4, hw, mkB_toList, hne]
    simp only [spec_ParseContext.j1]
    rw [if_pos trivial, if_pos (by omega), hm, if_pos (by omega), rdB ps i h1, spec_ParseSet_eq (mkB ps[i]) (by omega) (by omega), List.drop_eq_getElem_cons h1]; simp only [Option.bind_some, parseAll]
    rw [hd]
    by_cases hb : (parseR ps[i]).2 = true
    · rw [if_pos hb, if_pos hb, if_pos hlt, hwr, ih (i + 1) k _ (by omega) (by omega) (by rw [List.length_append, List.length_singleton]; omega)]
      cases parseAll (ps.drop (i + 1)) with
      | none => rfl
      | some r => simp only [Option.map_some, List.append_assoc, List.singleton_append]
    · rw [if_neg hb, if_neg hb]
theorem ctx_none (s : ByteArray) (x4 : List ByteArray) (w1 : List UInt8) (h4 : 1 < (x4.length : Int)) (hw : rdOf ByteArray.empty x4 1 = mkB w1) (hnone : w1 = noneL) (ok : Bool) (n : Int) (ps : List ByteArray) {k : Nat} (hk : 4000000 < k) :
    spec_ParseContext.l0 k s x4 ok ps 0 n [] = some (endC s ok n []) := by
  obtain ⟨k, rfl⟩ : ∃ m, k = m + 1 + 1 := ⟨k - 2, by omega⟩
  have hne : (w1 != ([110, 111, 110, 101] : List UInt8)) = false := by rw [hnone]; decide
  have key : spec_ParseContext.j1 (k + 1) s x4 ok ps 0 false n [] = some (endC s ok n []) := by
    simp only [spec_ParseContext.j1]
    rw [if_neg (by decide)]
    unfold endC
    cases ok with
    | false => rfl
    | true =>
      rw [if_pos rfl, if_pos rfl, spec_ctxText_eq n [] (Nat.zero_le _) (k := k) (by omega) (by show 0 < k; omega)]; simp only [Option.bind_some]
      rw [ByteArray.toList_eq, ByteArray.toList_eq]
      by_cases c : ctxText n [] = s
      · rw [if_pos c, c, if_pos rfl]
      · rw [if_neg c, if_neg (fun e => c (by rw [← mkB_data (ctxText n []), e, mkB_data]))]
  simp only [spec_ParseContext.l0, if_pos h4]
  split
  · rw [hw, mkB_toList, hne]; exact key
  · exact key
theorem spec_ParseInt_eq (s : ByteArray) {k : Nat} (hk : 70 ≤ k) : spec_ParseInt.f k s = some (readS 12 s.data.toList) := by
  unfold spec_ParseInt.f
  have e : spec_l1Read.f k s 12 = _ := spec_l1Read_eq s 12 (by decide) hk
  rw [e]; rfl
theorem mem_splitC_len (c : UInt8) (l p : List UInt8) (h : p ∈ splitC c l) : p.length ≤ l.length := by
  have h1 := join_split c l
  have h2 : ∀ (ps : List (List UInt8)) (p : List UInt8), p ∈ ps → p.length ≤ (Go.Lib.join ps [c]).length := by
    intro ps
    induction ps with
    | nil => intro p hp; cases hp
    | cons q r ih =>
      intro p hp
      cases r with
      | nil => rw [Go.Lib.join_one]; rw [List.mem_singleton] at hp; rw [hp]; exact Nat.le_refl _
      | cons y r =>
        rw [join_two, List.length_append, List.length_cons]
        rcases List.mem_cons.1 hp with rfl | hp
        · omega
        · have := ih p hp; omega
  have := h2 _ p h
  rw [h1] at this; exact this
theorem spec_ParseContext_eq (s : ByteArray) (hs : s.size ≤ 1048576) {k : Nat} (hk : 7000000 ≤ k) : spec_ParseContext.f k s = some (specC s) := by
  unfold spec_ParseContext.f specC
  have hl := size_list s
  have e1 : spec_SplitByte.f k s 32 = some ((splitC 32 s.data.toList).map mkB) := spec_SplitByte_eq s 32 (by decide) (by decide) hs (by omega)
  have hmem := mem_splitC_len 32 s.data.toList
  rw [e1]; simp only [Option.bind_some]
  cases hw : splitC 32 s.data.toList with
  | nil => rfl
  | cons w0 t =>
    cases t with
    | nil => rfl
    | cons w1 t =>
      cases t with
      | cons x t =>
        rw [if_neg (by rw [List.length_map]; simp only [List.length_cons]; omega)]
      | nil =>
        rw [hw] at hmem
        have l0 := hmem w0 (by simp)
        have l1 := hmem w1 (by simp)
        have r0 : rdOf ByteArray.empty (([w0, w1] : List (List UInt8)).map mkB) 0 = mkB w0 := rfl
        have r1 : rdOf ByteArray.empty (([w0, w1] : List (List UInt8)).map mkB) 1 = mkB w1 := rfl
        have h4 : 1 < (((([w0, w1] : List (List UInt8)).map mkB).length : Nat) : Int) := by show (1 : Int) < 2; decide
        have hd0 : (mkB w0).data.toList = w0 := rfl
        have hd1 : (mkB w1).data.toList = w1 := rfl
        rw [if_pos (by rfl), if_pos (by show (0 : Int) < 2; decide), r0, spec_ParseInt_eq (mkB w0) (by omega)]; simp only [Option.bind_some]
        rw [if_pos h4, r1]
        have e2 : spec_SplitByte.f k (mkB w1) 44 = some ((splitC 44 (mkB w1).data.toList).map mkB) := spec_SplitByte_eq (mkB w1) 44 (by decide) (by decide) (by rw [mkB_size]; omega) (by rw [mkB_size]; omega)
        rw [e2, hd1, hd0]; simp only [Option.bind_some]
        by_cases c : w1 = noneL
        · rw [if_pos c]
          exact ctx_none s _ w1 h4 r1 c _ _ _ (by omega)
        · rw [if_neg c]
          have hlen := splitC_len 44 w1
          have := ctx_loop s _ w1 h4 r1 c (readS 12 w0).2 (readS 12 w0).1 (splitC 44 w1) (by omega) (fun p hp => Nat.le_trans (mem_splitC_len 44 w1 p hp) (by omega)) (splitC 44 w1).length 0 k [] (by omega) (by omega) rfl
          rw [show ((0 : Nat) : Int) = 0 from rfl, List.drop_zero] at this
          rw [this]
          cases parseAll (splitC 44 w1) with
          | none => rfl
          | some r => rfl
theorem FnExactParseContext : laws_FnExactParseContext.Pure := by
  intro s hs
  refine ⟨8000002, ?_⟩
  unfold laws_FnExactParseContext.f
  by_cases h : (s.size : Int) > 1048576
  · rw [if_pos h]
  obtain ⟨⟨n, a, b⟩, hr, hl⟩ : ∃ r : Int × List Int × Bool, implC s = r ∧ r.2.1.length ≤ 8 := by
    refine ⟨_, rfl, ?_⟩
    rcases implC_back s with e | ⟨n, a, e, g⟩
    · rw [e]; exact Nat.zero_le _
    · rw [e]; exact (ctxB_out g.1).2.2.1
  dsimp only at hl
  have S := spec_ParseContext_eq s (by omega) (k := 8000002) (by omega)
  rw [specC_implC, hr] at S
  have I (k : Nat) (hk : 2000000 ≤ k) := impl_ParseContext_eq s (by omega) hk
  simp only [hr] at I
  have E (k : Nat) (hk : 8 < k) : laws_eqContext.f k n a n a = some true := by rw [eqContext_eq n a n a (by omega) (by omega)]; simp
  have M (k : Nat) (hk : 8 < k) := markContext_eq n a (by omega) (k := k) (by omega)
  have H (k : Nat) (hk : 8 < k) := heldContext_eq n a.length (by omega) (k := k) (by omega)
  have g1 : ¬ ((1 : Int) + (a.length : Int) < 0) := by omega
  rw [if_neg h, S]; simp only [Option.bind_some]
  rw [I 8000002 (by decide)]; simp only [Option.bind_some]
  rw [E 8000002 (by decide)]; simp only [Option.bind_some, if_true, bne_self_eq_false]
  obtain ⟨k, hk, hk2⟩ : ∃ k, k = 8000000 ∧ 8000002 = k + 2 := ⟨8000000, rfl, rfl⟩
  rw [hk2]
  simp only [laws_FnExactParseContext.j0]
  rw [if_neg (by decide), M (k + 1) (by omega)]; simp only [Option.bind_some]
  rw [H (k + 1) (by omega)]; simp only [Option.bind_some]
  rw [if_neg g1, if_pos trivial, I (k + 1) (by omega)]; simp only [Option.bind_some]
  rw [E (k + 1) (by omega)]; simp only [Option.bind_some, if_true, bne_self_eq_false]
  simp only [laws_FnExactParseContext.j1]
  rw [if_neg (by decide), H k (by omega)]; simp only [Option.bind_some]
  rw [if_neg g1, if_pos trivial]

end Go.Proofs.YtapfgfkpnmjhnaaDoor.Pure
