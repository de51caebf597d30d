/- For every input the law answers true. No condition. -/
import Derived.Test.YtpijdephgmcoeaaPFnExactJoinx1
set_option linter.unusedVariables false
set_option linter.unusedSimpArgs false
namespace Go.Proofs.Ytpijdephgmcoeaa.Pure
open Go.RowKit Go.Proofs.Ytpijdephgmcoeaa.PFnExactJoin Go.Proofs.YtpijdephgmcoeaaW.PrintWords Go.Proofs.YtpijdephgmcoeaaW.PrintLast
/-- The full set of n elements. -/
def full (n : Int) : Int := (2 : Int) ^ n.toNat - 1
def isSetB (n s : Int) : Bool := decide (0 ≤ n ∧ n ≤ 8 ∧ 0 ≤ s ∧ s ≤ full n)
def hasB (s e : Int) : Bool := s.toNat.testBit e.toNat
theorem nine {n : Int} (h0 : 0 ≤ n) (h1 : n ≤ 8) : n = 0 ∨ n = 1 ∨ n = 2 ∨ n = 3 ∨ n = 4 ∨ n = 5 ∨ n = 6 ∨ n = 7 ∨ n = 8 := by omega
theorem full_bd {n : Int} (h0 : 0 ≤ n) (h1 : n ≤ 8) : 0 ≤ full n ∧ full n ≤ 255 := by
  rcases nine h0 h1 with rfl | rfl | rfl | rfl | rfl | rfl | rfl | rfl | rfl <;> decide +kernel
theorem isSetB_bd {n s : Int} (h : isSetB n s = true) : 0 ≤ n ∧ n ≤ 8 ∧ 0 ≤ s ∧ s ≤ full n ∧ s ≤ 255 := by
  unfold isSetB at h
  have h := of_decide_eq_true h
  have := full_bd h.1 h.2.1
  omega
theorem isSetB8 (s : Int) : isSetB 8 s = decide (0 ≤ s ∧ s ≤ 255) := by
  unfold isSetB
  have : full 8 = 255 := by decide +kernel
  rw [this]; simp
theorem shl_full {n : Int} (h0 : 0 ≤ n) (h1 : n ≤ 8) : wrap64 (shl .i64 1 n - 1) = full n := by
  rcases nine h0 h1 with rfl | rfl | rfl | rfl | rfl | rfl | rfl | rfl | rfl <;> decide +kernel
theorem u64_small {n : Int} (h0 : 0 ≤ n) (h1 : n < 18446744073709551616) : IntKind.u64.wrap n = n := by
  simp only [IntKind.wrap, IntKind.bits, IntKind.signed]; simp; omega
theorem u64_nonneg (n : Int) : 0 ≤ IntKind.u64.wrap n := by
  simp only [IntKind.wrap, IntKind.bits, IntKind.signed]; simp; omega
theorem w64 {n : Int} (h0 : -9223372036854775808 ≤ n) (h1 : n < 9223372036854775808) : wrap64 n = n := by unfold wrap64; omega
theorem i64_small (n : Int) (h0 : 0 ≤ n) (h1 : n < 2 ^ 63) : IntKind.i64.wrap n = n := by rw [IntKind.wrap_i64]; omega
theorem and_nat (a b : Nat) (ha : a < 2 ^ 63) (hb : b < 2 ^ 63) : Go.bits .and .i64 a b = ((a &&& b : Nat) : Int) := (bits_nat .i64 63 (by decide) (fun n h0 h1 => i64_small n h0 h1) a b ha hb).1
theorem or_nat (a b : Nat) (ha : a < 2 ^ 63) (hb : b < 2 ^ 63) : Go.bits .or .i64 a b = ((a ||| b : Nat) : Int) := (bits_nat .i64 63 (by decide) (fun n h0 h1 => i64_small n h0 h1) a b ha hb).2
/-- What is in a and not in b. -/
def dif (a b : Nat) : Nat := a ^^^ (a &&& b)
theorem dif_bit (a b i : Nat) : (dif a b).testBit i = (a.testBit i && !b.testBit i) := by
  unfold dif; rw [Nat.testBit_xor, Nat.testBit_and]; cases a.testBit i <;> cases b.testBit i <;> rfl
theorem dif_lt (a b n : Nat) (ha : a < 2 ^ n) : dif a b < 2 ^ n := Nat.xor_lt_two_pow ha (Nat.lt_of_le_of_lt Nat.and_le_left ha)
theorem andNot_nat (a b : Nat) (ha : a < 2 ^ 63) (hb : b < 2 ^ 63) : Go.bits .andNot .i64 a b = ((dif a b : Nat) : Int) := by
  simp only [Go.bits, BitVec.ofInt_natCast, IntKind.bits]
  have e : (BitVec.ofNat 64 a &&& ~~~BitVec.ofNat 64 b).toNat = dif a b := by
    apply Nat.eq_of_testBit_eq
    intro i
    rw [dif_bit, BitVec.testBit_toNat, BitVec.getLsbD_and, BitVec.getLsbD_not, BitVec.getLsbD_ofNat, BitVec.getLsbD_ofNat]
    by_cases hi : i < 64
    · simp [hi]
    · have : a.testBit i = false := Nat.testBit_lt_two_pow (Nat.lt_of_lt_of_le ha (Nat.pow_le_pow_right (by decide) (by omega)))
      simp [hi, this]
  have hl := dif_lt a b 63 ha
  have e2 : IntKind.i64.wrap ((dif a b : Nat) : Int) = ((dif a b : Nat) : Int) := i64_small _ (by omega) (by exact_mod_cast hl)
  exact (congrArg (fun n : Nat => IntKind.i64.wrap (n : Int)) e).trans e2
theorem and_eq_iff_dif (a b : Nat) : (a &&& b = a) ↔ dif a b = 0 := by
  constructor
  · intro h; unfold dif; rw [h, Nat.xor_self]
  · intro h
    apply Nat.eq_of_testBit_eq; intro i
    have h2 := dif_bit a b i
    rw [h, Nat.zero_testBit] at h2
    rw [Nat.testBit_and]
    cases ha : a.testBit i <;> cases hb : b.testBit i <;> simp [ha, hb] at h2 ⊢
theorem bit_nat (s e : Nat) (hs : s < 2 ^ 63) (he : e ≤ 63) : (Go.bits .and .i64 (shr .i64 (s : Int) (e : Int)) 1 == 1) = s.testBit e := by
  have h1 : shr .i64 (s : Int) (e : Int) = ((s / 2 ^ e : Nat) : Int) := by
    unfold shr
    rw [Int.toNat_natCast, Nat.min_eq_left (by simp [IntKind.bits]; omega)]
    simp
  have h2 : s / 2 ^ e < 2 ^ 63 := Nat.lt_of_le_of_lt (Nat.div_le_self _ _) hs
  rw [h1, show (1 : Int) = ((1 : Nat) : Int) from rfl, and_nat _ _ h2 (by decide), Nat.and_one_is_mod, Nat.testBit_eq_decide_div_mod_eq]
  have : ((((s / 2 ^ e % 2 : Nat) : Int)) == ((1 : Nat) : Int)) = decide (s / 2 ^ e % 2 = 1) := by
    generalize s / 2 ^ e % 2 = q
    rw [Bool.eq_iff_iff, beq_iff_eq, decide_eq_true_iff]; omega
  exact this
theorem bit_int {s e : Int} (hs0 : 0 ≤ s) (hs : s < 9223372036854775808) (he0 : 0 ≤ e) (he : e ≤ 63) : (Go.bits .and .i64 (shr .i64 s e) 1 == 1) = hasB s e := by
  obtain ⟨a, rfl⟩ := Int.eq_ofNat_of_zero_le hs0
  obtain ⟨b, rfl⟩ := Int.eq_ofNat_of_zero_le he0
  exact bit_nat a b (by omega) (by omega)

theorem wstep {i : Int} {n : Nat} (h0 : 0 ≤ i) (h : i < (n : Int)) (hn : n ≤ 281474976710656) : wrap64 (i + 1) = i + 1 := by unfold wrap64; omega
theorem rd_nat (l : List Int) (i : Nat) (h : i < l.length) : rd l (i : Int) = l[i] := by unfold rd; rw [Int.toNat_natCast, List.getD_eq_getElem?_getD, List.getElem?_eq_getElem h]; rfl

theorem rdS (l : List ByteArray) (i : Nat) (h : i < l.length) : rdOf ByteArray.empty l (i : Int) = l[i] := by unfold rdOf; rw [Int.toNat_natCast, List.getD_eq_getElem?_getD, List.getElem?_eq_getElem h]; rfl
def sumSz (l : List ByteArray) : Nat := (l.map (·.size)).sum
theorem sumSz_take (l : List ByteArray) (i : Nat) (h : i < l.length) : sumSz (l.take (i + 1)) = sumSz (l.take i) + l[i].size := by
  unfold sumSz; rw [List.take_succ_eq_append_getElem h, List.map_append, List.sum_append_nat, List.map_singleton, List.sum_singleton]
theorem sumSz_drop (l : List ByteArray) (i : Nat) (h : i < l.length) : sumSz (l.drop i) = l[i].size + sumSz (l.drop (i + 1)) := by
  unfold sumSz; rw [List.drop_eq_getElem_cons h, List.map_cons, List.sum_cons]
theorem sumSz_le (l : List ByteArray) (i : Nat) : sumSz (l.take i) + sumSz (l.drop i) = sumSz l := by
  unfold sumSz
  rw [← List.sum_append_nat, ← List.map_append, List.take_append_drop]
theorem toStringS_loop (a : List ByteArray) (hn : a.length ≤ 1048576) (d : Nat) : ∀ (i k : Nat), i + d = a.length → d < k → laws_toStringS.l0 k a (a.take i ++ List.replicate d (⟨#[]⟩ : ByteArray)) (i : Int) = some a := by
  induction d with
  | zero =>
    intro i k hi hk
    obtain ⟨k, rfl⟩ : ∃ m, k = m + 1 := ⟨k - 1, by omega⟩
    simp only [laws_toStringS.l0]; rw [if_neg (by omega), List.take_of_length_le (by omega)]; simp
  | succ d ih =>
    intro i k hi hk
    obtain ⟨k, rfl⟩ : ∃ m, k = m + 1 := ⟨k - 1, by omega⟩
    have h1 : i < a.length := by omega
    have hl : (a.take i ++ List.replicate (d + 1) (⟨#[]⟩ : ByteArray)).length = a.length := by rw [List.length_append, List.length_take, List.length_replicate]; omega
    have hw : wrap64 ((i : Int) + 1) = ((i + 1 : Nat) : Int) := by rw [wstep (n := a.length) (by omega) (by omega) (by omega)]; omega
    have e : (a.take i ++ List.replicate (d + 1) (⟨#[]⟩ : ByteArray)).set ((i : Int)).toNat (rdOf ByteArray.empty a (i : Int)) = a.take (i + 1) ++ List.replicate d (⟨#[]⟩ : ByteArray) := by
      rw [Int.toNat_natCast, rdS a i h1, List.set_append_right _ _ (by rw [List.length_take]; omega), List.length_take, Nat.min_eq_left (by omega), Nat.sub_self, List.replicate_succ, List.set_cons_zero, List.take_succ_eq_append_getElem h1, List.append_assoc]
      rfl
    simp only [laws_toStringS.l0]
    rw [if_pos (by omega), if_pos (by omega), if_pos (by rw [hl]; omega), e, hw]
    exact ih (i + 1) k (by omega) (by omega)
theorem toStringS_eq (a : List ByteArray) (hn : a.length ≤ 1048576) {k : Nat} (hk : a.length < k) : laws_toStringS.f k a = some a := by
  unfold laws_toStringS.f
  rw [if_pos (by omega), if_pos (by omega), Int.toNat_natCast]
  have := toStringS_loop a hn a.length 0 k (by omega) hk
  simpa using this
theorem eqStringS_loop (a : List ByteArray) (hn : a.length ≤ 1048576) (d : Nat) : ∀ (i k : Nat), i + d = a.length → d < k → laws_eqStringS.l0 k a a (i : Int) = some true := by
  induction d with
  | zero =>
    intro i k hi hk
    obtain ⟨k, rfl⟩ : ∃ m, k = m + 1 := ⟨k - 1, by omega⟩
    simp only [laws_eqStringS.l0]; rw [if_neg (by omega)]
  | succ d ih =>
    intro i k hi hk
    obtain ⟨k, rfl⟩ : ∃ m, k = m + 1 := ⟨k - 1, by omega⟩
    have hw : wrap64 ((i : Int) + 1) = ((i + 1 : Nat) : Int) := by rw [wstep (n := a.length) (by omega) (by omega) (by omega)]; omega
    simp only [laws_eqStringS.l0]
    rw [if_pos (by omega), if_pos (by omega), if_pos (by omega), if_pos trivial, hw]
    exact ih (i + 1) k (by omega) (by omega)
theorem eqStringS_self (a : List ByteArray) (hn : a.length ≤ 1048576) {k : Nat} (hk : a.length < k) : laws_eqStringS.f k a a = some true := by
  unfold laws_eqStringS.f
  rw [if_pos rfl]
  exact eqStringS_loop a hn a.length 0 k (by omega) hk
theorem szStringS_loop (a : List ByteArray) (hn : a.length ≤ 1048576) (hs : ∀ x ∈ a, x.size ≤ maxLen) (d : Nat) : ∀ (i k : Nat) (left : Nat), i + d = a.length → d < k → left ≤ 1048576 →
    laws_szStringS.l0 k a (left : Int) (i : Int) = some (if sumSz (a.drop i) ≤ left then (left : Int) - (sumSz (a.drop i) : Nat) else -1) := by
  unfold maxLen at hs
  induction d with
  | zero =>
    intro i k left hi hk hl
    obtain ⟨k, rfl⟩ : ∃ m, k = m + 1 := ⟨k - 1, by omega⟩
    have e : sumSz (a.drop i) = 0 := by rw [List.drop_of_length_le (by omega)]; rfl
    simp only [laws_szStringS.l0]; rw [if_neg (by omega), e, if_pos (by omega)]
    first | rfl | (congr 1; omega) | simp
  | succ d ih =>
    intro i k left hi hk hl
    obtain ⟨k, rfl⟩ : ∃ m, k = m + 1 := ⟨k - 1, by omega⟩
    have h1 : i < a.length := by omega
    have hw : wrap64 ((i : Int) + 1) = ((i + 1 : Nat) : Int) := by rw [wstep (n := a.length) (by omega) (by omega) (by omega)]; omega
    have hx := hs _ (List.getElem_mem h1)
    have hd := sumSz_drop a i h1
    simp only [laws_szStringS.l0]
    rw [if_pos (by omega), if_pos (by omega), rdS a i h1, w64 (n := (left : Int) - (a[i].size : Int)) (by omega) (by omega), hw]
    by_cases hneg : (left : Int) - (a[i].size : Int) < 0
    · rw [if_pos hneg, if_neg (by omega)]
    · rw [if_neg hneg]
      have e := ih (i + 1) k (left - a[i].size) (by omega) (by omega) (by omega)
      have ec : ((left - a[i].size : Nat) : Int) = (left : Int) - (a[i].size : Int) := by omega
      rw [ec] at e
      rw [e, hd]
      by_cases h2 : sumSz (a.drop (i + 1)) ≤ left - a[i].size
      · rw [if_pos h2, if_pos (by omega)]; congr 1; omega
      · rw [if_neg h2, if_neg (by omega)]
theorem szStringS_eq (a : List ByteArray) (hm : a.length ≤ maxLen) (hs : ∀ x ∈ a, x.size ≤ maxLen) {k : Nat} (hk : 1048577 < k) : ∃ v : Int, laws_szStringS.f k a 1048576 = some v ∧ (v < 0 ∨ (0 ≤ v ∧ a.length + sumSz a ≤ 1048576)) := by
  have hm' := hm
  unfold maxLen at hm'
  unfold laws_szStringS.f
  rw [w64 (n := (1048576 : Int) - (a.length : Int)) (by omega) (by omega)]
  by_cases h : (1048576 : Int) - (a.length : Int) < 0
  · rw [if_pos h]; exact ⟨-1, rfl, Or.inl (by decide)⟩
  · rw [if_neg h]
    have e := szStringS_loop a (by omega) hs a.length 0 k (1048576 - a.length) (by omega) (by omega) (by omega)
    have ec : ((1048576 - a.length : Nat) : Int) = (1048576 : Int) - (a.length : Int) := by omega
    have ez : ((0 : Nat) : Int) = 0 := rfl
    rw [ec, ez, List.drop_zero] at e
    refine ⟨_, e, ?_⟩
    by_cases h2 : sumSz a ≤ 1048576 - a.length
    · rw [if_pos h2]; right; omega
    · rw [if_neg h2]; left; decide

/-- Bytes, as numbers. -/
def nums (b : List UInt8) : List Int := b.map fun x => (x.toNat : Int)
theorem bytesOf_nums (s : ByteArray) : bytesOf s = nums s.data.toList := rfl
theorem nums_len (b : List UInt8) : (nums b).length = b.length := List.length_map _
theorem nums_app (a b : List UInt8) : nums a ++ nums b = nums (a ++ b) := (List.map_append).symm
theorem strOfNums_nums (b : List UInt8) : strOfNums (nums b) = ⟨b.toArray⟩ := by
  unfold strOfNums nums
  rw [List.map_map]
  have e : ((fun n : Int => UInt8.ofNat n.toNat) ∘ fun x : UInt8 => (x.toNat : Int)) = id := by
    funext x
    show UInt8.ofNat ((x.toNat : Int)).toNat = x
    rw [Int.toNat_natCast, UInt8.ofNat_toNat]
  rw [e, List.map_id]
theorem dlen (s : ByteArray) : s.data.toList.length = s.size := by rw [Array.length_toList]; rfl
theorem join_snoc (l : List ByteArray) (s x : ByteArray) : joinB (l ++ [x]) s = if l = [] then x.data.toList else joinB l s ++ s.data.toList ++ x.data.toList := by
  cases l with
  | nil => rw [if_pos rfl]; exact Go.Lib.join_one _ _
  | cons y r =>
    rw [if_neg (by simp)]
    unfold joinB
    rw [List.cons_append, List.map_cons, List.map_cons, Go.Lib.join_cons, Go.Lib.join_cons, List.map_append]
    unfold Go.Lib.joinTail
    rw [List.map_append, List.flatten_append]
    simp
theorem join_take (l : List ByteArray) (s : ByteArray) (i : Nat) (h : i < l.length) : joinB (l.take (i + 1)) s = if i = 0 then l[i].data.toList else joinB (l.take i) s ++ s.data.toList ++ l[i].data.toList := by
  rw [List.take_succ_eq_append_getElem h, join_snoc]
  by_cases h0 : i = 0
  · subst h0; rfl
  · rw [if_neg h0, if_neg (fun e => h0 (by have := congrArg List.length e; rw [List.length_take, List.length_nil] at this; omega))]
theorem join_len (l : List ByteArray) (s : ByteArray) : ∀ i, i ≤ l.length → (joinB (l.take i) s).length = (i - 1) * s.size + sumSz (l.take i)
  | 0, _ => by
    rw [List.take_zero]
    show 0 = (0 - 1) * s.size + 0
    rw [Nat.zero_sub, Nat.zero_mul]
  | i + 1, h => by
    have ih := join_len l s i (by omega)
    rw [join_take l s i (by omega), sumSz_take l i (by omega)]
    by_cases h0 : i = 0
    · rw [if_pos h0, dlen]; subst h0; show _ = 0 * s.size + (0 + _); omega
    · rw [if_neg h0, List.length_append, List.length_append, ih, dlen, dlen]
      obtain ⟨j, rfl⟩ : ∃ j, i = j + 1 := ⟨i - 1, by omega⟩
      have e1 : j + 1 - 1 = j := rfl
      have e2 : j + 1 + 1 - 1 = j + 1 := rfl
      rw [e1, e2, Nat.add_mul, Nat.one_mul]
      omega
theorem join_mono (l : List ByteArray) (s : ByteArray) {i : Nat} (h : i ≤ l.length) : (joinB (l.take i) s).length ≤ (joinB l s).length := by
  have e := join_len l s l.length (Nat.le_refl _)
  rw [List.take_length] at e
  rw [join_len l s i h, e]
  have h1 := sumSz_le l i
  have h2 : (i - 1) * s.size ≤ (l.length - 1) * s.size := Nat.mul_le_mul_right _ (by omega)
  omega
/-- What Join answers. -/
def joinR (l : List ByteArray) (s : ByteArray) : ByteArray := if (joinB l s).length ≤ 1048576 then ⟨(joinB l s).toArray⟩ else ⟨#[]⟩

theorem spec_Join_loop (l : List ByteArray) (s : ByteArray) (hl : l.length ≤ 1048576) (hs : s.size ≤ 1048576) (hx : ∀ x ∈ l, x.size ≤ 1048576) (d : Nat) : ∀ (i k : Nat), i + d = l.length → d < k → (joinB (l.take i) s).length ≤ 1048576 →
    spec_Join.l0 k l s (nums (joinB (l.take i) s)) (i : Int) = some (joinR l s) := by
  induction d with
  | zero =>
    intro i k hi hk hp
    obtain ⟨k, rfl⟩ : ∃ m, k = m + 1 := ⟨k - 1, by omega⟩
    rw [List.take_of_length_le (by omega)] at hp ⊢
    simp only [spec_Join.l0]
    rw [if_neg (by omega), strOfNums_nums]
    unfold joinR
    rw [if_pos hp]
  | succ d ih =>
    intro i k hi hk hp
    obtain ⟨k, rfl⟩ : ∃ m, k = m + 1 := ⟨k - 1, by omega⟩
    have h1 : i < l.length := by omega
    have hw : wrap64 ((i : Int) + 1) = ((i + 1 : Nat) : Int) := by rw [wstep (n := l.length) (by omega) (by omega) (by omega)]; omega
    have hxi := hx _ (List.getElem_mem h1)
    have ht := join_take l s i h1
    have hmono := join_mono l s (i := i + 1) (by omega)
    have ih' := ih (i + 1) k (by omega) (by omega)
    have hbig : ¬ (joinB (l.take (i + 1)) s).length ≤ 1048576 → joinR l s = (⟨#[]⟩ : ByteArray) := fun h => by unfold joinR; rw [if_neg (by omega)]
    simp only [spec_Join.l0]
    rw [if_pos (by omega), rdS l i h1, hw]
    by_cases h0 : i = 0
    · rw [if_pos h0] at ht
      have hnil : nums (joinB (l.take i) s) = [] := by rw [h0]; rfl
      rw [if_neg (by omega), if_pos (by omega), hnil, if_pos (by simp only [List.length_nil]; omega), Option.bind_some, List.nil_append, bytesOf_nums, ← ht]
      by_cases hb : (joinB (l.take (i + 1)) s).length ≤ 1048576
      · rw [if_neg (by rw [nums_len]; omega)]; exact ih' hb
      · rw [if_pos (by rw [nums_len]; omega), hbig hb]
    · rw [if_neg h0] at ht
      have hlt : (nums (joinB (l.take i) s)).length + s.size < 140737488355328 := by rw [nums_len]; omega
      have hlt2 : (nums (joinB (l.take i) s ++ s.data.toList)).length + l[i].size < 140737488355328 := by rw [nums_len, List.length_append, dlen]; omega
      rw [if_pos (by omega), if_pos hlt, Option.bind_some, if_pos (by omega), bytesOf_nums, nums_app, if_pos hlt2, Option.bind_some, bytesOf_nums, nums_app, ← ht]
      by_cases hb : (joinB (l.take (i + 1)) s).length ≤ 1048576
      · rw [if_neg (by rw [nums_len]; omega)]; exact ih' hb
      · rw [if_pos (by rw [nums_len]; omega), hbig hb]
theorem spec_Join_eq (l : List ByteArray) (s : ByteArray) (hl : l.length ≤ 1048576) (hs : s.size ≤ 1048576) (hx : ∀ x ∈ l, x.size ≤ 1048576) {k : Nat} (hk : l.length < k) : spec_Join.f k l s = some (joinR l s) := by
  unfold spec_Join.f
  exact spec_Join_loop l s hl hs hx l.length 0 k (by omega) (by omega) (by show 0 ≤ _; omega)

theorem impl_Join_loop (l : List ByteArray) (s : ByteArray) (hl : l.length ≤ 1048576) (hs : s.size ≤ 1048576) (hsz : sumSz l ≤ 1099511627776) (d : Nat) : ∀ (i k : Nat), i + d = l.length → d < k →
    impl_Join.l0 k l s (((l.length - 1) * s.size + sumSz (l.take i) : Nat) : Int) l (l.length : Int) (i : Int) = some (joinR l s) := by
  have hm : (l.length - 1) * s.size ≤ 1048576 * 1048576 := Nat.mul_le_mul (by omega) hs
  have he := join_len l s l.length (Nat.le_refl _)
  rw [List.take_length] at he
  induction d with
  | zero =>
    intro i k hi hk
    obtain ⟨k, rfl⟩ : ∃ m, k = m + 1 := ⟨k - 1, by omega⟩
    rw [List.take_of_length_le (by omega), ← he]
    simp only [impl_Join.l0]
    rw [if_neg (by omega)]
    unfold joinR
    by_cases hb : (joinB l s).length ≤ 1048576
    · rw [if_neg (by omega), if_pos hb]
      unfold strings_Join.f
      rw [if_pos ⟨by omega, by omega⟩]; rfl
    · rw [if_pos (by omega), if_neg hb]
  | succ d ih =>
    intro i k hi hk
    obtain ⟨k, rfl⟩ : ∃ m, k = m + 1 := ⟨k - 1, by omega⟩
    have h1 : i < l.length := by omega
    have hw : wrap64 ((i : Int) + 1) = ((i + 1 : Nat) : Int) := by rw [wstep (n := l.length) (by omega) (by omega) (by omega)]; omega
    have hst := sumSz_take l i h1
    have hle := sumSz_le l (i + 1)
    have hs2 : wrap64 ((((l.length - 1) * s.size + sumSz (l.take i) : Nat) : Int) + (l[i].size : Int)) = (((l.length - 1) * s.size + sumSz (l.take (i + 1)) : Nat) : Int) := by
      generalize (l.length - 1) * s.size = M at hm ⊢
      rw [w64 (by omega) (by omega)]; omega
    simp only [impl_Join.l0]
    rw [if_pos (by omega), if_pos (by omega), if_pos (by omega), rdS l i h1, hw, hs2]
    exact ih (i + 1) k (by omega) (by omega)
theorem impl_Join_eq (l : List ByteArray) (s : ByteArray) (hl : l.length ≤ 1048576) (hs : s.size ≤ 1048576) (hsz : sumSz l ≤ 1099511627776) {k : Nat} (hk : l.length < k) : impl_Join.f k l s = some (joinR l s) := by
  have hm : (l.length - 1) * s.size ≤ 1048576 * 1048576 := Nat.mul_le_mul (by omega) hs
  have e : wrap64 ((mx (wrap64 ((l.length : Int) - 1)) 0) * (s.size : Int)) = (((l.length - 1) * s.size + sumSz (l.take 0) : Nat) : Int) := by
    have e1 : mx (wrap64 ((l.length : Int) - 1)) 0 = ((l.length - 1 : Nat) : Int) := by
      rw [w64 (by omega) (by omega)]
      unfold mx
      by_cases h : (l.length : Int) - 1 < 0
      · rw [if_pos h]; omega
      · rw [if_neg h]; omega
    have e2 : sumSz (l.take 0) = 0 := rfl
    rw [e1, e2, ← Int.natCast_mul, w64 (by omega) (by omega)]; rfl
  unfold impl_Join.f
  rw [e]
  exact impl_Join_loop l s hl hs hsz l.length 0 k (by omega) hk

theorem mem_sumSz {l : List ByteArray} {x : ByteArray} (h : x ∈ l) : x.size ≤ sumSz l := by
  unfold sumSz
  induction l with
  | nil => cases h
  | cons y l ih =>
    rw [List.map_cons, List.sum_cons]
    rw [List.mem_cons] at h
    rcases h with rfl | h
    · omega
    · have := ih h; omega
theorem FnExactJoin : laws_FnExactJoin.Pure := by
  intro l s hm hx hs
  refine ⟨1048600, ?_⟩
  unfold laws_FnExactJoin.f
  by_cases hbig : (s.size : Int) > 1048576
  · rw [if_pos hbig]
  rw [if_neg hbig]
  obtain ⟨v, e, hv⟩ := szStringS_eq l hm hx (k := 1048600) (by decide)
  rw [e, Option.bind_some]
  rcases hv with hv | ⟨hv, hsum⟩
  · rw [if_pos hv]
  · rw [if_neg (by omega)]
    have T := toStringS_eq l (by omega) (k := 1048600) (by omega)
    have E := eqStringS_self l (by omega) (k := 1048600) (by omega)
    have S := spec_Join_eq l s (by omega) (by omega) (fun x h => by have := mem_sumSz h; omega) (k := 1048600) (by omega)
    have I := impl_Join_eq l s (by omega) (by omega) (by omega) (k := 1048600) (by omega)
    simp [T, E, S, I]

end Go.Proofs.Ytpijdephgmcoeaa.Pure
