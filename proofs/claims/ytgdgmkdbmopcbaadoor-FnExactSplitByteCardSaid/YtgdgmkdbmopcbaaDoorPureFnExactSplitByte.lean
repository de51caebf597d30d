/- For every input the law answers true. No condition. -/
import Derived.Test.YtgdgmkdbmopcbaaDoorPFnExactSplitBytex2
set_option linter.unusedVariables false
set_option linter.unusedSimpArgs false
namespace Go.Proofs.YtgdgmkdbmopcbaaDoor.Pure
open Go.RowKit Go.Proofs.YtgdgmkdbmopcbaaDoor.PFnExactSplitByte Go.Proofs.YtgdgmkdbmopcbaaDoorW.PrintWords Go.Proofs.YtgdgmkdbmopcbaaDoorW.PrintLast
/-- The full set of n elements. -/
def full (n : Int) : Int := (2 : Int) ^ n.toNat - 1
def isSetB (n s : Int) : Bool := decide (0 ≤ n ∧ n ≤ 8 ∧ 0 ≤ s ∧ s ≤ full n)
def hasB (s e : Int) : Bool := s.toNat.testBit e.toNat
theorem nine {n : Int} (h0 : 0 ≤ n) (h1 : n ≤ 8) : n = 0 ∨ n = 1 ∨ n = 2 ∨ n = 3 ∨ n = 4 ∨ n = 5 ∨ n = 6 ∨ n = 7 ∨ n = 8 := by omega
theorem full_bd {n : Int} (h0 : 0 ≤ n) (h1 : n ≤ 8) : 0 ≤ full n ∧ full n ≤ 255 := by
  rcases nine h0 h1 with rfl | rfl | rfl | rfl | rfl | rfl | rfl | rfl | rfl <;> decide +kernel
theorem isSetB_bd {n s : Int} (h : isSetB n s = true) : 0 ≤ n ∧ n ≤ 8 ∧ 0 ≤ s ∧ s ≤ full n ∧ s ≤ 255 := by
  unfold isSetB at h
  have h := of_decide_eq_true h
  have := full_bd h.1 h.2.1
  omega
theorem isSetB8 (s : Int) : isSetB 8 s = decide (0 ≤ s ∧ s ≤ 255) := by
  unfold isSetB
  have : full 8 = 255 := by decide +kernel
  rw [this]; simp
theorem shl_full {n : Int} (h0 : 0 ≤ n) (h1 : n ≤ 8) : wrap64 (shl .i64 1 n - 1) = full n := by
  rcases nine h0 h1 with rfl | rfl | rfl | rfl | rfl | rfl | rfl | rfl | rfl <;> decide +kernel
theorem u64_small {n : Int} (h0 : 0 ≤ n) (h1 : n < 18446744073709551616) : IntKind.u64.wrap n = n := by
  simp only [IntKind.wrap, IntKind.bits, IntKind.signed]; simp; omega
theorem u64_nonneg (n : Int) : 0 ≤ IntKind.u64.wrap n := by
  simp only [IntKind.wrap, IntKind.bits, IntKind.signed]; simp; omega
theorem w64 {n : Int} (h0 : -9223372036854775808 ≤ n) (h1 : n < 9223372036854775808) : wrap64 n = n := by unfold wrap64; omega
theorem i64_small (n : Int) (h0 : 0 ≤ n) (h1 : n < 2 ^ 63) : IntKind.i64.wrap n = n := by rw [IntKind.wrap_i64]; omega
theorem and_nat (a b : Nat) (ha : a < 2 ^ 63) (hb : b < 2 ^ 63) : Go.bits .and .i64 a b = ((a &&& b : Nat) : Int) := (bits_nat .i64 63 (by decide) (fun n h0 h1 => i64_small n h0 h1) a b ha hb).1
theorem or_nat (a b : Nat) (ha : a < 2 ^ 63) (hb : b < 2 ^ 63) : Go.bits .or .i64 a b = ((a ||| b : Nat) : Int) := (bits_nat .i64 63 (by decide) (fun n h0 h1 => i64_small n h0 h1) a b ha hb).2
/-- What is in a and not in b. -/
def dif (a b : Nat) : Nat := a ^^^ (a &&& b)
theorem dif_bit (a b i : Nat) : (dif a b).testBit i = (a.testBit i && !b.testBit i) := by
  unfold dif; rw [Nat.testBit_xor, Nat.testBit_and]; cases a.testBit i <;> cases b.testBit i <;> rfl
theorem dif_lt (a b n : Nat) (ha : a < 2 ^ n) : dif a b < 2 ^ n := Nat.xor_lt_two_pow ha (Nat.lt_of_le_of_lt Nat.and_le_left ha)
theorem andNot_nat (a b : Nat) (ha : a < 2 ^ 63) (hb : b < 2 ^ 63) : Go.bits .andNot .i64 a b = ((dif a b : Nat) : Int) := by
  simp only [Go.bits, BitVec.ofInt_natCast, IntKind.bits]
  have e : (BitVec.ofNat 64 a &&& ~~~BitVec.ofNat 64 b).toNat = dif a b := by
    apply Nat.eq_of_testBit_eq
    intro i
    rw [dif_bit, BitVec.testBit_toNat, BitVec.getLsbD_and, BitVec.getLsbD_not, BitVec.getLsbD_ofNat, BitVec.getLsbD_ofNat]
    by_cases hi : i < 64
    · simp [hi]
    · have : a.testBit i = false := Nat.testBit_lt_two_pow (Nat.lt_of_lt_of_le ha (Nat.pow_le_pow_right (by decide) (by omega)))
      simp [hi, this]
  have hl := dif_lt a b 63 ha
  have e2 : IntKind.i64.wrap ((dif a b : Nat) : Int) = ((dif a b : Nat) : Int) := i64_small _ (by omega) (by exact_mod_cast hl)
  exact (congrArg (fun n : Nat => IntKind.i64.wrap (n : Int)) e).trans e2
theorem and_eq_iff_dif (a b : Nat) : (a &&& b = a) ↔ dif a b = 0 := by
  constructor
  · intro h; unfold dif; rw [h, Nat.xor_self]
  · intro h
    apply Nat.eq_of_testBit_eq; intro i
    have h2 := dif_bit a b i
    rw [h, Nat.zero_testBit] at h2
    rw [Nat.testBit_and]
    cases ha : a.testBit i <;> cases hb : b.testBit i <;> simp [ha, hb] at h2 ⊢
theorem bit_nat (s e : Nat) (hs : s < 2 ^ 63) (he : e ≤ 63) : (Go.bits .and .i64 (shr .i64 (s : Int) (e : Int)) 1 == 1) = s.testBit e := by
  have h1 : shr .i64 (s : Int) (e : Int) = ((s / 2 ^ e : Nat) : Int) := by
    unfold shr
    rw [Int.toNat_natCast, Nat.min_eq_left (by simp [IntKind.bits]; omega)]
    simp
  have h2 : s / 2 ^ e < 2 ^ 63 := Nat.lt_of_le_of_lt (Nat.div_le_self _ _) hs
  rw [h1, show (1 : Int) = ((1 : Nat) : Int) from rfl, and_nat _ _ h2 (by decide), Nat.and_one_is_mod, Nat.testBit_eq_decide_div_mod_eq]
  have : ((((s / 2 ^ e % 2 : Nat) : Int)) == ((1 : Nat) : Int)) = decide (s / 2 ^ e % 2 = 1) := by
    generalize s / 2 ^ e % 2 = q
    rw [Bool.eq_iff_iff, beq_iff_eq, decide_eq_true_iff]; omega
  exact this
theorem bit_int {s e : Int} (hs0 : 0 ≤ s) (hs : s < 9223372036854775808) (he0 : 0 ≤ e) (he : e ≤ 63) : (Go.bits .and .i64 (shr .i64 s e) 1 == 1) = hasB s e := by
  obtain ⟨a, rfl⟩ := Int.eq_ofNat_of_zero_le hs0
  obtain ⟨b, rfl⟩ := Int.eq_ofNat_of_zero_le he0
  exact bit_nat a b (by omega) (by omega)

theorem bt_list (s : ByteArray) (i : Nat) (h : i < s.size) : bt s (i : Int) = ((s.data.toList[i]'(by rw [Array.length_toList]; exact h)).toNat : Int) := by
  unfold bt
  rw [dif_pos (by rw [Int.toNat_natCast]; exact h)]
  simp only [Int.toNat_natCast]
  rfl
theorem size_list (s : ByteArray) : s.data.toList.length = s.size := by rw [Array.length_toList]; rfl

theorem wstep {i : Int} {n : Nat} (h0 : 0 ≤ i) (h : i < (n : Int)) (hn : n ≤ 281474976710656) : wrap64 (i + 1) = i + 1 := by unfold wrap64; omega
theorem rd_nat (l : List Int) (i : Nat) (h : i < l.length) : rd l (i : Int) = l[i] := by unfold rd; rw [Int.toNat_natCast, List.getD_eq_getElem?_getD, List.getElem?_eq_getElem h]; rfl

/-- The pieces of l between the bytes c. -/
def splitC (c : UInt8) : List UInt8 → List (List UInt8)
  | [] => [[]]
  | b :: l => if b = c then [] :: splitC c l else match splitC c l with
    | [] => [[b]]
    | h :: t => (b :: h) :: t
def splitAcc (c : UInt8) : List UInt8 → List UInt8 → List (List UInt8)
  | p, [] => [p]
  | p, b :: l => if b = c then p :: splitAcc c [] l else splitAcc c (p ++ [b]) l
theorem splitC_ne (c : UInt8) : ∀ l, splitC c l ≠ []
  | [] => by simp [splitC]
  | b :: l => by
    simp only [splitC]
    split
    · simp
    · split <;> simp
theorem splitAcc_eq (c : UInt8) : ∀ (l p : List UInt8), splitAcc c p l = match splitC c l with
    | [] => [p]
    | h :: t => (p ++ h) :: t
  | [], p => by simp [splitAcc, splitC]
  | b :: l, p => by
    simp only [splitAcc, splitC]
    by_cases e : b = c
    · rw [if_pos e, if_pos e, splitAcc_eq c l []]
      cases h : splitC c l with
      | nil => exact absurd h (splitC_ne c l)
      | cons x t => simp
    · rw [if_neg e, if_neg e, splitAcc_eq c l]
      cases h : splitC c l with
      | nil => exact absurd h (splitC_ne c l)
      | cons x t => simp
theorem splitAcc_nil (c : UInt8) (l : List UInt8) : splitAcc c [] l = splitC c l := by
  rw [splitAcc_eq]
  cases h : splitC c l with
  | nil => exact absurd h (splitC_ne c l)
  | cons x t => rfl
open Go.Lib in
theorem splitK_one (c : UInt8) : ∀ l : List UInt8, splitK [c] 0 (count l [c]) l = splitC c l
  | [] => by
    rw [count_miss (by simp [index])]; rfl
  | b :: l => by
    have ih := splitK_one c l
    simp only [splitC]
    by_cases e : b = c
    · subst e
      have hix : index (b :: l) [b] = 0 := by rw [index]; simp [List.isPrefixOf]
      rw [if_pos rfl, count_cons_eq, Nat.add_comm 1]
      simp only [splitK, hix]
      rw [if_neg (by decide)]
      simp only [Int.toNat_zero, List.length_singleton, Nat.zero_add, List.drop_succ_cons, List.drop_zero, List.take_zero]
      rw [ih]
    · rw [if_neg e, count_cons_ne b c l e, ← ih]
      have hp : ([c] : List UInt8).isPrefixOf (b :: l) = false := by simp [List.isPrefixOf, Ne.symm e]
      have hix : index (b :: l) [c] = if index l [c] == -1 then -1 else index l [c] + 1 := by rw [index, hp]; simp
      cases hc : count l [c] with
      | zero => rfl
      | succ k =>
        by_cases hm : index l [c] = -1
        · rw [count_miss hm] at hc; cases hc
        · have hge := index_ge l [c]
          obtain ⟨j, hj⟩ : ∃ j : Nat, index l [c] = j := ⟨(index l [c]).toNat, by omega⟩
          have hb : (index l [c] == -1) = false := by rw [beq_eq_false_iff_ne]; exact hm
          have hix2 : index (b :: l) [c] = ((j + 1 : Nat) : Int) := by rw [hix, hb, if_neg (by decide), hj]; omega
          have hb2 : (((j + 1 : Nat) : Int) == -1) = false := by rw [beq_eq_false_iff_ne]; omega
          have hb3 : ((j : Int) == -1) = false := by rw [beq_eq_false_iff_ne]; omega
          simp only [splitK, hix2, hj, hb2, hb3, Bool.false_eq_true, if_false, Int.toNat_natCast, List.length_singleton, Nat.add_zero, List.take_succ_cons, List.drop_succ_cons]
def mkB (l : List UInt8) : ByteArray := ⟨l.toArray⟩
theorem mkB_data (b : ByteArray) : mkB b.data.toList = b := by obtain ⟨⟨l⟩⟩ := b; rfl
def cB (x : Int) : UInt8 := UInt8.ofNat x.toNat
theorem splitL_eq (s : ByteArray) (x : Int) : splitL s (strOfNums [x]) = (splitC (cB x) s.data.toList).map mkB := by
  have h : (splitL s (strOfNums [x])).map (·.data.toList) = splitC (cB x) s.data.toList := by
    unfold splitL
    rw [Go.Lib.splitB_data]
    exact splitK_one (cB x) s.data.toList
  rw [← h, List.map_map]
  conv => lhs; rw [← List.map_id (splitL s (strOfNums [x]))]
  apply List.map_congr_left
  intro b _
  exact (mkB_data b).symm
theorem splitC_len (c : UInt8) : ∀ l : List UInt8, (splitC c l).length ≤ l.length + 1
  | [] => by simp [splitC]
  | b :: l => by
    have ih := splitC_len c l
    simp only [splitC]
    split
    · simp; exact ih
    · cases h : splitC c l with
      | nil => simp
      | cons x t => rw [h] at ih; simp at ih ⊢; omega
theorem impl_SplitByte_eq (s : ByteArray) (x : Int) (hs : s.size ≤ 1048576) : impl_SplitByte.f s x = some ((splitC (cB x) s.data.toList).map mkB) := by
  unfold impl_SplitByte.f strings_Split.f
  rw [if_pos ⟨by omega, by rw [strOfNums_size]; exact Nat.le_refl _⟩, splitL_eq]; rfl
theorem cut_list (s : ByteArray) (a b : Nat) : (s.extract a b).data.toList = (s.data.toList.drop a).take (b - a) := by
  rw [ByteArray.data_extract, Array.toList_extract, List.extract_eq_take_drop]
theorem split_loop (s : ByteArray) (x : Int) (hx0 : 0 ≤ x) (hx1 : x ≤ 255) (hs : s.size ≤ 1048576) : ∀ (d f i k : Nat) (out : List ByteArray), i + d = s.size → f ≤ i → d + 2 < k → out.length ≤ i → spec_SplitByte.l0 k s x out (f : Int) (i : Int) = some (out ++ (splitAcc (cB x) ((s.data.toList.drop f).take (i - f)) (s.data.toList.drop i)).map mkB)
  | 0, f, i, k, out, hi, hf, hk, ho => by
    obtain ⟨k, rfl⟩ : ∃ m, k = m + 1 + 1 := ⟨k - 2, by omega⟩
    have hl := size_list s
    have e1 : wrap64 ((i : Int) + 1) = ((i + 1 : Nat) : Int) := by rw [w64 (by omega) (by omega)]; omega
    simp only [spec_SplitByte.l0]
    rw [if_pos (by omega), if_pos (by omega), if_pos (by omega), if_pos (by omega), if_pos (by omega), e1, if_neg (by omega), List.drop_eq_nil_of_le (by omega : s.data.toList.length ≤ i)]
    simp only [splitAcc, List.map_cons, List.map_nil, Int.toNat_natCast]
    rw [← cut_list, mkB_data]
  | d + 1, f, i, k, out, hi, hf, hk, ho => by
    obtain ⟨k, rfl⟩ : ∃ m, k = m + 1 := ⟨k - 1, by omega⟩
    have hl := size_list s
    have h1 : i < s.data.toList.length := by omega
    have e1 : wrap64 ((i : Int) + 1) = ((i + 1 : Nat) : Int) := by rw [w64 (by omega) (by omega)]; omega
    simp only [spec_SplitByte.l0]
    rw [if_pos (by omega), if_neg (by omega), if_pos (by omega), if_pos (by omega), bt_list s i (by omega), List.drop_eq_getElem_cons h1]
    simp only [splitAcc, Int.toNat_natCast]
    by_cases hc : s.data.toList[i] = cB x
    · have hb : (((s.data.toList[i]'h1).toNat : Nat) : Int) = x := by rw [hc]; unfold cB; rw [UInt8.toNat_ofNat']; omega
      rw [if_pos hb, if_pos (by omega), if_pos (by omega), if_pos (by omega), e1, if_pos hc]
      have := split_loop s x hx0 hx1 hs d (i + 1) (i + 1) k (out ++ [s.extract f i]) (by omega) (Nat.le_refl _) (by omega) (by rw [List.length_append, List.length_singleton]; omega)
      rw [this, Nat.sub_self, List.take_zero, List.append_assoc, ← cut_list, List.map_cons, mkB_data]; rfl
    · have hb : ¬ (((s.data.toList[i]'h1).toNat : Nat) : Int) = x := fun e => hc (by
        unfold cB
        rw [← e, Int.toNat_natCast, UInt8.ofNat_toNat])
      rw [if_neg hb, e1, if_neg hc]
      have := split_loop s x hx0 hx1 hs d f (i + 1) k out (by omega) (by omega) (by omega) (by omega)
      rw [this]
      congr 2
      have hd : (s.data.toList.drop f).take (i + 1 - f) = (s.data.toList.drop f).take (i - f) ++ [s.data.toList[i]] := by
        have h2 : i - f < (s.data.toList.drop f).length := by rw [List.length_drop]; omega
        rw [show i + 1 - f = (i - f) + 1 from by omega, List.take_succ_eq_append_getElem h2, List.getElem_drop]
        congr 3; omega
      rw [hd]
theorem spec_SplitByte_eq (s : ByteArray) (x : Int) (hx0 : 0 ≤ x) (hx1 : x ≤ 255) (hs : s.size ≤ 1048576) {k : Nat} (hk : s.size + 3 ≤ k) : spec_SplitByte.f k s x = some ((splitC (cB x) s.data.toList).map mkB) := by
  unfold spec_SplitByte.f
  have := split_loop s x hx0 hx1 hs s.size 0 0 k [] (by omega) (Nat.le_refl _) (by omega) (Nat.le_refl _)
  rw [show ((0 : Nat) : Int) = 0 from rfl] at this
  rw [this, List.nil_append]
  simp only [List.drop_zero, Nat.sub_self, List.take_zero, splitAcc_nil]

theorem eqS_loop (a : List ByteArray) (hn : a.length ≤ 4000000) (d : Nat) : ∀ (i k : Nat), i + d = a.length → d < k → laws_eqStringS.l0 k a a (i : Int) = some true := by
  induction d with
  | zero =>
    intro i k hi hk
    obtain ⟨k, rfl⟩ : ∃ m, k = m + 1 := ⟨k - 1, by omega⟩
    simp only [laws_eqStringS.l0]; rw [if_neg (by omega)]
  | succ d ih =>
    intro i k hi hk
    obtain ⟨k, rfl⟩ : ∃ m, k = m + 1 := ⟨k - 1, by omega⟩
    have hw : wrap64 ((i : Int) + 1) = ((i + 1 : Nat) : Int) := by rw [wstep (n := a.length) (by omega) (by omega) (by omega)]; omega
    simp only [laws_eqStringS.l0]
    rw [if_pos (by omega), if_pos (by omega), if_pos (by omega), if_pos trivial, hw]
    exact ih (i + 1) k (by omega) (by omega)
theorem eqS_self (a : List ByteArray) (hn : a.length ≤ 4000000) {k : Nat} (hk : a.length < k) : laws_eqStringS.f k a a = some true := by
  unfold laws_eqStringS.f
  rw [if_pos rfl]
  exact eqS_loop a hn a.length 0 k (by omega) hk
/-- The mark of number m. -/
def mtL : Nat → Nat → ByteArray → ByteArray
  | 0, _, out => (⟨#[109]⟩ : ByteArray) ++ out
  | k + 1, m, out => if m = 0 then (⟨#[109]⟩ : ByteArray) ++ out else mtL k (m / 10) ((strOfNums [((48 + m % 10 : Nat) : Int)]) ++ out)
theorem mt_loop : ∀ (d m k : Nat) (out : ByteArray), m < 10 ^ d → d < k → out.size + d ≤ 1000 → m ≤ 10000000 → laws_markText.l0 k (m : Int) out = some (mtL d m out)
  | d, m, 0, out, _, hk, _, _ => absurd hk (Nat.not_lt_zero _)
  | 0, m, k + 1, out, hm, hk, hs, hb => by
    have : m = 0 := by simpa using hm
    subst this
    simp only [laws_markText.l0, mtL]
    rw [if_neg (by decide), if_pos (by omega)]
  | d + 1, m, k + 1, out, hm, hk, hs, hb => by
    simp only [laws_markText.l0, mtL]
    by_cases h0 : m = 0
    · subst h0
      rw [if_neg (by decide), if_pos (by omega), if_pos rfl]
    · have hp : 10 ^ (d + 1) = 10 ^ d * 10 := Nat.pow_succ ..
      have hm2 : m / 10 < 10 ^ d := by omega
      clear hp hm
      have hsz : ∀ z : Int, (strOfNums [z]).size = 1 := fun z => strOfNums_size [z]
      have hpos : (m : Int) > 0 := by omega
      have hk2 : d < k := by omega
      have hb2 : m / 10 ≤ 10000000 := by omega
      have ho : ∀ z : Int, (strOfNums [z]).size + out.size ≤ 9223372036854775807 := fun z => by rw [hsz]; omega
      have ho2 : ∀ z : Int, ((strOfNums [z]) ++ out).size + d ≤ 1000 := fun z => by rw [ByteArray.size_append, hsz]; omega
      have e1 : Int.tmod (m : Int) 10 = ((m % 10 : Nat) : Int) := by rw [Int.tmod_eq_emod_of_nonneg (by omega)]; omega
      have e2 : Int.tdiv (m : Int) 10 = ((m / 10 : Nat) : Int) := by rw [Int.tdiv_eq_ediv_of_nonneg (by omega)]; omega
      have e3 : wrap64 (48 + ((m % 10 : Nat) : Int)) % 256 = ((48 + m % 10 : Nat) : Int) := by rw [w64 (by omega) (by omega)]; omega
      have e4 : wrap64 ((m / 10 : Nat) : Int) = ((m / 10 : Nat) : Int) := w64 (by omega) (by omega)
      rw [if_pos hpos, e1, e2, e3, e4, if_neg h0]; simp only [Option.bind_some]
      rw [if_pos (ho _)]
      exact mt_loop d (m / 10) k _ hm2 hk2 (ho2 _) hb2
def mt (m : Nat) : ByteArray := mtL 8 m ⟨#[]⟩
theorem markText_eq (m : Nat) (h0 : 0 < m) (hm : m ≤ 10000000) {k : Nat} (hk : 10 ≤ k) : laws_markText.f k (m : Int) = some (mt m) := by
  unfold laws_markText.f
  rw [if_neg (by omega)]
  exact mt_loop 8 m k ⟨#[]⟩ (Nat.lt_of_le_of_lt hm (by decide)) (by omega) (by decide) hm
def marksB (m n : Nat) : List ByteArray := (List.range n).map fun i => mt (m + i)
theorem markS_loop (a : List ByteArray) (n : Nat) (ha : a.length = n) (hn : n ≤ 4000000) (d : Nat) : ∀ (i k : Nat) (cur : List ByteArray), i + d = n → d + 12 < k → cur.length = n → cur = (List.range i).map (fun j => mt (1 + j)) ++ a.drop i → laws_markStringS.l0 k cur ((1 + i : Nat) : Int) (i : Int) = some (((1 + n : Nat) : Int), marksB 1 n) := by
  induction d with
  | zero =>
    intro i k cur hi hk hc e
    obtain ⟨k, rfl⟩ : ∃ m, k = m + 1 := ⟨k - 1, by omega⟩
    have : i = n := by omega
    subst this
    simp only [laws_markStringS.l0]
    rw [if_neg (by omega), e, List.drop_eq_nil_of_le (by omega), List.append_nil]; rfl
  | succ d ih =>
    intro i k cur hi hk hc e
    obtain ⟨k, rfl⟩ : ∃ m, k = m + 1 := ⟨k - 1, by omega⟩
    have h1 : i < a.length := by omega
    have w1 : wrap64 (((1 + i : Nat) : Int) + 1) = ((1 + (i + 1) : Nat) : Int) := by rw [w64 (by omega) (by omega)]; omega
    have w2 : wrap64 ((i : Int) + 1) = ((i + 1 : Nat) : Int) := by rw [w64 (by omega) (by omega)]; omega
    simp only [laws_markStringS.l0]
    rw [if_pos (by omega), markText_eq (1 + i) (by omega) (by omega) (by omega)]; simp only [Option.bind_some]
    rw [if_pos (by omega), w1, w2, Int.toNat_natCast]
    refine ih (i + 1) k _ (by omega) (by omega) (by rw [List.length_set]; exact hc) ?_
    rw [e, List.set_append, if_neg (by rw [List.length_map, List.length_range]; omega), List.length_map, List.length_range, Nat.sub_self, List.drop_eq_getElem_cons h1, List.set_cons_zero, List.range_succ, List.map_append, List.append_assoc]; rfl
theorem markStringS_eq (a : List ByteArray) (hn : a.length ≤ 4000000) {k : Nat} (hk : a.length + 12 < k) : laws_markStringS.f k a 1 = some (((1 + a.length : Nat) : Int), marksB 1 a.length) := by
  unfold laws_markStringS.f
  have := markS_loop a a.length rfl hn a.length 0 k a (by omega) hk rfl (by simp)
  exact this
theorem heldS_loop (n : Nat) (hn : n ≤ 4000000) (d : Nat) : ∀ (i k : Nat), i + d = n → d + 12 < k → laws_heldStringS.l0 k (marksB 1 n) ((1 + i : Nat) : Int) (i : Int) = some ((1 + n : Nat) : Int) := by
  have hlen : (marksB 1 n).length = n := by unfold marksB; rw [List.length_map, List.length_range]
  induction d with
  | zero =>
    intro i k hi hk
    obtain ⟨k, rfl⟩ : ∃ m, k = m + 1 := ⟨k - 1, by omega⟩
    have : i = n := by omega
    subst this
    simp only [laws_heldStringS.l0]
    rw [if_neg (by omega)]
  | succ d ih =>
    intro i k hi hk
    obtain ⟨k, rfl⟩ : ∃ m, k = m + 1 := ⟨k - 1, by omega⟩
    have w1 : wrap64 (((1 + i : Nat) : Int) + 1) = ((1 + (i + 1) : Nat) : Int) := by rw [w64 (by omega) (by omega)]; omega
    have w2 : wrap64 ((i : Int) + 1) = ((i + 1 : Nat) : Int) := by rw [w64 (by omega) (by omega)]; omega
    have hr : rdOf ByteArray.empty (marksB 1 n) (i : Int) = mt (1 + i) := by
      have hi2 : i < (marksB 1 n).length := by omega
      unfold rdOf
      rw [Int.toNat_natCast, List.getD_eq_getElem?_getD, List.getElem?_eq_getElem hi2]
      unfold marksB
      show ((List.range n).map fun i => mt (1 + i))[i]'(by rw [List.length_map, List.length_range]; omega) = mt (1 + i)
      rw [List.getElem_map, List.getElem_range]
    simp only [laws_heldStringS.l0]
    rw [if_pos (by omega), if_pos (by omega), markText_eq (1 + i) (by omega) (by omega) (by omega)]; simp only [Option.bind_some]
    rw [hr, if_pos rfl, w1, w2]
    exact ih (i + 1) k (by omega) (by omega)
theorem heldStringS_eq (n : Nat) (hn : n ≤ 4000000) {k : Nat} (hk : n + 12 < k) : laws_heldStringS.f k (marksB 1 n) 1 = some ((1 + n : Nat) : Int) := by
  unfold laws_heldStringS.f
  exact heldS_loop n hn n 0 k (by omega) hk
theorem FnExactSplitByte : laws_FnExactSplitByte.Pure := by
  intro s x hs hx
  refine ⟨3000000, ?_⟩
  have hb : 0 ≤ x ∧ x ≤ 255 := by
    have h := hx
    have e1 : IntKind.u8.min = 0 := by decide
    have e2 : IntKind.u8.max = 255 := by decide
    simp [Lit.wf] at h
    omega
  unfold laws_FnExactSplitByte.f
  by_cases h : (s.size : Int) > 1048576
  · rw [if_pos h]
  · have hl := size_list s
    have h1 := spec_SplitByte_eq s x hb.1 hb.2 (by omega) (k := 3000000) (by omega)
    have h2 := impl_SplitByte_eq s x (by omega)
    have h3 := splitC_len (cB x) s.data.toList
    generalize hz : (splitC (cB x) s.data.toList).map mkB = z at h1 h2
    have hzl : z.length ≤ 1048577 := by rw [← hz, List.length_map]; omega
    have h4 := eqS_self z (by omega) (k := 3000000) (by omega)
    have h5 := markStringS_eq z (by omega) (k := 3000000) (by omega)
    have h6 := heldStringS_eq z.length (by omega) (k := 3000000) (by omega)
    rw [if_neg h, h1]; simp only [Option.bind_some]
    rw [h2]; simp only [Option.bind_some]
    rw [h4]; simp only [Option.bind_some, if_true]
    rw [h5]; simp only [Option.bind_some]
    rw [h6]; simp only [Option.bind_some]
    rw [if_neg (by omega), if_pos trivial, if_neg (by omega), if_pos trivial]

end Go.Proofs.YtgdgmkdbmopcbaaDoor.Pure
