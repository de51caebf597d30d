/- For every input the law answers true. No condition. -/
import Derived.Test.YtodmfdkmmpefpaaGreatDoorPFnConceptsx18
import Derived.Test.YtodmfdkmmpefpaaGreatDoorPFnConceptsx19
set_option linter.unusedVariables false
set_option linter.unusedSimpArgs false
namespace Go.Proofs.YtodmfdkmmpefpaaGreatDoor.Pure
open Go.RowKit Go.Proofs.YtodmfdkmmpefpaaGreatDoor.PFnConcepts Go.Proofs.YtodmfdkmmpefpaaGreatDoorW.PrintWords Go.Proofs.YtodmfdkmmpefpaaGreatDoorW.PrintLast Go.Proofs.YtodmfdkmmpefpaaGreatDoor.PFnConcepts.Lec
theorem and255_bd (n : Int) : 0 ≤ Go.bits .and .i64 n 255 ∧ Go.bits .and .i64 n 255 ≤ 255 := by
  have h : (BitVec.ofInt 64 255).toNat = 2 ^ 8 - 1 := by decide
  have key : (BitVec.ofInt 64 n &&& BitVec.ofInt 64 255).toNat = (n % ((2 ^ 64 : Nat) : Int)).toNat % 2 ^ 8 := by
    rw [BitVec.toNat_and, BitVec.toNat_ofInt, h, Nat.and_two_pow_sub_one_eq_mod]
  have e : Go.bits .and .i64 n 255 = n % 256 := by
    show IntKind.i64.wrap ((BitVec.ofInt 64 n &&& BitVec.ofInt 64 255).toNat : Nat) = n % 256
    rw [key, IntKind.wrap_i64]
    omega
  omega
theorem l1New_loop (l : List Int) (hm : l.length ≤ maxLen) : ∀ (d i k : Nat) (s : Int), i + d = 4000 → d < k → ∃ s', spec_l1New.l0 k l s (i : Int) = some (l, 0, s')
  | 0, i, k, s, hi, hk => by
    obtain ⟨k, rfl⟩ : ∃ m, k = m + 1 := ⟨k - 1, by omega⟩
    simp only [spec_l1New.l0]
    by_cases h : (i : Int) < (l.length : Int)
    · rw [if_pos h, if_neg (by omega)]; exact ⟨_, rfl⟩
    · rw [if_neg h]; exact ⟨_, rfl⟩
  | d + 1, i, k, s, hi, hk => by
    obtain ⟨k, rfl⟩ : ∃ m, k = m + 1 := ⟨k - 1, by omega⟩
    simp only [spec_l1New.l0]
    by_cases h : (i : Int) < (l.length : Int)
    · rw [if_pos h, if_pos (by omega), if_pos (by omega), show wrap64 ((i : Int) + 1) = ((i + 1 : Nat) : Int) from by rw [w64 (by omega) (by omega)]; omega]
      exact l1New_loop l hm d (i + 1) k _ (by omega) (by omega)
    · rw [if_neg h]; exact ⟨_, rfl⟩
theorem l1New_ok (l : List Int) (hm : l.length ≤ maxLen) {k : Nat} (hk : 4001 ≤ k) : ∃ s, spec_l1New.f k l = some (l, 0, s) := by
  unfold spec_l1New.f
  exact l1New_loop l hm 4000 0 k _ (by omega) (by omega)
theorem l1Byte_ok (l : List Int) (hm : l.length ≤ maxLen) (i s : Int) (hi : 0 ≤ i) : ∃ b i' s', spec_l1Byte.f l i s = some (b, i', s') ∧ 0 ≤ i' ∧ 0 ≤ b ∧ b ≤ 255 := by
  unfold spec_l1Byte.f
  unfold maxLen at hm
  by_cases h : i < (l.length : Int)
  · rw [if_pos h, if_pos hi]
    exact ⟨_, _, _, rfl, by rw [w64 (by omega) (by omega)]; omega, (and255_bd _).1, (and255_bd _).2⟩
  · rw [if_neg h]
    exact ⟨_, _, _, rfl, hi, (and255_bd _).1, (and255_bd _).2⟩
theorem l1Below_ok (l : List Int) (hm : l.length ≤ maxLen) (i s a : Int) (hi : 0 ≤ i) : ∃ r i' s', spec_l1Below.f l i s a = some (r, i', s') ∧ 0 ≤ i' ∧ (0 < a → a ≤ 256 → 0 ≤ r ∧ r < a) := by
  unfold spec_l1Below.f
  by_cases h0 : a ≤ 0
  · rw [if_pos h0]; exact ⟨_, _, _, rfl, hi, fun h => absurd h (by omega)⟩
  · rw [if_neg h0]
    obtain ⟨b, i1, s1, e, h1, h2, h3⟩ := l1Byte_ok l hm i s hi
    by_cases h4 : a ≤ 256
    · rw [if_pos h4, e, Option.bind_some, if_neg (by omega)]
      refine ⟨_, _, _, rfl, h1, fun _ _ => ?_⟩
      rw [Int.tmod_eq_emod_of_nonneg h2]
      exact ⟨Int.emod_nonneg _ (by omega), Int.emod_lt_of_pos _ (by omega)⟩
    · obtain ⟨b2, i2, s2, e2, h12, _, _⟩ := l1Byte_ok l hm i1 s1 h1
      obtain ⟨b3, i3, s3, e3, h13, _, _⟩ := l1Byte_ok l hm i2 s2 h12
      obtain ⟨b4, i4, s4, e4, h14, _, _⟩ := l1Byte_ok l hm i3 s3 h13
      rw [if_neg h4, e]; simp only [Option.bind_some]
      rw [e2]; simp only [Option.bind_some]
      rw [e3]; simp only [Option.bind_some]
      rw [e4]; simp only [Option.bind_some]
      rw [if_neg (by omega)]
      exact ⟨_, _, _, rfl, h14, fun _ h => absurd h h4⟩
theorem l1PickInt_ok (l : List Int) (hm : l.length ≤ maxLen) (i s : Int) (z : List Int) (hi : 0 ≤ i) (hz : 0 < z.length) (hz2 : z.length ≤ 256) : ∃ r i' s', spec_l1PickInt.f l i s z = some (r, i', s') ∧ 0 ≤ i' := by
  unfold spec_l1PickInt.f
  obtain ⟨b, i1, s1, e, h1, h2⟩ := l1Below_ok l hm i s (z.length : Int) hi
  have := h2 (by omega) (by omega)
  rw [e]; simp only [Option.bind_some]
  rw [if_pos this.1, if_pos this.2]; exact ⟨_, _, _, rfl, h1⟩

theorem l1Once_ok (l : List Int) (hm : l.length ≤ maxLen) (i s a : Int) (hi : 0 ≤ i) : ∃ r i' s', spec_l1Once.f l i s a = some (r, i', s') ∧ 0 ≤ i' := by
  unfold spec_l1Once.f
  obtain ⟨b, i1, s1, e, h1, _⟩ := l1Below_ok l hm i s a hi
  rw [e]; exact ⟨_, _, _, rfl, h1⟩

theorem l2Bent_ok (l : List Int) (hm : l.length ≤ maxLen) (i s : Int) (hi : 0 ≤ i) : ∃ r i' s', spec_l2Bent.f l i s = some (r, i', s') ∧ 0 ≤ i' := by
  unfold spec_l2Bent.f
  obtain ⟨b, i1, s1, e, h1⟩ := l1Once_ok l hm i s 8 hi
  rw [e]; simp only [Option.bind_some]
  by_cases hb : b = true
  · rw [if_pos hb]
    obtain ⟨r, i2, s2, e2, h2⟩ := l1PickInt_ok l hm i1 s1 [(-1), 256, 1000, (-9223372036854775808)] h1 (by decide) (by decide)
    rw [e2]; exact ⟨_, _, _, rfl, h2⟩
  · rw [if_neg hb]
    obtain ⟨r, i2, s2, e2, h2, _⟩ := l1Below_ok l hm i1 s1 256 h1
    rw [e2]; exact ⟨_, _, _, rfl, h2⟩

theorem l3Make_loop (l : List Int) (hm : l.length ≤ maxLen) (n b y : Int) (h256 : y ≤ 256) (d : Nat) : ∀ (x k : Nat) (i s : Int) (rs : List Int), (x : Int) + d = y → d < k → 0 ≤ i → rs.length = x →
    ∃ rs' i' s', spec_l3Make.l0 k n y (x : Int) l i s b rs = some (b, rs', i', s') ∧ 0 ≤ i' ∧ (rs'.length : Int) = y := by
  induction d with
  | zero =>
    intro x k i s rs hy hk hi hl
    obtain ⟨k, rfl⟩ : ∃ m, k = m + 1 := ⟨k - 1, by omega⟩
    simp only [spec_l3Make.l0]
    rw [if_neg (by omega)]; exact ⟨_, _, _, rfl, hi, by omega⟩
  | succ d ih =>
    intro x k i s rs hy hk hi hl
    obtain ⟨k, rfl⟩ : ∃ m, k = m + 1 := ⟨k - 1, by omega⟩
    have hlt : rs.length < 17592186044416 := by clear hm ih; omega
    have hx0 : (x : Int) < y := by clear hm ih; omega
    have hy' : ((x + 1 : Nat) : Int) + d = y := by clear hm ih; omega
    have hk' : d < k := by clear hm ih; omega
    have ex : wrap64 ((x : Int) + 1) = ((x + 1 : Nat) : Int) := by clear hm ih; rw [w64 (by omega) (by omega)]; omega
    have hls : ∀ z : Int, (rs ++ [z]).length = x + 1 := fun z => by rw [List.length_append, hl]; rfl
    have hu := u64_nonneg n
    obtain ⟨c, i1, s1, e1, h1⟩ := l1Once_ok l hm i s 2 hi
    simp only [spec_l3Make.l0]
    rw [if_pos hx0, e1]; simp only [Option.bind_some]
    generalize shl .i64 1 (IntKind.u64.wrap n) = sh
    obtain ⟨r2, i2, s2, e2, h2, _⟩ := l1Below_ok l hm i1 s1 sh h1
    cases c with
    | true =>
      simp only [if_true, if_pos hu, e2, Option.bind_some, if_pos hlt, ex]
      exact ih (x + 1) k i2 s2 _ hy' hk' h2 (hls _)
    | false =>
      obtain ⟨r3, i3, s3, e3, h3, _⟩ := l1Below_ok l hm i2 s2 sh h2
      simp only [Bool.false_eq_true, if_false, if_pos hu, e2, e3, Option.bind_some, if_pos hlt, ex]
      exact ih (x + 1) k i3 s3 _ hy' hk' h3 (hls _)
theorem l3Make_ok (l : List Int) (hm : l.length ≤ maxLen) (i s n c : Int) (hi : 0 ≤ i) (hc : 0 ≤ c) (hc2 : c ≤ 200) {k : Nat} (hk : 300 ≤ k) : ∃ rs i' s', spec_l3Make.f k l i s n c = some (n, rs, i', s') ∧ 0 ≤ i' ∧ (rs.length : Int) ≤ c := by
  unfold spec_l3Make.f
  rw [w64 (n := c + 1) (by omega) (by omega)]
  obtain ⟨b, i1, s1, e, h1, h2⟩ := l1Below_ok l hm i s (c + 1) hi
  have hb := h2 (by omega) (by omega)
  rw [e]; simp only [Option.bind_some]
  obtain ⟨rs, i2, s2, e2, h3, h4⟩ := l3Make_loop l hm n n b (by omega) b.toNat 0 k i1 s1 [] (by omega) (by omega) h1 rfl
  have e0 : ((0 : Nat) : Int) = 0 := rfl
  rw [e0] at e2
  exact ⟨rs, i2, s2, e2, h3, by omega⟩
theorem l3Draw_ok (l : List Int) (hm : l.length ≤ maxLen) (i s : Int) (hi : 0 ≤ i) {k : Nat} (hk : 300 ≤ k) : ∃ n rs i' s', spec_l3Draw.f k l i s = some (n, rs, i', s') ∧ 0 ≤ i' ∧ rs.length ≤ 6 := by
  unfold spec_l3Draw.f
  obtain ⟨b, i1, s1, e, h1⟩ := l1PickInt_ok l hm i s [0, 1, 2, 3, 3, 4, 4, 5, 5] hi (by decide) (by decide)
  rw [e]; simp only [Option.bind_some]
  obtain ⟨rs, i2, s2, e2, h3, h4⟩ := l3Make_ok l hm i1 s1 b 6 h1 (by decide) (by decide) hk
  rw [e2]; exact ⟨_, _, _, _, rfl, h3, by show rs.length ≤ 6; omega⟩
theorem l3Bent_loop (l : List Int) (n : Int) : ∀ (d k : Nat) (i s : Int) (rs : List Int), rs.length + d = 9 → d < k → ∃ rs', spec_l3Bent.l0 k l i s n rs = some (n, rs', i, s) ∧ rs'.length = 9
  | 0, k, i, s, rs, hl, hk => by
    obtain ⟨k, rfl⟩ : ∃ m, k = m + 1 := ⟨k - 1, by omega⟩
    simp only [spec_l3Bent.l0]
    rw [if_neg (by omega)]; exact ⟨_, rfl, by omega⟩
  | d + 1, k, i, s, rs, hl, hk => by
    obtain ⟨k, rfl⟩ : ∃ m, k = m + 1 := ⟨k - 1, by omega⟩
    simp only [spec_l3Bent.l0]
    rw [if_pos (by omega), if_pos (by omega)]
    exact l3Bent_loop l n d k i s _ (by simp; omega) (by omega)
theorem l3Bent_ok (l : List Int) (hm : l.length ≤ maxLen) (i s : Int) (hi : 0 ≤ i) {k : Nat} (hk : 300 ≤ k) : ∃ n rs i' s', spec_l3Bent.f k l i s = some (n, rs, i', s') ∧ 0 ≤ i' ∧ rs.length ≤ 9 := by
  unfold spec_l3Bent.f
  obtain ⟨n, rs, i1, s1, e, h1, hl⟩ := l3Draw_ok l hm i s hi hk
  rw [e]; simp only [Option.bind_some]
  obtain ⟨c, i2, s2, e2, h2, _⟩ := l1Below_ok l hm i1 s1 14 h1
  rw [e2]; simp only [Option.bind_some]
  by_cases c0 : c = 0
  · rw [if_pos c0]
    obtain ⟨b, i3, s3, e3, h3⟩ := l1PickInt_ok l hm i2 s2 [(-1), 0, 2, 7] h2 (by decide) (by decide)
    rw [e3]; exact ⟨_, _, _, _, rfl, h3, by show rs.length ≤ 9; omega⟩
  rw [if_neg c0]
  by_cases c1 : c = 1
  · rw [if_pos c1]
    obtain ⟨b, i3, s3, e3, h3⟩ := l2Bent_ok l hm i2 s2 h2
    rw [e3]; simp only [Option.bind_some]
    rw [if_pos (by omega)]; exact ⟨_, _, _, _, rfl, h3, by simp; omega⟩
  rw [if_neg c1]
  by_cases c2 : c = 2
  · rw [if_pos c2]
    obtain ⟨rs', e3, h3⟩ := l3Bent_loop l n (9 - rs.length) k i2 s2 rs (by omega) (by omega)
    exact ⟨_, _, _, _, e3, h2, by omega⟩
  · rw [if_neg c2]; exact ⟨_, _, _, _, rfl, h2, by show rs.length ≤ 9; omega⟩

theorem spec_IsSet_eq (n s : Int) : spec_IsSet.f n s = some (isSetB n s) := by
  unfold spec_IsSet.f spec_l1In.f isSetB
  by_cases h0 : 0 ≤ n
  · by_cases h1 : n ≤ 8
    · have hw := u64_small h0 (by omega)
      rw [hw, shl_full h0 h1]
      by_cases h2 : 0 ≤ s <;> simp [h0, h1, h2]
    · simp [h0, h1]
  · simp [h0]

/-- Is it a context? -/
def ctxB (n : Int) (a : List Int) : Bool := decide (0 ≤ n ∧ n ≤ 6) && (decide (a.length ≤ 8) && a.all (isSetB n))
theorem ctxB_out {n : Int} {a : List Int} (h : ctxB n a = true) : 0 ≤ n ∧ n ≤ 6 ∧ a.length ≤ 8 ∧ ∀ x ∈ a, isSetB n x = true := by
  unfold ctxB at h
  simp only [Bool.and_eq_true, decide_eq_true_eq, List.all_eq_true] at h
  exact ⟨h.1.1, h.1.2, h.2.1, h.2.2⟩
theorem spec_IsContext_loop (n : Int) (a : List Int) (hn : a.length ≤ 281474976710656) : ∀ (d i k : Nat), i + d = a.length → d < k → spec_IsContext.l0 k (i : Int) n a = some (decide (0 ≤ n ∧ n ≤ 6) && (decide (a.length ≤ 8) && (a.drop i).all (isSetB n)))
  | 0, i, k, hi, hk => by
    obtain ⟨k, rfl⟩ : ∃ m, k = m + 1 := ⟨k - 1, by omega⟩
    simp only [spec_IsContext.l0]; rw [if_neg (by omega), List.drop_eq_nil_of_le (by omega)]
    unfold spec_l1In.f
    have e : decide ((a.length : Int) ≤ 8) = decide (a.length ≤ 8) := by rw [decide_eq_decide]; omega
    rw [e]
    by_cases h0 : 0 ≤ n
    · by_cases h1 : n ≤ 6 <;> simp [h0, h1]
    · simp [h0]
  | d + 1, i, k, hi, hk => by
    obtain ⟨k, rfl⟩ : ∃ m, k = m + 1 := ⟨k - 1, by omega⟩
    have h1 : i < a.length := by omega
    have ih := spec_IsContext_loop n a hn d (i + 1) k (by omega) (by omega)
    simp only [spec_IsContext.l0]
    rw [if_pos (by omega), if_pos (by omega), rd_nat a i h1, spec_IsSet_eq, Option.bind_some, List.drop_eq_getElem_cons h1, List.all_cons, wstep (n := a.length) (by omega) (by omega) hn]
    cases hs : isSetB n a[i] with
    | true => rw [if_pos rfl, show (i : Int) + 1 = ((i + 1 : Nat) : Int) from by omega, ih, Bool.true_and]
    | false => simp
theorem spec_IsContext_eq (n : Int) (a : List Int) (hn : a.length ≤ 281474976710656) {k : Nat} (hk : a.length < k) : spec_IsContext.f k n a = some (ctxB n a) := by
  unfold spec_IsContext.f ctxB
  have := spec_IsContext_loop n a hn a.length 0 k (by omega) hk
  simpa using this
theorem impl_IsContext_eq (n : Int) (a : List Int) : impl_IsContext.f n a = some (ctxB n a) := by
  unfold impl_IsContext.f ctxB impl_within.f
  have e : ∀ x, impl_IsContext.row n x = isSetB n x := fun x => by unfold impl_IsContext.row; rw [impl_IsSet_eq]; rfl
  have e2 : (!(a.any fun x => !impl_IsContext.row n x)) = a.all (isSetB n) := by
    simp only [e]
    induction a with
    | nil => rfl
    | cons x l ih => simp only [List.any_cons, List.all_cons, Bool.not_or, Bool.not_not, ih]
  rw [e2]
  by_cases h0 : 0 ≤ n
  · by_cases h1 : n ≤ 6
    · by_cases h2 : a.length ≤ 8
      · have h3 : (a.length : Int) ≤ 8 := by omega
        simp [h0, h1, h2, h3]
      · have h3 : ¬ (a.length : Int) ≤ 8 := by omega
        simp [h0, h1, h2, h3]
    · simp [h0, h1]
  · simp [h0]

/-- The rows of a set s of objects, from i on, d of them, met with acc. -/
def andFrom (a : List Int) (s : Nat) : Nat → Nat → Nat → Nat
  | _, 0, acc => acc
  | i, d + 1, acc => andFrom a s (i + 1) d (if s.testBit i then acc &&& row a i else acc)
theorem andFrom_bit (a : List Int) (s m : Nat) : ∀ (d i acc : Nat), (andFrom a s i d acc).testBit m = true ↔ acc.testBit m = true ∧ ∀ g, i ≤ g → g < i + d → s.testBit g = true → (row a g).testBit m = true
  | 0, i, acc => by simp only [andFrom]; exact ⟨fun h => ⟨h, fun g h1 h2 => absurd h2 (by omega)⟩, fun h => h.1⟩
  | d + 1, i, acc => by
    simp only [andFrom]
    rw [andFrom_bit a s m d (i + 1)]
    cases hs : s.testBit i with
    | true =>
      rw [if_pos rfl, Nat.testBit_and, Bool.and_eq_true]
      constructor
      · rintro ⟨⟨h1, h2⟩, h3⟩
        refine ⟨h1, fun g hg hg2 hb => ?_⟩
        by_cases e : g = i
        · subst e; exact h2
        · exact h3 g (by omega) (by omega) hb
      · rintro ⟨h1, h2⟩
        exact ⟨⟨h1, h2 i (Nat.le_refl _) (by omega) hs⟩, fun g hg hg2 => h2 g (by omega) (by omega)⟩
    | false =>
      rw [if_neg (by simp)]
      constructor
      · rintro ⟨h1, h3⟩
        refine ⟨h1, fun g hg hg2 hb => ?_⟩
        by_cases e : g = i
        · subst e; rw [hs] at hb; cases hb
        · exact h3 g (by omega) (by omega) hb
      · rintro ⟨h1, h2⟩
        exact ⟨h1, fun g hg hg2 => h2 g (by omega) (by omega)⟩
theorem andFrom_lt (a : List Int) (s : Nat) : ∀ (d i acc : Nat) (n : Nat), acc < 2 ^ n → andFrom a s i d acc < 2 ^ n := by
  intro d i acc n h
  refine lt_of_bits fun m hm => ?_
  have h1 := ((andFrom_bit a s m d i acc).1 hm).1
  apply Decidable.byContradiction
  intro hlt
  rw [lt_bits h (by omega)] at h1
  cases h1
/-- The attributes that all objects of s have. -/
def intentN (n : Nat) (a : List Int) (s : Nat) : Nat := andFrom a s 0 a.length (2 ^ n - 1)
theorem intentN_lt (n : Nat) (a : List Int) (s : Nat) : intentN n a s < 2 ^ n := andFrom_lt a s _ _ _ n (Nat.sub_lt (Nat.two_pow_pos n) (by decide))
theorem intentN_bit (n : Nat) (a : List Int) (s m : Nat) : (intentN n a s).testBit m = true ↔ m < n ∧ ∀ g, g < a.length → s.testBit g = true → (row a g).testBit m = true := by
  unfold intentN
  rw [andFrom_bit, full_bit, decide_eq_true_eq]
  exact ⟨fun h => ⟨h.1, fun g hg => h.2 g (Nat.zero_le _) (by omega)⟩, fun h => ⟨h.1, fun g _ hg => h.2 g (by omega)⟩⟩
/-- The objects from i on whose rows have all of t, joined with acc. -/
def extFrom (a : List Int) (t : Nat) : Nat → Nat → Nat → Nat
  | _, 0, acc => acc
  | i, d + 1, acc => extFrom a t (i + 1) d (if row a i &&& t = t then acc ||| 2 ^ i else acc)
theorem extFrom_bit (a : List Int) (t g : Nat) : ∀ (d i acc : Nat), (extFrom a t i d acc).testBit g = true ↔ acc.testBit g = true ∨ (i ≤ g ∧ g < i + d ∧ row a g &&& t = t)
  | 0, i, acc => by simp only [extFrom]; exact ⟨fun h => .inl h, fun h => h.elim id (fun h => absurd h.2.1 (by omega))⟩
  | d + 1, i, acc => by
    simp only [extFrom]
    rw [extFrom_bit a t g d (i + 1)]
    by_cases hs : row a i &&& t = t
    · rw [if_pos hs, Nat.testBit_or, two_pow_bit, Bool.or_eq_true, decide_eq_true_eq]
      constructor
      · rintro ((h | rfl) | ⟨h1, h2, h3⟩)
        · exact .inl h
        · exact .inr ⟨Nat.le_refl _, by omega, hs⟩
        · exact .inr ⟨by omega, by omega, h3⟩
      · rintro (h | ⟨h1, h2, h3⟩)
        · exact .inl (.inl h)
        · by_cases e : i = g
          · exact .inl (.inr e)
          · exact .inr ⟨by omega, by omega, h3⟩
    · rw [if_neg hs]
      constructor
      · rintro (h | ⟨h1, h2, h3⟩)
        · exact .inl h
        · exact .inr ⟨by omega, by omega, h3⟩
      · rintro (h | ⟨h1, h2, h3⟩)
        · exact .inl h
        · by_cases e : i = g
          · subst e; exact absurd h3 hs
          · exact .inr ⟨by omega, by omega, h3⟩
/-- The objects that have all attributes of t. -/
def extentN (a : List Int) (t : Nat) : Nat := extFrom a t 0 a.length 0
theorem and_eq_bits (x t : Nat) : x &&& t = t ↔ ∀ m, t.testBit m = true → x.testBit m = true := by
  constructor
  · intro h m hm
    have := congrArg (fun z : Nat => z.testBit m) h
    simp only [Nat.testBit_and, hm, Bool.and_true] at this
    exact this
  · intro h
    apply Nat.eq_of_testBit_eq; intro i
    rw [Nat.testBit_and]
    cases ht : t.testBit i with
    | true => rw [h i ht]; rfl
    | false => simp
theorem extentN_bit (a : List Int) (t g : Nat) : (extentN a t).testBit g = true ↔ g < a.length ∧ ∀ m, t.testBit m = true → (row a g).testBit m = true := by
  unfold extentN
  rw [extFrom_bit, Nat.zero_testBit, and_eq_bits]
  constructor
  · rintro (h | h)
    · cases h
    · exact ⟨by omega, h.2.2⟩
  · intro h; exact .inr ⟨Nat.zero_le _, by omega, h.2⟩
theorem extentN_lt (a : List Int) (t : Nat) : extentN a t < 2 ^ a.length := lt_of_bits fun g hg => ((extentN_bit a t g).1 hg).1
/-- The objects from i on that have the attribute m, joined with acc. -/
def colFrom (a : List Int) (m : Nat) : Nat → Nat → Nat → Nat
  | _, 0, acc => acc
  | i, d + 1, acc => colFrom a m (i + 1) d (acc ||| (if (row a i).testBit m then 2 ^ i else 0))
theorem colFrom_bit (a : List Int) (m g : Nat) : ∀ (d i acc : Nat), (colFrom a m i d acc).testBit g = true ↔ acc.testBit g = true ∨ (i ≤ g ∧ g < i + d ∧ (row a g).testBit m = true)
  | 0, i, acc => by simp only [colFrom]; exact ⟨fun h => .inl h, fun h => h.elim id (fun h => absurd h.2.1 (by omega))⟩
  | d + 1, i, acc => by
    simp only [colFrom]
    rw [colFrom_bit a m g d (i + 1), Nat.testBit_or, Bool.or_eq_true]
    cases hs : (row a i).testBit m with
    | true =>
      rw [if_pos rfl, two_pow_bit, decide_eq_true_eq]
      constructor
      · rintro ((h | rfl) | ⟨h1, h2, h3⟩)
        · exact .inl h
        · exact .inr ⟨Nat.le_refl _, by omega, hs⟩
        · exact .inr ⟨by omega, by omega, h3⟩
      · rintro (h | ⟨h1, h2, h3⟩)
        · exact .inl (.inl h)
        · by_cases e : i = g
          · exact .inl (.inr e)
          · exact .inr ⟨by omega, by omega, h3⟩
    | false =>
      rw [if_neg (by simp), Nat.zero_testBit]
      constructor
      · rintro ((h | h) | ⟨h1, h2, h3⟩)
        · exact .inl h
        · cases h
        · exact .inr ⟨by omega, by omega, h3⟩
      · rintro (h | ⟨h1, h2, h3⟩)
        · exact .inl (.inl h)
        · by_cases e : i = g
          · subst e; rw [hs] at h3; cases h3
          · exact .inr ⟨by omega, by omega, h3⟩
/-- The objects that have the attribute m. -/
def colN (a : List Int) (m : Nat) : Nat := colFrom a m 0 a.length 0
theorem colN_bit (a : List Int) (m g : Nat) : (colN a m).testBit g = true ↔ g < a.length ∧ (row a g).testBit m = true := by
  unfold colN
  rw [colFrom_bit, Nat.zero_testBit]
  constructor
  · rintro (h | h)
    · cases h
    · exact ⟨by omega, h.2.2⟩
  · intro h; exact .inr ⟨Nat.zero_le _, by omega, h.2⟩
theorem colN_lt (a : List Int) (m : Nat) : colN a m < 2 ^ a.length := lt_of_bits fun g hg => ((colN_bit a m g).1 hg).1
theorem ctx_rows {n : Int} {a : List Int} (h : ctxB n a = true) : RowsOk a := fun x hx => by
  have := isSetB_bd ((ctxB_out h).2.2.2 x hx)
  omega
theorem ctx_row_lt {n : Nat} {a : List Int} (h : ctxB (n : Int) a = true) (g : Nat) : row a g < 2 ^ n := by
  unfold row
  by_cases hg : g < a.length
  · obtain ⟨t, ht, hl, _, _⟩ := isSet_nat ((ctxB_out h).2.2.2 a[g] (List.getElem_mem hg))
    rw [List.getD_eq_getElem?_getD, List.getElem?_eq_getElem hg, Option.getD_some, ht]; exact hl
  · rw [List.getD_eq_getElem?_getD, List.getElem?_eq_none (by omega)]; exact Nat.two_pow_pos n

theorem impl_areObjects_eq (n : Int) (a : List Int) (s : Int) : impl_areObjects.f n a s = some (ctxB n a && isSetB a.length s) := by
  unfold impl_areObjects.f
  rw [impl_IsContext_eq, Option.bind_some]
  cases ctxB n a <;> simp [impl_IsSet_eq]

def fullSet (n : Int) : Int := if 0 ≤ n ∧ n ≤ 8 then full n else 0

theorem impl_FullSet_eq (n : Int) : impl_FullSet.f n = some (fullSet n) := by
  unfold impl_FullSet.f impl_within.f fullSet
  by_cases h0 : 0 ≤ n
  · by_cases h1 : n ≤ 8
    · simp [h0, h1, shl_full h0 h1]
    · simp [h0, h1]
  · simp [h0]

theorem impl_common_loop (l : List Int) (hl : RowsOk l) (hn : l.length ≤ 8) (s : Nat) (hs : s < 256) : ∀ (d i k acc : Nat), i + d = l.length → d < k → acc < 256 → impl_common.l0 k (s : Int) (acc : Int) l (l.length : Int) (i : Int) = some ((andFrom l s i d acc : Nat) : Int)
  | 0, i, k, acc, hi, hk, _ => by
    obtain ⟨k, rfl⟩ : ∃ m, k = m + 1 := ⟨k - 1, by omega⟩
    simp only [impl_common.l0, andFrom]; rw [if_neg (by omega)]
  | d + 1, i, k, acc, hi, hk, hacc => by
    obtain ⟨k, rfl⟩ : ∃ m, k = m + 1 := ⟨k - 1, by omega⟩
    have h1 : i < l.length := by omega
    have hr := row_lt hl i
    have hh : impl_HasElement.f (s : Int) (i : Int) = some (s.testBit i) := by
      rw [impl_HasElement_eq, isSetB8, decide_eq_true (by omega : (0 : Int) ≤ (s : Int) ∧ (s : Int) ≤ 255), decide_eq_true (by omega : (0 : Int) ≤ (i : Int) ∧ (i : Int) ≤ 7)]; rfl
    simp only [impl_common.l0, andFrom]
    rw [if_pos (by omega), if_pos (by omega), if_pos (by omega), hh, Option.bind_some, rd_row hl h1, and_nat _ _ (by omega) (by omega), wstep (n := l.length) (by omega) (by omega) (by omega), show (i : Int) + 1 = ((i + 1 : Nat) : Int) from by omega]
    cases hb : s.testBit i with
    | true =>
      rw [if_pos rfl, if_pos rfl]
      exact impl_common_loop l hl hn s hs d (i + 1) k _ (by omega) (by omega) (Nat.lt_of_le_of_lt Nat.and_le_left hacc)
    | false =>
      rw [if_neg (by simp), if_neg (by simp)]
      exact impl_common_loop l hl hn s hs d (i + 1) k _ (by omega) (by omega) hacc
theorem impl_common_eq {l : List Int} (hl : RowsOk l) (hn : l.length ≤ 8) {s acc : Nat} (hs : s < 256) (hacc : acc < 256) {k : Nat} (hk : 9 ≤ k) : impl_common.f k l s acc = some ((andFrom l s 0 l.length acc : Nat) : Int) := by
  unfold impl_common.f
  exact impl_common_loop l hl hn s hs l.length 0 k acc (by omega) (by omega) hacc

/-- IntentOf. -/
def intentI (n : Int) (a : List Int) (s : Int) : Int := if ctxB n a && isSetB a.length s then ((intentN n.toNat a s.toNat : Nat) : Int) else 0
theorem impl_IntentOf_eq (n : Int) (a : List Int) (s : Int) {k : Nat} (hk : 9 ≤ k) : impl_IntentOf.f k n a s = some (intentI n a s) := by
  unfold impl_IntentOf.f intentI
  rw [impl_areObjects_eq, Option.bind_some]
  cases h : (ctxB n a && isSetB a.length s) with
  | false => simp
  | true =>
    rw [if_pos rfl, if_pos rfl]
    rw [Bool.and_eq_true] at h
    have hc := ctxB_out h.1
    obtain ⟨m, rfl⟩ := Int.eq_ofNat_of_zero_le hc.1
    obtain ⟨t, rfl, h1, h2, h3⟩ := isSet_nat h.2
    have hf := full_bd hc.1 (by omega)
    rw [impl_FullSet_eq, Option.bind_some]
    unfold fullSet
    rw [full_nat] at hf
    rw [if_pos (by omega), full_nat, impl_common_eq (ctx_rows h.1) hc.2.2.1 h3 (by omega) hk]
    rfl

theorem impl_areAttributes_eq (n : Int) (a : List Int) (s : Int) : impl_areAttributes.f n a s = some (ctxB n a && isSetB n s) := by
  unfold impl_areAttributes.f
  rw [impl_IsContext_eq, Option.bind_some]
  cases ctxB n a <;> simp [impl_IsSet_eq]

theorem shr_and_one (x m : Nat) (hx : x < 2 ^ 63) (hm : m ≤ 63) : Go.bits .and .i64 (shr .i64 (x : Int) (m : Int)) 1 = (((if x.testBit m then 1 else 0) : Nat) : Int) := by
  have h1 : shr .i64 (x : Int) (m : Int) = ((x / 2 ^ m : Nat) : Int) := by
    unfold shr
    rw [Int.toNat_natCast, Nat.min_eq_left (by simp [IntKind.bits]; omega)]
    simp
  have h2 : x / 2 ^ m < 2 ^ 63 := Nat.lt_of_le_of_lt (Nat.div_le_self _ _) hx
  rw [h1, show (1 : Int) = ((1 : Nat) : Int) from rfl, and_nat _ _ h2 (by decide), Nat.and_one_is_mod, Nat.testBit_eq_decide_div_mod_eq]
  congr 1
  rcases Nat.mod_two_eq_zero_or_one (x / 2 ^ m) with h | h <;> rw [h] <;> rfl
theorem impl_isAttribute_eq (n : Int) (a : List Int) (m : Int) : impl_isAttribute.f n a m = some (ctxB n a && decide (0 ≤ m ∧ m < n)) := by
  unfold impl_isAttribute.f impl_within.f
  rw [impl_IsContext_eq, Option.bind_some]
  cases h : ctxB n a with
  | false => simp
  | true =>
    have hc := ctxB_out h
    rw [if_pos rfl, w64 (by omega) (by omega)]
    by_cases h0 : 0 ≤ m
    · have e : decide (m ≤ n - 1) = decide (m < n) := by rw [decide_eq_decide]; omega
      simp [h0, e]
    · simp [h0]
theorem impl_ColumnOf_loop (a : List Int) (ha : RowsOk a) (hl : a.length ≤ 8) (m : Nat) (hm : m ≤ 63) : ∀ (d i k acc : Nat), i + d = a.length → d < k → acc < 2 ^ i → impl_ColumnOf.l0 k (m : Int) (acc : Int) a (a.length : Int) (i : Int) = some ((colFrom a m i d acc : Nat) : Int)
  | 0, i, k, acc, hi, hk, _ => by
    obtain ⟨k, rfl⟩ : ∃ m, k = m + 1 := ⟨k - 1, by omega⟩
    simp only [impl_ColumnOf.l0, colFrom]; rw [if_neg (by omega)]
  | d + 1, i, k, acc, hi, hk, hacc => by
    obtain ⟨k, rfl⟩ : ∃ m, k = m + 1 := ⟨k - 1, by omega⟩
    have h1 : i < a.length := by omega
    have hr := row_lt ha i
    have hp := pow_le8 (i := i) (by omega)
    have h2 : 2 ^ (i + 1) = 2 * 2 ^ i := by rw [Nat.pow_succ]; omega
    have hz : (if (row a i).testBit m then 2 ^ i else 0) = (if (row a i).testBit m then 1 else 0) * 2 ^ i := by cases (row a i).testBit m <;> simp
    have hz2 : (if (row a i).testBit m then 2 ^ i else 0) ≤ 2 ^ i := by cases (row a i).testBit m <;> simp
    simp only [impl_ColumnOf.l0, colFrom]
    rw [if_pos (by omega), if_pos (by omega), if_pos (by omega), if_pos (by omega), rd_row ha h1, shr_and_one _ _ (by omega) hm, shl_bit (by split <;> omega) (by omega), ← hz, or_nat _ _ (by omega) (by omega), wstep (n := a.length) (by omega) (by omega) (by omega), show (i : Int) + 1 = ((i + 1 : Nat) : Int) from by omega]
    exact impl_ColumnOf_loop a ha hl m hm d (i + 1) k _ (by omega) (by omega) (or_lt (by omega) (by omega))
/-- ColumnOf. -/
def columnI (n : Int) (a : List Int) (m : Int) : Int := if ctxB n a && decide (0 ≤ m ∧ m < n) then ((colN a m.toNat : Nat) : Int) else 0
theorem impl_ColumnOf_eq (n : Int) (a : List Int) (m : Int) {k : Nat} (hk : 9 ≤ k) : impl_ColumnOf.f k n a m = some (columnI n a m) := by
  unfold impl_ColumnOf.f columnI
  rw [impl_isAttribute_eq, Option.bind_some]
  cases h : (ctxB n a && decide (0 ≤ m ∧ m < n)) with
  | false => simp
  | true =>
    rw [Bool.and_eq_true, decide_eq_true_eq] at h
    have hc := ctxB_out h.1
    obtain ⟨m, rfl⟩ := Int.eq_ofNat_of_zero_le h.2.1
    rw [if_pos rfl, if_pos rfl]
    exact impl_ColumnOf_loop a (ctx_rows h.1) hc.2.2.1 m (by omega) a.length 0 k 0 (by omega) (by omega) (by simp)

/-- All columns. -/
def cols (n : Nat) (a : List Int) : List Int := (List.range n).map (fun m => ((colN a m : Nat) : Int))
theorem impl_columns_loop {n : Nat} {a : List Int} (h : ctxB (n : Int) a = true) : ∀ (d i k : Nat), i + d = n → d + 9 < k → impl_columns.l0 k (cols i a) (n : Int) (i : Int) (n : Int) a = some (cols n a)
  | 0, i, k, hi, hk => by
    obtain ⟨k, rfl⟩ : ∃ m, k = m + 1 := ⟨k - 1, by omega⟩
    simp only [impl_columns.l0]; rw [if_neg (by omega)]
    have : i = n := by omega
    rw [this]
  | d + 1, i, k, hi, hk => by
    obtain ⟨k, rfl⟩ : ∃ m, k = m + 1 := ⟨k - 1, by omega⟩
    have hc := ctxB_out h
    have hl : (cols i a).length = i := by unfold cols; rw [List.length_map, List.length_range]
    have e : columnI (n : Int) a (i : Int) = ((colN a i : Nat) : Int) := by
      unfold columnI
      rw [h, decide_eq_true (by omega : (0 : Int) ≤ (i : Int) ∧ (i : Int) < (n : Int))]; rfl
    have e2 : cols i a ++ [((colN a i : Nat) : Int)] = cols (i + 1) a := by unfold cols; rw [List.range_succ, List.map_append]; rfl
    simp only [impl_columns.l0]
    rw [if_pos (by omega), impl_ColumnOf_eq _ _ _ (by omega), Option.bind_some, if_pos (by omega), e, e2, wstep (n := n) (by omega) (by omega) (by omega), show (i : Int) + 1 = ((i + 1 : Nat) : Int) from by omega]
    exact impl_columns_loop h d (i + 1) k (by omega) (by omega)
theorem impl_columns_eq {n : Nat} {a : List Int} (h : ctxB (n : Int) a = true) {k : Nat} (hk : 20 ≤ k) : impl_columns.f k n a = some (cols n a) := by
  have hc := ctxB_out h
  unfold impl_columns.f
  exact impl_columns_loop h n 0 k (by omega) (by omega)

theorem cols_len (n : Nat) (a : List Int) : (cols n a).length = n := by unfold cols; rw [List.length_map, List.length_range]
theorem cols_row (n : Nat) (a : List Int) {m : Nat} (hm : m < n) : row (cols n a) m = colN a m := by
  unfold row cols
  rw [List.getD_eq_getElem?_getD, List.getElem?_eq_getElem (by rw [List.length_map, List.length_range]; exact hm), Option.getD_some, List.getElem_map, List.getElem_range, Int.toNat_natCast]
theorem cols_ok {n : Nat} {a : List Int} (h : ctxB (n : Int) a = true) : RowsOk (cols n a) := by
  intro x hx
  unfold cols at hx
  rw [List.mem_map] at hx
  obtain ⟨m, _, rfl⟩ := hx
  have h1 := colN_lt a m
  have h2 := pow_le8 (i := a.length) (by have := ctxB_out h; omega)
  omega
theorem common_extent {n : Nat} {a : List Int} {t : Nat} (ht : t < 2 ^ n) : andFrom (cols n a) t 0 (cols n a).length (2 ^ a.length - 1) = extentN a t := by
  apply Nat.eq_of_testBit_eq; intro g
  rw [Bool.eq_iff_iff, andFrom_bit, extentN_bit, full_bit, decide_eq_true_eq, cols_len]
  constructor
  · rintro ⟨h1, h2⟩
    refine ⟨h1, fun m hm => ?_⟩
    have hmn : m < n := by
      apply Decidable.byContradiction
      intro hlt
      rw [lt_bits ht (by omega)] at hm
      cases hm
    have := h2 m (Nat.zero_le _) (by omega) hm
    rw [cols_row n a hmn, colN_bit] at this
    exact this.2
  · rintro ⟨h1, h2⟩
    refine ⟨h1, fun m _ hm2 hb => ?_⟩
    rw [cols_row n a (by omega), colN_bit]
    exact ⟨h1, h2 m hb⟩
/-- ExtentOf. -/
def extentI (n : Int) (a : List Int) (t : Int) : Int := if ctxB n a && isSetB n t then ((extentN a t.toNat : Nat) : Int) else 0
theorem impl_ExtentOf_eq (n : Int) (a : List Int) (t : Int) {k : Nat} (hk : 20 ≤ k) : impl_ExtentOf.f k n a t = some (extentI n a t) := by
  unfold impl_ExtentOf.f extentI
  rw [impl_areAttributes_eq, Option.bind_some]
  cases h : (ctxB n a && isSetB n t) with
  | false => simp
  | true =>
    rw [if_pos rfl, if_pos rfl]
    rw [Bool.and_eq_true] at h
    have hc := ctxB_out h.1
    obtain ⟨m, rfl⟩ := Int.eq_ofNat_of_zero_le hc.1
    obtain ⟨t, rfl, h1, h2, h3⟩ := isSet_nat h.2
    have hf := full_bd (n := (a.length : Int)) (by omega) (by omega)
    rw [impl_columns_eq h.1 hk, Option.bind_some, impl_FullSet_eq, Option.bind_some]
    unfold fullSet
    rw [full_nat] at hf
    rw [if_pos (by omega), full_nat, impl_common_eq (cols_ok h.1) (by rw [cols_len]; omega) h3 (by omega) (by omega), common_extent h1]
    rfl

/-- ClosureOf. -/
def closureN (n : Nat) (a : List Int) (t : Nat) : Nat := intentN n a (extentN a t)
def closureI (n : Int) (a : List Int) (t : Int) : Int := if ctxB n a && isSetB n t then ((closureN n.toNat a t.toNat : Nat) : Int) else 0
theorem extent_set {a : List Int} (h : a.length ≤ 8) (t : Nat) : isSetB (a.length : Int) ((extentN a t : Nat) : Int) = true := isSet_mk h (extentN_lt a t)
theorem intent_set {n : Nat} (hn : n ≤ 8) (a : List Int) (s : Nat) : isSetB (n : Int) ((intentN n a s : Nat) : Int) = true := isSet_mk hn (intentN_lt n a s)
theorem extent_256 {a : List Int} (h : a.length ≤ 8) (t : Nat) : extentN a t < 256 := Nat.lt_of_lt_of_le (extentN_lt a t) (pow_le8 h)
theorem intent_256 {n : Nat} (hn : n ≤ 8) (a : List Int) (s : Nat) : intentN n a s < 256 := Nat.lt_of_lt_of_le (intentN_lt n a s) (pow_le8 hn)

theorem dif_zero {a b : Nat} (h : ∀ i, a.testBit i = true → b.testBit i = true) : dif a b = 0 := by
  apply Nat.eq_of_testBit_eq; intro i
  rw [dif_bit, Nat.zero_testBit]
  cases ha : a.testBit i
  · rfl
  · rw [h i ha]; rfl
theorem dif_sub {a b : Nat} (h : dif a b = 0) {i : Nat} (ha : a.testBit i = true) : b.testBit i = true := by
  have h1 := dif_bit a b i
  rw [h, Nat.zero_testBit, ha] at h1
  cases hb : b.testBit i
  · rw [hb] at h1; cases h1
  · rfl
theorem eq_bits {a b : Nat} (h : ∀ i, a.testBit i = true ↔ b.testBit i = true) : a = b := Nat.eq_of_testBit_eq fun i => Bool.eq_iff_iff.mpr (h i)
theorem sub_closure {n : Nat} {a : List Int} {t : Nat} (ht : t < 2 ^ n) {m : Nat} (hm : t.testBit m = true) : (closureN n a t).testBit m = true :=
  (intentN_bit n a _ m).2 ⟨Decidable.byContradiction fun hlt => absurd hm (by rw [lt_bits ht (by omega)]; decide), fun g _ hb => ((extentN_bit a t g).1 hb).2 m hm⟩
theorem extent_closure {n : Nat} {a : List Int} {t : Nat} (ht : t < 2 ^ n) : extentN a (closureN n a t) = extentN a t := by
  refine eq_bits fun g => ⟨fun h => ?_, fun h => ?_⟩
  · have h1 := (extentN_bit a _ g).1 h
    exact (extentN_bit a t g).2 ⟨h1.1, fun m hm => h1.2 m (sub_closure ht hm)⟩
  · have h1 := (extentN_bit a t g).1 h
    exact (extentN_bit a _ g).2 ⟨h1.1, fun m hm => ((intentN_bit n a _ m).1 hm).2 g h1.1 h⟩
theorem closure_lt (n : Nat) (a : List Int) (t : Nat) : closureN n a t < 2 ^ n := intentN_lt n a _
theorem closure_closure {n : Nat} {a : List Int} {t : Nat} (ht : t < 2 ^ n) : closureN n a (closureN n a t) = closureN n a t := by
  show intentN n a (extentN a (closureN n a t)) = intentN n a (extentN a t)
  rw [extent_closure ht]
theorem closure_mono {n : Nat} {a : List Int} {t u : Nat} (h : ∀ m, t.testBit m = true → u.testBit m = true) {m : Nat} (hm : (closureN n a t).testBit m = true) : (closureN n a u).testBit m = true := by
  have h1 := (intentN_bit n a _ m).1 hm
  refine (intentN_bit n a _ m).2 ⟨h1.1, fun g hg hb => h1.2 g hg ?_⟩
  have h2 := (extentN_bit a u g).1 hb
  exact (extentN_bit a t g).2 ⟨h2.1, fun m hm => h2.2 m (h m hm)⟩
/-- The least set that holds t lies in every closed set that holds t. -/
theorem closure_least {n : Nat} {a : List Int} {t u : Nat} (hc : closureN n a u = u) (h : ∀ m, t.testBit m = true → u.testBit m = true) {m : Nat} (hm : (closureN n a t).testBit m = true) : u.testBit m = true := by
  have := closure_mono h hm
  rw [hc] at this
  exact this

/-- The smallest element in which s and t differ is i, and t has it. -/
def LexAt (s t i : Nat) : Prop := s.testBit i = false ∧ t.testBit i = true ∧ ∀ j, j < i → s.testBit j = t.testBit j
theorem lex_rank {s t i : Nat} (hi : i < 8) (h : LexAt s t i) : rank s < rank t := by
  refine lt_of_bit (7 - i) ?_ ?_ fun j hj => ?_
  · rw [rank_bit, show 7 - (7 - i) = i from by omega, h.1, Bool.and_false]
  · rw [rank_bit, show 7 - (7 - i) = i from by omega, h.2.1, Bool.and_true]; exact decide_eq_true (by omega)
  · rw [rank_bit, rank_bit]
    by_cases h8 : j < 8
    · rw [h.2.2 (7 - j) (by omega)]
    · rw [decide_eq_false h8]; rfl
theorem lex_cases {s t : Nat} (hs : s < 256) (ht : t < 256) : s = t ∨ (∃ i, i < 8 ∧ LexAt s t i) ∨ (∃ i, i < 8 ∧ LexAt t s i) := by
  by_cases e : s = t
  · exact Or.inl e
  right
  obtain ⟨h1, h2, h3⟩ := tzN_spec (xor_ne e) (xor_256 hs ht)
  have hd : ∀ j, j < tzN (s ^^^ t) → s.testBit j = t.testBit j := fun j hj => by
    have := h3 j hj
    rw [Nat.testBit_xor] at this
    cases ha : s.testBit j <;> cases hb : t.testBit j <;> rw [ha, hb] at this <;> first | rfl | cases this
  rw [Nat.testBit_xor] at h2
  cases ha : s.testBit (tzN (s ^^^ t)) <;> cases hb : t.testBit (tzN (s ^^^ t)) <;> rw [ha, hb] at h2
  · cases h2
  · exact Or.inl ⟨_, h1, ha, hb, hd⟩
  · exact Or.inr ⟨_, h1, hb, ha, fun j hj => (hd j hj).symm⟩
  · cases h2
theorem rank_lex {s t : Nat} (hs : s < 256) (ht : t < 256) (h : rank s < rank t) : ∃ i, i < 8 ∧ LexAt s t i := by
  rcases lex_cases hs ht with e | e | ⟨i, hi, e⟩
  · subst e; omega
  · exact e
  · have := lex_rank hi e; omega
theorem rank_sub {s t : Nat} (hs : s < 256) (ht : t < 256) (h : ∀ i, s.testBit i = true → t.testBit i = true) : rank s ≤ rank t := by
  rcases lex_cases hs ht with e | ⟨i, hi, e⟩ | ⟨i, hi, e⟩
  · subst e; exact Nat.le_refl _
  · exact Nat.le_of_lt (lex_rank hi e)
  · have h1 := h i e.2.1
    rw [e.1] at h1; cases h1
/-- The elements of x below i. -/
def low (x i : Nat) : Nat := x &&& (2 ^ i - 1)
theorem low_bit2 (x i j : Nat) : (low x i).testBit j = (x.testBit j && decide (j < i)) := by unfold low; rw [Nat.testBit_and, full_bit]
/-- The closure of what x has below i, and i. -/
def stepC (n : Nat) (a : List Int) (x i : Nat) : Nat := closureN n a (low x i ||| 2 ^ i)
def stepOk (n : Nat) (a : List Int) (x i : Nat) : Bool := !x.testBit i && (low (stepC n a x i) i == low x i)
theorem low_or_lt {n x i : Nat} (hx : x < 2 ^ n) (hi : i < n) : low x i ||| 2 ^ i < 2 ^ n := or_lt (Nat.lt_of_le_of_lt Nat.and_le_left hx) (Nat.pow_lt_pow_right (by decide) hi)
theorem step_closed {n : Nat} {a : List Int} {x i : Nat} (hx : x < 2 ^ n) (hi : i < n) : closureN n a (stepC n a x i) = stepC n a x i := closure_closure (low_or_lt hx hi)
theorem step_has {n : Nat} {a : List Int} {x i : Nat} (hx : x < 2 ^ n) (hi : i < n) : (stepC n a x i).testBit i = true :=
  sub_closure (low_or_lt hx hi) (by rw [Nat.testBit_or, two_pow_bit, decide_eq_true rfl, Bool.or_true])
theorem step_agrees {n : Nat} {a : List Int} {x i : Nat} (h : stepOk n a x i = true) {j : Nat} (hj : j < i) : (stepC n a x i).testBit j = x.testBit j := by
  unfold stepOk at h
  rw [Bool.and_eq_true] at h
  have e : low (stepC n a x i) i = low x i := by simpa using h.2
  have e2 := congrArg (fun z => Nat.testBit z j) e
  simp only [low_bit2, decide_eq_true hj, Bool.and_true] at e2
  exact e2
theorem step_lex {n : Nat} {a : List Int} {x i : Nat} (hx : x < 2 ^ n) (hi : i < n) (h : stepOk n a x i = true) : LexAt x (stepC n a x i) i := by
  refine ⟨?_, step_has hx hi, fun j hj => (step_agrees h hj).symm⟩
  unfold stepOk at h
  rw [Bool.and_eq_true] at h
  simpa using h.1
theorem step_key {n : Nat} {a : List Int} {x s i : Nat} (hx : x < 2 ^ n) (hs : s < 2 ^ n) (hc : closureN n a s = s) (h : LexAt x s i) : i < n ∧ stepOk n a x i = true ∧ ∀ m, (stepC n a x i).testBit m = true → s.testBit m = true := by
  have hi : i < n := Decidable.byContradiction fun hlt => absurd h.2.1 (by rw [lt_bits hs (by omega)]; decide)
  have hsub : ∀ m, (stepC n a x i).testBit m = true → s.testBit m = true := fun m hm => closure_least hc (fun m hm => by
    rw [Nat.testBit_or, two_pow_bit, low_bit2, Bool.or_eq_true, Bool.and_eq_true] at hm
    rcases hm with ⟨h1, h2⟩ | h2
    · rw [← h.2.2 m (of_decide_eq_true h2)]; exact h1
    · have := of_decide_eq_true h2
      subst this; exact h.2.1) hm
  refine ⟨hi, ?_, hsub⟩
  unfold stepOk
  rw [h.1, Bool.not_false, Bool.true_and, beq_iff_eq]
  refine eq_bits fun j => ?_
  rw [low_bit2, low_bit2, Bool.and_eq_true, Bool.and_eq_true]
  constructor
  · rintro ⟨h1, h2⟩
    refine ⟨?_, h2⟩
    rw [h.2.2 j (of_decide_eq_true h2)]
    exact hsub j h1
  · rintro ⟨h1, h2⟩
    refine ⟨sub_closure (low_or_lt hx hi) ?_, h2⟩
    rw [Nat.testBit_or, low_bit2, h1, h2]; rfl
/-- The next closed set, as the specification seeks it: from above. -/
def nextFrom (n : Nat) (a : List Int) (x : Nat) : Nat → Option Nat
  | 0 => none
  | i + 1 => if stepOk n a x i then some (stepC n a x i) else nextFrom n a x i
theorem nextFrom_spec (n : Nat) (a : List Int) (x : Nat) : ∀ m, m ≤ n → match nextFrom n a x m with
    | none => ∀ i, i < m → stepOk n a x i = false
    | some c => ∃ i, i < m ∧ c = stepC n a x i ∧ stepOk n a x i = true ∧ ∀ j, i < j → j < m → stepOk n a x j = false
  | 0, _ => by simp only [nextFrom]; exact fun i hi => absurd hi (Nat.not_lt_zero _)
  | m + 1, hm => by
    have ih := nextFrom_spec n a x m (by omega)
    simp only [nextFrom]
    cases h : stepOk n a x m with
    | true => simp only [if_true]; exact ⟨m, by omega, rfl, h, fun j h1 h2 => by omega⟩
    | false =>
      simp only [Bool.false_eq_true, if_false]
      cases hn : nextFrom n a x m with
      | none =>
        rw [hn] at ih
        intro i hi
        by_cases e : i = m
        · subst e; exact h
        · exact ih i (by omega)
      | some c =>
        rw [hn] at ih
        obtain ⟨i, h1, h2, h3, h4⟩ := ih
        exact ⟨i, by omega, h2, h3, fun j hj hj2 => by
          by_cases e : j = m
          · subst e; exact h
          · exact h4 j hj (by omega)⟩
/-- Ganter: it is the least closed set behind x, in the lectic order. -/
theorem ganter {n : Nat} (hn : n ≤ 8) {a : List Int} {x : Nat} (hx : x < 2 ^ n) : match nextFrom n a x n with
    | none => ∀ s, s < 2 ^ n → closureN n a s = s → ¬ rank x < rank s
    | some c => c < 2 ^ n ∧ closureN n a c = c ∧ rank x < rank c ∧ ∀ s, s < 2 ^ n → closureN n a s = s → rank x < rank s → rank c ≤ rank s := by
  have h8 := pow_le8 hn
  have key := nextFrom_spec n a x n (Nat.le_refl _)
  cases h : nextFrom n a x n with
  | none =>
    rw [h] at key
    intro s hs hc hr
    obtain ⟨i, hi, hl⟩ := rank_lex (by omega) (by omega) hr
    obtain ⟨h1, h2, _⟩ := step_key hx hs hc hl
    have := key i h1
    rw [h2] at this; cases this
  | some c =>
    rw [h] at key
    obtain ⟨i, hi, rfl, hok, hmax⟩ := key
    have hcl := closure_lt n a (low x i ||| 2 ^ i)
    have hlt : stepC n a x i < 2 ^ n := hcl
    refine ⟨hlt, step_closed hx hi, lex_rank (by omega) (step_lex hx hi hok), fun s hs hc hr => ?_⟩
    obtain ⟨j, hj, hl⟩ := rank_lex (by omega) (by omega) hr
    obtain ⟨h1, h2, h3⟩ := step_key hx hs hc hl
    rcases Nat.lt_trichotomy j i with hji | hji | hji
    · refine Nat.le_of_lt (lex_rank hj ⟨?_, hl.2.1, fun m hm => ?_⟩)
      · rw [step_agrees hok hji]; exact hl.1
      · rw [step_agrees hok (by omega)]; exact hl.2.2 m hm
    · subst hji
      exact rank_sub (by omega) (by omega) h3
    · have := hmax j hji h1
      rw [h2] at this; cases this
/-- In a rising list the first that p takes is the least. -/
theorem find_least {p : Int → Bool} {l : List Int} (hl : l.Pairwise (fun s t => rankI s < rankI t)) {b : Int} (hb : b ∈ l) (hp : p b = true) (hm : ∀ s ∈ l, p s = true → rankI b ≤ rankI s) : l.find? p = some b := by
  induction l with
  | nil => cases hb
  | cons c l ih =>
    rw [List.pairwise_cons] at hl
    rw [List.find?_cons]
    rw [List.mem_cons] at hb
    rcases hb with rfl | hb
    · rw [hp]
    · cases hc : p c with
      | true => have := hm c List.mem_cons_self hc; have := hl.1 b hb; omega
      | false => exact ih hl.2 hb fun s hs hps => hm s (List.mem_cons_of_mem _ hs) hps

theorem lecticOf_congr {l l' : List Int} (h : ∀ x, 0 ≤ x ∧ x ≤ 255 → (x ∈ l ↔ x ∈ l')) : lecticOf l = lecticOf l' :=
  rising_eq _ _ (lecticOf_sorted l) (lecticOf_sorted l') fun x => by
    rw [lecticOf_mem, lecticOf_mem]
    exact ⟨fun hh => ⟨hh.1, (h x hh.1).1 hh.2⟩, fun hh => ⟨hh.1, (h x hh.1).2 hh.2⟩⟩
theorem lecticOf_len (l : List Int) : (lecticOf l).length ≤ 256 := by
  have h : lecticAll.length = 256 := by decide +kernel
  unfold lecticOf
  exact Nat.le_trans (List.length_filter_le _ _) (by omega)
def sortL (l : List Int) : List Int := if l.all (isSetB 8) then lecticOf l else []
theorem impl_SortLectic_eq (l : List Int) (hl : l.length ≤ 17592186044416) : impl_SortLectic.f l = some (sortL l) := by
  unfold impl_SortLectic.f sortL
  rw [if_pos hl]
  have e : l.any (fun x => !isSetB 8 x) = !l.all (isSetB 8) := by rw [List.all_eq_not_any_not, Bool.not_not]
  rw [e]
  cases l.all (isSetB 8) <;> simp
theorem sortL_len (l : List Int) : (sortL l).length ≤ 256 := by
  unfold sortL
  cases l.all (isSetB 8)
  · simp
  · exact lecticOf_len l

/-- The numbers below m. -/
def rangeI (m : Nat) : List Int := (List.range m).map (fun i : Nat => (i : Int))
theorem rangeI_len (m : Nat) : (rangeI m).length = m := by unfold rangeI; rw [List.length_map, List.length_range]
theorem rangeI_succ (m : Nat) : rangeI (m + 1) = rangeI m ++ [(m : Int)] := by unfold rangeI; rw [List.range_succ, List.map_append]; rfl
theorem rangeI_mem (m : Nat) (x : Int) : x ∈ rangeI m ↔ 0 ≤ x ∧ x < (m : Int) := by
  unfold rangeI
  rw [List.mem_map]
  constructor
  · rintro ⟨i, hi, rfl⟩
    rw [List.mem_range] at hi; omega
  · rintro ⟨h0, h1⟩
    exact ⟨x.toNat, by rw [List.mem_range]; omega, by omega⟩
theorem allSets_loop (m : Nat) (hm : m ≤ 256) (d : Nat) : ∀ (i k : Nat), i + d = m → d < k → impl_allSets.l0 k (rangeI i) (m : Int) (i : Int) = some (sortL (rangeI m)) := by
  induction d with
  | zero =>
    intro i k hi hk
    obtain ⟨k, rfl⟩ : ∃ m, k = m + 1 := ⟨k - 1, by omega⟩
    have e : i = m := by omega
    subst e
    simp only [impl_allSets.l0]
    rw [if_neg (by omega), impl_SortLectic_eq _ (by rw [rangeI_len]; omega)]; rfl
  | succ d ih =>
    intro i k hi hk
    obtain ⟨k, rfl⟩ : ∃ m, k = m + 1 := ⟨k - 1, by omega⟩
    have hw : wrap64 ((i : Int) + 1) = ((i + 1 : Nat) : Int) := by rw [w64 (by omega) (by omega)]; omega
    have hl := rangeI_len i
    simp only [impl_allSets.l0]
    rw [if_pos (by omega), if_pos (by omega), hw, ← rangeI_succ]
    exact ih (i + 1) k (by omega) (by omega)
/-- All sets of n elements, in lectic order. -/
def allN (n : Nat) : List Int := lecticOf (rangeI (2 ^ n))
theorem allSets_eq {n : Nat} (hn : n ≤ 8) {k : Nat} (hk : 257 ≤ k) : impl_allSets.f k (n : Int) = some (allN n) := by
  have h8 := pow_le8 hn
  unfold impl_allSets.f
  have e1 : shl .i64 1 (n : Int) = ((2 ^ n : Nat) : Int) := shl_one hn
  have e0 : rangeI 0 = [] := rfl
  have := allSets_loop (2 ^ n) h8 (2 ^ n) 0 k (by omega) (by omega)
  rw [e0] at this
  rw [if_pos (by omega), e1]
  refine this.trans ?_
  unfold sortL allN
  rw [if_pos]
  rw [List.all_eq_true]
  intro x hx
  have := (rangeI_mem _ _).1 hx
  rw [isSetB8]; exact decide_eq_true (by omega)
theorem allN_mem {n : Nat} (hn : n ≤ 8) (x : Int) : x ∈ allN n ↔ ∃ s : Nat, x = (s : Int) ∧ s < 2 ^ n := by
  have h8 := pow_le8 hn
  unfold allN
  rw [lecticOf_mem, rangeI_mem]
  constructor
  · rintro ⟨_, h0, h1⟩
    exact ⟨x.toNat, by omega, by omega⟩
  · rintro ⟨s, rfl, hs⟩
    omega
theorem allN_sorted (n : Nat) : (allN n).Pairwise (fun s t => rankI s < rankI t) := lecticOf_sorted _
theorem allN_len (n : Nat) : (allN n).length ≤ 256 := lecticOf_len _

theorem impl_ClosureOf_eq (n : Int) (a : List Int) (t : Int) {k : Nat} (hk : 20 ≤ k) : impl_ClosureOf.f k n a t = some (closureI n a t) := by
  unfold impl_ClosureOf.f closureI
  rw [impl_areAttributes_eq, Option.bind_some]
  cases h : (ctxB n a && isSetB n t) with
  | false => simp
  | true =>
    have h0 := h
    rw [Bool.and_eq_true] at h
    have hc := ctxB_out h.1
    obtain ⟨m, rfl⟩ := Int.eq_ofNat_of_zero_le hc.1
    obtain ⟨t, rfl, h1, h2, h3⟩ := isSet_nat h.2
    rw [if_pos rfl, if_pos rfl, impl_ExtentOf_eq _ _ _ hk, Option.bind_some, impl_IntentOf_eq _ _ _ (by omega), Option.bind_some]
    have e1 : extentI (m : Int) a (t : Int) = ((extentN a t : Nat) : Int) := by unfold extentI; rw [if_pos h0, Int.toNat_natCast]
    rw [e1]
    unfold intentI
    rw [h.1, extent_set hc.2.2.1, if_pos (by rfl)]
    rfl

def isClosedB (n : Int) (a : List Int) (t : Int) : Bool := (ctxB n a && isSetB n t) && (closureI n a t == t)
theorem impl_IsClosed_eq (n : Int) (a : List Int) (t : Int) {k : Nat} (hk : 20 ≤ k) : impl_IsClosed.f k n a t = some (isClosedB n a t) := by
  unfold impl_IsClosed.f isClosedB
  rw [impl_areAttributes_eq, Option.bind_some, impl_ClosureOf_eq _ _ _ hk]
  cases h : (ctxB n a && isSetB n t) <;> simp

/-- Of the closed sets the first behind x, in the lectic order. -/
def nextI (n : Nat) (a : List Int) (x : Nat) : Int × Bool := match nextFrom n a x n with
  | none => (0, false)
  | some c => ((c : Int), true)
/-- The closed sets, in the lectic order. -/
def closedL (n : Nat) (a : List Int) : List Int := (allN n).filter (fun s => isClosedB n a s)
theorem closedB_nat {n : Nat} {a : List Int} (h : ctxB (n : Int) a = true) {s : Nat} (hs : s < 2 ^ n) : isClosedB (n : Int) a (s : Int) = decide (closureN n a s = s) := by
  have hc := ctxB_out h
  unfold isClosedB closureI
  rw [h, isSet_mk (by omega) hs]
  show (((closureN n a s : Nat) : Int) == (s : Int)) = _
  by_cases e : closureN n a s = s
  · rw [e]; simp
  · rw [decide_eq_false e]
    exact beq_eq_false_iff_ne.mpr (by omega)
theorem before_nat {s t : Nat} (hs : s < 256) (ht : t < 256) : beforeI (s : Int) (t : Int) = decide (rank s < rank t) := by
  unfold beforeI
  have s1 : isSetB 8 (s : Int) = true := by rw [isSetB8]; exact decide_eq_true (by omega)
  have s2 : isSetB 8 (t : Int) = true := by rw [isSetB8]; exact decide_eq_true (by omega)
  rw [s1, s2, Int.toNat_natCast, Int.toNat_natCast, before_rank hs ht]; rfl
theorem find_next {n : Nat} {a : List Int} (h : ctxB (n : Int) a = true) {x : Nat} (hx : x < 2 ^ n) :
    (match (allN n).find? (fun s => beforeI (x : Int) s && isClosedB (n : Int) a s) with | none => ((0 : Int), false) | some s => (s, true)) = nextI n a x := by
  have hc := ctxB_out h
  have hn8 : n ≤ 8 := by omega
  have h8 := pow_le8 hn8
  have hg := ganter (n := n) hn8 (a := a) hx
  unfold nextI
  cases hf : nextFrom n a x n with
  | none =>
    rw [hf] at hg
    have e : (allN n).find? (fun s => beforeI (x : Int) s && isClosedB (n : Int) a s) = none := by
      rw [List.find?_eq_none]
      intro s hs hp
      obtain ⟨s, rfl, hs2⟩ := (allN_mem hn8 s).1 hs
      rw [before_nat (by omega) (by omega), closedB_nat h hs2, Bool.and_eq_true] at hp
      exact hg s hs2 (of_decide_eq_true hp.2) (of_decide_eq_true hp.1)
    rw [e]
  | some c =>
    rw [hf] at hg
    obtain ⟨h1, h2, h3, h4⟩ := hg
    have e : (allN n).find? (fun s => beforeI (x : Int) s && isClosedB (n : Int) a s) = some (c : Int) := by
      refine find_least (allN_sorted n) ((allN_mem hn8 _).2 ⟨c, rfl, h1⟩) ?_ ?_
      · rw [before_nat (by omega) (by omega), closedB_nat h h1, Bool.and_eq_true]
        exact ⟨decide_eq_true h3, decide_eq_true h2⟩
      · intro s hs hp
        obtain ⟨s, rfl, hs2⟩ := (allN_mem hn8 s).1 hs
        rw [before_nat (by omega) (by omega), closedB_nat h hs2, Bool.and_eq_true] at hp
        exact h4 s hs2 (of_decide_eq_true hp.2) (of_decide_eq_true hp.1)
    rw [e]

def conceptOf (a : List Int) (s : Int) : S31 := ⟨((extentN a s.toNat : Nat) : Int), s⟩
/-- The concepts, in the lectic order of their intents. -/
def conceptsL (n : Int) (a : List Int) : List S31 := if ctxB n a then (closedL n.toNat a).map (conceptOf a) else []
theorem closedL_mem {n : Nat} {a : List Int} (h : ctxB (n : Int) a = true) (x : Int) : x ∈ closedL n a ↔ ∃ s : Nat, x = (s : Int) ∧ s < 2 ^ n ∧ closureN n a s = s := by
  have hc := ctxB_out h
  unfold closedL
  rw [List.mem_filter, allN_mem (by omega)]
  constructor
  · rintro ⟨⟨s, rfl, hs⟩, h2⟩
    rw [closedB_nat h hs] at h2
    exact ⟨s, rfl, hs, of_decide_eq_true h2⟩
  · rintro ⟨s, rfl, hs, h2⟩
    exact ⟨⟨s, rfl, hs⟩, by rw [closedB_nat h hs]; exact decide_eq_true h2⟩
theorem closedL_sorted (n : Nat) (a : List Int) : (closedL n a).Pairwise (fun s t => rankI s < rankI t) := (allN_sorted n).filter _
theorem closedL_len (n : Nat) (a : List Int) : (closedL n a).length ≤ 256 := Nat.le_trans (List.length_filter_le _ _) (allN_len n)
theorem conceptsL_len (n : Int) (a : List Int) : (conceptsL n a).length ≤ 256 := by
  unfold conceptsL
  split
  · rw [List.length_map]; exact closedL_len _ _
  · exact Nat.zero_le _
def headOr : List Int → Int × Bool
  | [] => (0, false)
  | d :: _ => (d, true)
theorem next_closedL {n : Nat} {a : List Int} (h : ctxB (n : Int) a = true) {pre rest : List Int} {c : Int} (he : closedL n a = pre ++ c :: rest) : nextI n a c.toNat = headOr rest := by
  have hc := ctxB_out h
  have h8 := pow_le8 (i := n) (by omega)
  have hmem : c ∈ closedL n a := by rw [he]; exact List.mem_append_right _ List.mem_cons_self
  obtain ⟨s, rfl, hs, hcl⟩ := (closedL_mem h c).1 hmem
  rw [Int.toNat_natCast, ← find_next h hs]
  have e1 : (allN n).find? (fun t => beforeI (s : Int) t && isClosedB (n : Int) a t) = (closedL n a).find? (fun t => beforeI (s : Int) t) := by
    unfold closedL
    rw [List.find?_filter]
    congr 1
    funext t
    cases beforeI (s : Int) t <;> cases isClosedB (n : Int) a t <;> rfl
  have hb : ∀ t ∈ closedL n a, beforeI (s : Int) t = decide (rankI (s : Int) < rankI t) := fun t ht => by
    obtain ⟨t, rfl, ht2, _⟩ := (closedL_mem h t).1 ht
    exact before_nat (by omega) (by omega)
  have hsort := closedL_sorted n a
  rw [he, List.pairwise_append, List.pairwise_cons] at hsort
  rw [e1, he, List.find?_append]
  have e2 : pre.find? (fun t => beforeI (s : Int) t) = none := by
    rw [List.find?_eq_none]
    intro t ht
    rw [hb t (by rw [he]; exact List.mem_append_left _ ht)]
    have := hsort.2.2 t ht (s : Int) List.mem_cons_self
    simp; omega
  rw [e2, Option.none_or, List.find?_cons, hb (s : Int) hmem, decide_eq_false (Nat.lt_irrefl _)]
  cases rest with
  | nil => rfl
  | cons d rest =>
    rw [List.find?_cons, hb d (by rw [he]; exact List.mem_append_right _ (List.mem_cons_of_mem _ List.mem_cons_self)), decide_eq_true (hsort.2.1.1 d List.mem_cons_self)]
    rfl
theorem zero_first {n : Nat} {a : List Int} (h : ctxB (n : Int) a = true) : ∃ rest, closedL n a = ((closureN n a 0 : Nat) : Int) :: rest := by
  have hc := ctxB_out h
  have h8 := pow_le8 (i := n) (by omega)
  have hp := Nat.two_pow_pos n
  have hlt : closureN n a 0 < 2 ^ n := closure_lt n a 0
  have hmem : ((closureN n a 0 : Nat) : Int) ∈ closedL n a := (closedL_mem h _).2 ⟨_, rfl, hlt, closure_closure hp⟩
  have hsort := closedL_sorted n a
  cases hL : closedL n a with
  | nil => rw [hL] at hmem; cases hmem
  | cons d rest =>
    have hd : d ∈ closedL n a := by rw [hL]; exact List.mem_cons_self
    obtain ⟨s, rfl, hs, hcl⟩ := (closedL_mem h d).1 hd
    rw [hL] at hmem hsort
    rw [List.pairwise_cons] at hsort
    rw [List.mem_cons] at hmem
    rcases hmem with e | e
    · exact ⟨rest, by rw [e]⟩
    · have h1 := hsort.1 _ e
      unfold rankI at h1
      rw [Int.toNat_natCast, Int.toNat_natCast] at h1
      have h2 : rank (closureN n a 0) ≤ rank s := rank_sub (by omega) (by omega) fun i hi => closure_least hcl (fun m hm => by rw [Nat.zero_testBit] at hm; cases hm) hi
      omega

theorem spec_l2Has_eq {s e : Int} (hs0 : 0 ≤ s) (hs : s < 9223372036854775808) (he0 : 0 ≤ e) (he : e ≤ 63) : spec_l2Has.f s e = some (hasB s e) := by
  unfold spec_l2Has.f
  rw [u64_small he0 (by omega), if_pos he0, bit_int hs0 hs he0 he]

theorem spec_FullSet_eq (n : Int) : spec_FullSet.f n = some (fullSet n) := by
  unfold spec_FullSet.f spec_l1In.f fullSet
  by_cases h0 : 0 ≤ n
  · by_cases h1 : n ≤ 8
    · have hw := u64_small h0 (by omega)
      simp [h0, h1, hw, shl_full h0 h1]
    · simp [h0, h1]
  · simp [h0]

theorem spec_l4Intent_loop (n : Int) (a : List Int) (ha : RowsOk a) (hl : a.length ≤ 8) (s : Nat) (hs : s < 256) : ∀ (d i k acc : Nat), i + d = a.length → d < k → acc < 256 → spec_l4Intent.l0 k (s : Int) (acc : Int) (i : Int) n a = some ((andFrom a s i d acc : Nat) : Int)
  | 0, i, k, acc, hi, hk, _ => by
    obtain ⟨k, rfl⟩ : ∃ m, k = m + 1 := ⟨k - 1, by omega⟩
    simp only [spec_l4Intent.l0, andFrom]; rw [if_neg (by omega)]
  | d + 1, i, k, acc, hi, hk, hacc => by
    obtain ⟨k, rfl⟩ : ∃ m, k = m + 1 := ⟨k - 1, by omega⟩
    have h1 : i < a.length := by omega
    have hr := row_lt ha i
    simp only [spec_l4Intent.l0, andFrom]
    rw [if_pos (by omega), spec_l2Has_eq (by omega) (by omega) (by omega) (by omega), Option.bind_some, show hasB (s : Int) (i : Int) = s.testBit i from rfl, rd_row ha h1, and_nat _ _ (by omega) (by omega), wstep (n := a.length) (by omega) (by omega) (by omega), show (i : Int) + 1 = ((i + 1 : Nat) : Int) from by omega]
    cases hb : s.testBit i with
    | true =>
      rw [if_pos rfl, if_pos (by omega), if_pos rfl]
      exact spec_l4Intent_loop n a ha hl s hs d (i + 1) k _ (by omega) (by omega) (Nat.lt_of_le_of_lt Nat.and_le_left hacc)
    | false =>
      rw [if_neg (by simp), if_neg (by simp)]
      exact spec_l4Intent_loop n a ha hl s hs d (i + 1) k _ (by omega) (by omega) hacc
theorem spec_l4Intent_eq {n : Nat} {a : List Int} (h : ctxB (n : Int) a = true) {s : Nat} (hs : s < 256) {k : Nat} (hk : 9 ≤ k) : spec_l4Intent.f k n a s = some ((intentN n a s : Nat) : Int) := by
  have hc := ctxB_out h
  have hf := full_bd hc.1 (by omega)
  unfold spec_l4Intent.f
  rw [spec_FullSet_eq, Option.bind_some]
  unfold fullSet
  rw [full_nat] at hf
  rw [if_pos (by omega), full_nat]
  exact spec_l4Intent_loop n a (ctx_rows h) hc.2.2.1 s hs a.length 0 k _ (by omega) (by omega) (by omega)

theorem spec_l4Extent_loop (n : Int) (a : List Int) (ha : RowsOk a) (hl : a.length ≤ 8) (t : Nat) (ht : t < 256) : ∀ (d i k acc : Nat), i + d = a.length → d < k → acc < 2 ^ i → spec_l4Extent.l0 k (t : Int) (acc : Int) (i : Int) n a = some ((extFrom a t i d acc : Nat) : Int)
  | 0, i, k, acc, hi, hk, _ => by
    obtain ⟨k, rfl⟩ : ∃ m, k = m + 1 := ⟨k - 1, by omega⟩
    simp only [spec_l4Extent.l0, extFrom]; rw [if_neg (by omega)]
  | d + 1, i, k, acc, hi, hk, hacc => by
    obtain ⟨k, rfl⟩ : ∃ m, k = m + 1 := ⟨k - 1, by omega⟩
    have h1 : i < a.length := by omega
    have hr := row_lt ha i
    have hp := pow_le8 (i := i) (by omega)
    simp only [spec_l4Extent.l0, extFrom]
    rw [if_pos (by omega), if_pos (by omega), rd_row ha h1, and_nat _ _ (by omega) (by omega), u64_small (by omega) (by omega), if_pos (show (0 : Int) ≤ (i : Int) by omega), shl_one (by omega), or_nat _ _ (by omega) (by omega), wstep (n := a.length) (by omega) (by omega) (by omega), show (i : Int) + 1 = ((i + 1 : Nat) : Int) from by omega]
    have h2 : 2 ^ (i + 1) = 2 * 2 ^ i := by rw [Nat.pow_succ]; omega
    by_cases hb : row a i &&& t = t
    · rw [if_pos (by omega), if_pos hb]
      exact spec_l4Extent_loop n a ha hl t ht d (i + 1) k _ (by omega) (by omega) (or_lt (by omega) (by omega))
    · rw [if_neg (by omega), if_neg hb]
      exact spec_l4Extent_loop n a ha hl t ht d (i + 1) k _ (by omega) (by omega) (by omega)
theorem spec_l4Extent_eq {n : Int} {a : List Int} (h : ctxB n a = true) {t : Nat} (ht : t < 256) {k : Nat} (hk : 9 ≤ k) : spec_l4Extent.f k n a t = some ((extentN a t : Nat) : Int) := by
  have hc := ctxB_out h
  unfold spec_l4Extent.f
  exact spec_l4Extent_loop n a (ctx_rows h) hc.2.2.1 t ht a.length 0 k 0 (by omega) (by omega) (by simp)

theorem spec_l4Closure_eq {n : Nat} {a : List Int} (h : ctxB (n : Int) a = true) {t : Nat} (ht : t < 256) {k : Nat} (hk : 9 ≤ k) : spec_l4Closure.f k n a t = some ((closureN n a t : Nat) : Int) := by
  have hc := ctxB_out h
  unfold spec_l4Closure.f
  rw [spec_l4Extent_eq h ht hk, Option.bind_some, spec_l4Intent_eq h (extent_256 hc.2.2.1 t) hk]
  rfl

theorem fullSet_nat {i : Nat} (hi : i ≤ 8) : fullSet (i : Int) = ((2 ^ i - 1 : Nat) : Int) := by unfold fullSet; rw [if_pos (by omega), full_nat]
theorem l5Next_loop {n : Nat} {a : List Int} (h : ctxB (n : Int) a = true) {x : Nat} (hx : x < 2 ^ n) : ∀ (m k : Nat), m ≤ n → m + 20 ≤ k → spec_l5Next.l0 k (x : Int) ((m : Int) - 1) (n : Int) a = some (match nextFrom n a x m with | none => (0, false) | some c => ((c : Int), true))
  | 0, k, hm, hk => by
    obtain ⟨k, rfl⟩ : ∃ m, k = m + 1 := ⟨k - 1, by omega⟩
    simp only [spec_l5Next.l0]; rw [if_neg (by omega)]; rfl
  | m + 1, k, hm, hk => by
    obtain ⟨k, rfl⟩ : ∃ m, k = m + 1 := ⟨k - 1, by omega⟩
    have hc := ctxB_out h
    have hn8 : n ≤ 6 := by omega
    have h8 := pow_le8 (i := n) (by omega)
    have h8m := pow_le8 (i := m) (by omega)
    have hpm := Nat.two_pow_pos m
    have hm8 : m ≤ 8 := by omega
    have ih := l5Next_loop h hx m k (by omega) (by omega)
    have ex : ((m + 1 : Nat) : Int) - 1 = (m : Int) := by omega
    have ew : wrap64 ((m : Int) - 1) = (m : Int) - 1 := w64 (by omega) (by omega)
    have eu : IntKind.u64.wrap (m : Int) = (m : Int) := u64_small (by omega) (by omega)
    simp only [spec_l5Next.l0]
    rw [ex, if_pos (by omega), ew, ih, spec_l2Has_eq (by omega) (by omega) (by omega) (by omega), Option.bind_some]
    simp only [nextFrom]
    unfold stepOk
    rw [show hasB (x : Int) (m : Int) = x.testBit m from rfl]
    cases hb : x.testBit m with
    | true => rw [if_pos rfl]; rfl
    | false =>
      have e1 : Go.bits .and .i64 (x : Int) ((2 ^ m - 1 : Nat) : Int) = ((low x m : Nat) : Int) := and_nat _ _ (by omega) (by omega)
      have hlow : low x m < 256 := Nat.lt_of_le_of_lt Nat.and_le_left (by omega)
      have hpow : 2 ^ m < 2 ^ n := Nat.pow_lt_pow_right (by decide) (by omega)
      have e2 : Go.bits .or .i64 ((low x m : Nat) : Int) ((2 ^ m : Nat) : Int) = ((low x m ||| 2 ^ m : Nat) : Int) := or_nat _ _ (by omega) (by omega)
      have hor := low_or_lt (i := m) hx (by omega)
      have hcl : closureN n a (low x m ||| 2 ^ m) < 2 ^ n := closure_lt n a _
      have e3 : Go.bits .and .i64 ((closureN n a (low x m ||| 2 ^ m) : Nat) : Int) ((2 ^ m - 1 : Nat) : Int) = ((low (stepC n a x m) m : Nat) : Int) := and_nat _ _ (by omega) (by omega)
      rw [if_neg (by decide), spec_FullSet_eq, Option.bind_some, fullSet_nat hm8, eu, if_pos (by omega), e1, shl_one hm8, e2, spec_l4Closure_eq h (by omega) (by omega), Option.bind_some, Option.bind_some, e3]
      by_cases he : low (stepC n a x m) m = low x m
      · rw [if_pos (by rw [he]), he]; simp; rfl
      · have hne : ¬ ((low (stepC n a x m) m : Nat) : Int) = ((low x m : Nat) : Int) := by omega
        rw [if_neg hne]
        have hb2 : (low (stepC n a x m) m == low x m) = false := by simpa using he
        rw [hb2]; rfl
theorem l5Next_eq {n : Nat} {a : List Int} (h : ctxB (n : Int) a = true) {x : Nat} (hx : x < 2 ^ n) {k : Nat} (hk : 30 ≤ k) : spec_l5Next.f k (n : Int) a (x : Int) = some (nextI n a x) := by
  have hc := ctxB_out h
  unfold spec_l5Next.f
  rw [w64 (by omega) (by omega)]
  exact l5Next_loop h hx n k (Nat.le_refl _) (by omega)

theorem spec_l5Concept_eq {n : Nat} {a : List Int} (h : ctxB (n : Int) a = true) {t : Nat} (ht : t < 256) {k : Nat} (hk : 9 ≤ k) : spec_l5Concept.f k n a t = some (((extentN a t : Nat) : Int), ((closureN n a t : Nat) : Int)) := by
  have hc := ctxB_out h
  unfold spec_l5Concept.f
  rw [spec_l4Extent_eq h ht hk, Option.bind_some, spec_l4Intent_eq h (extent_256 hc.2.2.1 t) hk]
  rfl

theorem spec_Concepts_loop {n : Nat} {a : List Int} (h : ctxB (n : Int) a = true) : ∀ (rest pre : List Int) (c : Int) (k : Nat) (out : List S31), closedL n a = pre ++ c :: rest → rest.length + 40 ≤ k → out.length + rest.length ≤ 256 →
    spec_Concepts.l0 k out c (n : Int) a = some (out ++ (c :: rest).map (conceptOf a))
  | rest, pre, c, k, out, he, hk, hl => by
    obtain ⟨k, rfl⟩ : ∃ m, k = m + 1 := ⟨k - 1, by omega⟩
    have hc := ctxB_out h
    have h8 := pow_le8 (i := n) (by omega)
    obtain ⟨s, rfl, hs, hcl⟩ := (closedL_mem h c).1 (by rw [he]; exact List.mem_append_right _ List.mem_cons_self)
    have hnx := next_closedL h he
    rw [Int.toNat_natCast] at hnx
    have hlt : out.length < 8796093022208 := by omega
    simp only [spec_Concepts.l0]
    rw [spec_l5Concept_eq h (by omega) (by omega), Option.bind_some, if_pos hlt, Option.bind_some, l5Next_eq h hs (by omega), Option.bind_some, hnx, hcl]
    have e0 : (⟨((extentN a s : Nat) : Int), (s : Int)⟩ : S31) = conceptOf a (s : Int) := rfl
    cases rest with
    | nil =>
      simp only [headOr, Bool.false_eq_true, if_false]
      rw [e0]; rfl
    | cons d rest =>
      simp only [headOr, if_true]
      rw [e0, spec_Concepts_loop h rest (pre ++ [(s : Int)]) d k _ (by rw [he, List.append_assoc]; rfl) (by rw [List.length_cons] at hk; omega) (by rw [List.length_append, List.length_singleton]; rw [List.length_cons] at hl; omega)]
      rw [List.append_assoc]; rfl
theorem spec_Concepts_eq (n : Int) (a : List Int) (hn : a.length ≤ 281474976710656) {k : Nat} (hk : a.length + 400 ≤ k) : spec_Concepts.f k n a = some (conceptsL n a) := by
  unfold spec_Concepts.f conceptsL
  rw [Option.bind_some, spec_IsContext_eq n a hn (by omega), Option.bind_some]
  cases h : ctxB n a with
  | false => simp
  | true =>
    have hb := ctxB_out h
    obtain ⟨n, rfl⟩ := Int.eq_ofNat_of_zero_le hb.1
    obtain ⟨rest, hr⟩ := zero_first h
    have e0 : spec_l4Closure.f k (n : Int) a 0 = some ((closureN n a 0 : Nat) : Int) := spec_l4Closure_eq h (t := 0) (by decide) (by omega)
    have hlen := closedL_len n a
    rw [hr, List.length_cons] at hlen
    rw [if_pos rfl, if_pos rfl, e0, Option.bind_some, spec_Concepts_loop h rest [] _ k [] hr (by omega) (by rw [List.length_nil]; omega), Int.toNat_natCast, hr]
    rfl

theorem l4Attributes_ok (l : List Int) (hm : l.length ≤ maxLen) {k : Nat} (hk : 4001 ≤ k) : ∃ n rs s, spec_l4Attributes.f k l = some (n, rs, s) ∧ rs.length ≤ 9 := by
  unfold spec_l4Attributes.f
  obtain ⟨s0, e0⟩ := l1New_ok l hm hk
  rw [e0]; simp only [Option.bind_some]
  obtain ⟨n, rs, i1, s1, e1, h1, hl⟩ := l3Draw_ok l hm 0 s0 (by decide) (k := k) (by omega)
  rw [e1]; simp only [Option.bind_some]
  rw [if_pos (u64_nonneg _)]
  obtain ⟨a, i2, s2, e2, h2, _⟩ := l1Below_ok l hm i1 s1 (shl .i64 1 (IntKind.u64.wrap n)) h1
  rw [e2]; simp only [Option.bind_some]
  obtain ⟨c, i3, s3, e3, h3, _⟩ := l1Below_ok l hm i2 s2 16 h2
  rw [e3]; simp only [Option.bind_some]
  by_cases c0 : c = 0
  · rw [if_pos c0]
    obtain ⟨n', rs', i4, s4, e4, _, hl4⟩ := l3Bent_ok l hm i3 s3 h3 (k := k) (by omega)
    rw [e4]; exact ⟨_, _, _, rfl, hl4⟩
  rw [if_neg c0]
  by_cases c1 : c = 1
  · rw [if_pos c1]
    obtain ⟨b, i4, s4, e4, _⟩ := l2Bent_ok l hm i3 s3 h3
    rw [e4]; exact ⟨_, _, _, rfl, by show rs.length ≤ 9; omega⟩
  · rw [if_neg c1]; exact ⟨_, _, _, rfl, by show rs.length ≤ 9; omega⟩
theorem DrawConcepts_ok (l : List Int) (hm : l.length ≤ maxLen) {k : Nat} (hk : 4001 ≤ k) : ∃ n rs, spec_DrawConcepts.f k l = some (n, rs) ∧ rs.length ≤ 9 := by
  unfold spec_DrawConcepts.f
  obtain ⟨s0, e0⟩ := l1New_ok l hm hk
  rw [e0]; simp only [Option.bind_some]
  obtain ⟨n, rs, i1, s1, e1, h1, hl⟩ := l3Bent_ok l hm 0 s0 (by decide) (k := k) (by omega)
  rw [e1]; exact ⟨_, _, rfl, hl⟩
theorem DrawNextClosed_ok (l : List Int) (hm : l.length ≤ maxLen) {k : Nat} (hk : 4001 ≤ k) : ∃ n rs s, spec_DrawNextClosed.f k l = some (n, rs, s) ∧ rs.length ≤ 9 := by
  unfold spec_DrawNextClosed.f
  obtain ⟨n, rs, s, e, h⟩ := l4Attributes_ok l hm hk
  rw [e]; exact ⟨_, _, _, rfl, h⟩
theorem DrawConceptAt_ok (l : List Int) (hm : l.length ≤ maxLen) {k : Nat} (hk : 4001 ≤ k) : ∃ n rs s, spec_DrawConceptAt.f k l = some (n, rs, s) ∧ rs.length ≤ 9 := by
  unfold spec_DrawConceptAt.f
  obtain ⟨n, rs, s, e, h⟩ := l4Attributes_ok l hm hk
  rw [e]; exact ⟨_, _, _, rfl, h⟩
theorem DrawObjectConcept_ok (l : List Int) (hm : l.length ≤ maxLen) {k : Nat} (hk : 4001 ≤ k) : ∃ n rs m, spec_DrawObjectConcept.f k l = some (n, rs, m) ∧ rs.length ≤ 9 := by
  unfold spec_DrawObjectConcept.f spec_DrawColumnOf.f
  obtain ⟨s0, e0⟩ := l1New_ok l hm hk
  rw [e0]; simp only [Option.bind_some]
  obtain ⟨n, rs, i1, s1, e1, h1, hl⟩ := l3Bent_ok l hm 0 s0 (by decide) (k := k) (by omega)
  rw [e1]; simp only [Option.bind_some]
  obtain ⟨a, i2, s2, e2, h2, _⟩ := l1Below_ok l hm i1 s1 8 h1
  rw [e2]; exact ⟨_, _, _, rfl, hl⟩
theorem DrawConceptText_ok (l : List Int) (hm : l.length ≤ maxLen) {k : Nat} (hk : 4001 ≤ k) : ∃ e i, spec_DrawConceptText.f k l = some (e, i) := by
  unfold spec_DrawConceptText.f
  obtain ⟨s0, e0⟩ := l1New_ok l hm hk
  rw [e0]; simp only [Option.bind_some]
  obtain ⟨r, i1, s1, e1, h1⟩ := l2Bent_ok l hm 0 s0 (by decide)
  rw [e1]; simp only [Option.bind_some]
  obtain ⟨r2, i2, s2, e2, h2⟩ := l2Bent_ok l hm i1 s1 h1
  rw [e2]; exact ⟨_, _, rfl⟩
theorem DrawIsConcept_j0 (l : List Int) (hm : l.length ≤ maxLen) (L : List S31) (hL : L.length ≤ 256) (c : Bool) (hc : c = false → ¬ (L.length : Int) = 0) (i s n : Int) (rs : List Int) (hi : 0 ≤ i) {k : Nat} (hk : 1 ≤ k) :
    ∃ e t, spec_DrawIsConcept.j0 k L c l i s n rs = some (n, rs, e, t) := by
  obtain ⟨k, rfl⟩ : ∃ m, k = m + 1 := ⟨k - 1, by omega⟩
  simp only [spec_DrawIsConcept.j0]
  cases c with
  | true =>
    rw [if_pos rfl]
    obtain ⟨r, i1, s1, e1, h1⟩ := l2Bent_ok l hm i s hi
    rw [e1]; simp only [Option.bind_some]
    obtain ⟨r2, i2, s2, e2, h2⟩ := l2Bent_ok l hm i1 s1 h1
    rw [e2]; exact ⟨_, _, rfl⟩
  | false =>
    have h0 := hc rfl
    rw [if_neg (by decide)]
    obtain ⟨b, i1, s1, e1, h1, h2⟩ := l1Below_ok l hm i s (L.length : Int) hi
    have h3 := h2 (by omega) (by omega)
    rw [e1]; simp only [Option.bind_some]
    rw [if_pos h3.1, if_pos h3.2]; exact ⟨_, _, rfl⟩
theorem DrawIsConcept_ok (l : List Int) (hm : l.length ≤ maxLen) {k : Nat} (hk : 4001 ≤ k) : ∃ n rs e t, spec_DrawIsConcept.f k l = some (n, rs, e, t) ∧ rs.length ≤ 9 := by
  unfold spec_DrawIsConcept.f
  obtain ⟨s0, e0⟩ := l1New_ok l hm hk
  rw [e0]; simp only [Option.bind_some]
  obtain ⟨n, rs, i1, s1, e1, h1, hl⟩ := l3Bent_ok l hm 0 s0 (by decide) (k := k) (by omega)
  rw [e1]; simp only [Option.bind_some]
  rw [spec_Concepts_eq n rs (by omega) (by omega)]; simp only [Option.bind_some]
  have hL := conceptsL_len n rs
  generalize conceptsL n rs = L at hL
  by_cases h0 : (L.length : Int) = 0
  · rw [if_pos h0]
    obtain ⟨e, t, h⟩ := DrawIsConcept_j0 l hm L hL true (fun h => by cases h) i1 s1 n rs h1 (k := k) (by omega)
    exact ⟨_, _, _, _, h, hl⟩
  · rw [if_neg h0]
    obtain ⟨c, i2, s2, e2, h2⟩ := l1Once_ok l hm i1 s1 4 h1
    rw [e2]; simp only [Option.bind_some]
    obtain ⟨e, t, h⟩ := DrawIsConcept_j0 l hm L hL c (fun _ => h0) i2 s2 n rs h2 (k := k) (by omega)
    exact ⟨_, _, _, _, h, hl⟩

theorem impl_Concepts_loop (n : Int) (a : List Int) (hc : ctxB n a = true) (l : List Int) (hl : l.length ≤ 256) (hs : ∀ s ∈ l, isSetB n s = true) (d : Nat) : ∀ (i k : Nat) (out : List S31), i + d = l.length → d + 40 < k → out.length ≤ i →
    impl_Concepts.l0 k out l (l.length : Int) (i : Int) n a = some (out ++ ((l.drop i).filter (fun s => isClosedB n a s)).map (conceptOf a)) := by
  induction d with
  | zero =>
    intro i k out hi hk ho
    obtain ⟨k, rfl⟩ : ∃ m, k = m + 1 := ⟨k - 1, by omega⟩
    simp only [impl_Concepts.l0]
    rw [if_neg (by omega), List.drop_of_length_le (by omega)]; simp
  | succ d ih =>
    intro i k out hi hk ho
    obtain ⟨k, rfl⟩ : ∃ m, k = m + 1 := ⟨k - 1, by omega⟩
    have h1 : i < l.length := by omega
    have hw : wrap64 ((i : Int) + 1) = ((i + 1 : Nat) : Int) := by rw [w64 (by omega) (by omega)]; omega
    have hlt : out.length < 8796093022208 := by omega
    simp only [impl_Concepts.l0]
    rw [if_pos (by omega), if_pos (by omega), if_pos (by omega), rd_nat l i h1, impl_IsClosed_eq _ _ _ (by omega), Option.bind_some, impl_ExtentOf_eq _ _ _ (by omega), Option.bind_some, if_pos hlt, hw, List.drop_eq_getElem_cons h1, List.filter_cons]
    cases hq : isClosedB n a l[i] with
    | false =>
      simp only [Bool.false_eq_true, if_false]
      exact ih (i + 1) k out (by omega) (by omega) (by omega)
    | true =>
      simp only [if_true]
      have e0 : (⟨extentI n a l[i], l[i]⟩ : S31) = conceptOf a l[i] := by
        unfold extentI conceptOf
        rw [hc, hs _ (List.getElem_mem h1)]; rfl
      rw [e0, ih (i + 1) k _ (by omega) (by omega) (by rw [List.length_append, List.length_singleton]; omega), List.append_assoc]
      rfl
theorem impl_Concepts_eq (n : Int) (a : List Int) {k : Nat} (hk : 400 ≤ k) : impl_Concepts.f k n a = some (conceptsL n a) := by
  unfold impl_Concepts.f conceptsL
  rw [impl_IsContext_eq, Option.bind_some]
  cases h : ctxB n a with
  | false => simp
  | true =>
    have hb := ctxB_out h
    obtain ⟨n, rfl⟩ := Int.eq_ofNat_of_zero_le hb.1
    rw [if_pos rfl, if_pos rfl, allSets_eq (by omega) (by omega), Option.bind_some]
    have hset : ∀ s ∈ allN n, isSetB (n : Int) s = true := fun s hs => by
      obtain ⟨s, rfl, h2⟩ := (allN_mem (by omega) s).1 hs
      exact isSet_mk (by omega) h2
    have e := impl_Concepts_loop (n : Int) a h (allN n) (allN_len n) hset (allN n).length 0 k [] (by omega) (by have := allN_len n; omega) (by simp)
    refine e.trans ?_
    rw [List.drop_zero, List.nil_append]
    rfl

def isConceptB (n : Int) (a : List Int) (e i : Int) : Bool := (ctxB n a && isSetB a.length e) && ((ctxB n a && isSetB n i) && ((intentI n a e == i) && (extentI n a i == e)))
theorem impl_IsConcept_eq (n : Int) (a : List Int) (e i : Int) {k : Nat} (hk : 20 ≤ k) : impl_IsConcept.f k n a e i = some (isConceptB n a e i) := by
  unfold impl_IsConcept.f isConceptB
  rw [impl_areObjects_eq, impl_areAttributes_eq, impl_IntentOf_eq _ _ _ (by omega), impl_ExtentOf_eq _ _ _ hk]
  cases (ctxB n a && isSetB (a.length : Int) e)
  · simp
  · cases (ctxB n a && isSetB n i)
    · simp
    · by_cases h : intentI n a e = i <;> simp [h]

theorem spec_IsConcept_eq (n : Int) (a : List Int) (e i : Int) (hn : a.length ≤ 281474976710656) {k : Nat} (hk : a.length + 9 ≤ k) : spec_IsConcept.f k n a e i = some (isConceptB n a e i) := by
  unfold spec_IsConcept.f isConceptB
  rw [spec_IsContext_eq n a hn (by omega), Option.bind_some, spec_IsSet_eq, spec_IsSet_eq]
  cases h1 : ctxB n a with
  | false => simp
  | true =>
    cases h2 : isSetB (a.length : Int) e with
    | false => simp
    | true =>
      cases h3 : isSetB n i with
      | false => simp
      | true =>
        have hc := ctxB_out h1
        have e1 : intentI n a e = ((intentN n.toNat a e.toNat : Nat) : Int) := by unfold intentI; rw [h1, h2, if_pos (by rfl)]
        have e2 : extentI n a i = ((extentN a i.toNat : Nat) : Int) := by unfold extentI; rw [h1, h3, if_pos (by rfl)]
        obtain ⟨m, rfl⟩ := Int.eq_ofNat_of_zero_le hc.1
        obtain ⟨s, rfl, _, _, h6⟩ := isSet_nat h2
        obtain ⟨t, rfl, _, _, h7⟩ := isSet_nat h3
        rw [e1, e2, spec_l4Intent_eq h1 h6 (by omega), spec_l4Extent_eq h1 h7 (by omega)]
        simp only [if_true, Option.bind_some, Int.toNat_natCast, Bool.true_and]
        by_cases hh : ((intentN m a s : Nat) : Int) = (t : Int) <;> simp [hh]

def conceptAtI (n : Int) (a : List Int) (t : Int) : Int × Int × Bool := if ctxB n a && isSetB n t then (extentI n a t, closureI n a t, true) else (0, 0, false)
theorem impl_ConceptAt_eq (n : Int) (a : List Int) (t : Int) {k : Nat} (hk : 20 ≤ k) : impl_ConceptAt.f k n a t = some (conceptAtI n a t) := by
  unfold impl_ConceptAt.f conceptAtI
  rw [impl_areAttributes_eq, Option.bind_some, impl_ExtentOf_eq _ _ _ hk, impl_ClosureOf_eq _ _ _ hk]
  cases (ctxB n a && isSetB n t) <;> simp
theorem conceptAt_nat {n : Nat} {a : List Int} (h : ctxB (n : Int) a = true) {t : Nat} (ht : t < 2 ^ n) : conceptAtI n a t = (((extentN a t : Nat) : Int), ((closureN n a t : Nat) : Int), true) := by
  have hc := ctxB_out h
  have h2 := isSet_mk (n := n) (t := t) (by omega) ht
  unfold conceptAtI extentI closureI
  rw [h, h2]; rfl

theorem spec_ConceptAt_eq (n : Int) (a : List Int) (t : Int) (hn : a.length ≤ 281474976710656) {k : Nat} (hk : a.length + 9 ≤ k) : spec_ConceptAt.f k n a t = some (conceptAtI n a t) := by
  unfold spec_ConceptAt.f
  rw [spec_IsContext_eq n a hn (by omega), Option.bind_some]
  cases h1 : ctxB n a with
  | false => simp [conceptAtI, h1]
  | true =>
    rw [if_pos rfl, spec_IsSet_eq, Option.bind_some]
    cases h2 : isSetB n t with
    | false => simp [conceptAtI, h2]
    | true =>
      have hc := ctxB_out h1
      obtain ⟨m, rfl⟩ := Int.eq_ofNat_of_zero_le hc.1
      obtain ⟨t, rfl, h3, h4, h5⟩ := isSet_nat h2
      rw [if_pos rfl, spec_l5Concept_eq h1 h5 (by omega), conceptAt_nat h1 h3]
      rfl

def objClosureI (n : Int) (a : List Int) (s : Int) : Int := if ctxB n a && isSetB a.length s then ((extentN a (intentN n.toNat a s.toNat) : Nat) : Int) else 0
theorem impl_ObjectClosure_eq (n : Int) (a : List Int) (s : Int) {k : Nat} (hk : 20 ≤ k) : impl_ObjectClosure.f k n a s = some (objClosureI n a s) := by
  unfold impl_ObjectClosure.f objClosureI
  rw [impl_areObjects_eq, Option.bind_some]
  cases h : (ctxB n a && isSetB (a.length : Int) s) with
  | false => simp
  | true =>
    have h0 := h
    rw [Bool.and_eq_true] at h
    have hc := ctxB_out h.1
    obtain ⟨m, rfl⟩ := Int.eq_ofNat_of_zero_le hc.1
    obtain ⟨t, rfl, h1, h2, h3⟩ := isSet_nat h.2
    rw [if_pos rfl, if_pos rfl, impl_IntentOf_eq _ _ _ (by omega), Option.bind_some, impl_ExtentOf_eq _ _ _ hk, Option.bind_some]
    have e1 : intentI (m : Int) a (t : Int) = ((intentN m a t : Nat) : Int) := by unfold intentI; rw [if_pos h0, Int.toNat_natCast, Int.toNat_natCast]
    rw [e1]
    unfold extentI
    rw [h.1, intent_set (by omega), if_pos (by rfl)]
    rfl

theorem row_bit_lt {n : Nat} {a : List Int} (h : ctxB (n : Int) a = true) {g m : Nat} (hb : (row a g).testBit m = true) : m < n := by
  apply Decidable.byContradiction
  intro hlt
  rw [lt_bits (ctx_row_lt h g) (by omega)] at hb
  cases hb
/-- The object concept's intent is its row. -/
theorem intent_one {n : Nat} {a : List Int} (h : ctxB (n : Int) a = true) {g : Nat} (hg : g < a.length) : intentN n a (2 ^ g) = row a g := by
  apply Nat.eq_of_testBit_eq; intro m
  rw [Bool.eq_iff_iff, intentN_bit]
  constructor
  · rintro ⟨_, h2⟩
    exact h2 g hg (by rw [two_pow_bit]; simp)
  · intro hb
    refine ⟨row_bit_lt h hb, fun i _ hi => ?_⟩
    rw [two_pow_bit, decide_eq_true_eq] at hi
    subst hi; exact hb
/-- Closing twice is closing once, from an object's row on. -/
theorem closure_row {n : Nat} {a : List Int} (h : ctxB (n : Int) a = true) {g : Nat} (hg : g < a.length) : closureN n a (row a g) = row a g := by
  apply Nat.eq_of_testBit_eq; intro m
  unfold closureN
  rw [Bool.eq_iff_iff, intentN_bit]
  constructor
  · rintro ⟨_, h2⟩
    exact h2 g hg ((extentN_bit a _ g).2 ⟨hg, fun _ hm => hm⟩)
  · intro hb
    refine ⟨row_bit_lt h hb, fun i _ hi => ?_⟩
    exact ((extentN_bit a _ i).1 hi).2 m hb

theorem impl_isObject_eq (n : Int) (a : List Int) (g : Int) (hn : a.length ≤ 281474976710656) : impl_isObject.f n a g = some (ctxB n a && decide (0 ≤ g ∧ g < a.length)) := by
  unfold impl_isObject.f impl_within.f
  rw [impl_IsContext_eq, Option.bind_some, w64 (by omega) (by omega)]
  cases h : ctxB n a with
  | false => simp
  | true =>
    rw [if_pos rfl]
    by_cases h0 : 0 ≤ g
    · have e : decide (g ≤ (a.length : Int) - 1) = decide (g < (a.length : Int)) := by rw [decide_eq_decide]; omega
      simp [h0, e]
    · simp [h0]
def objConceptI (n : Int) (a : List Int) (g : Int) : Int × Int × Bool := if ctxB n a && decide (0 ≤ g ∧ g < a.length) then (((extentN a (row a g.toNat) : Nat) : Int), ((row a g.toNat : Nat) : Int), true) else (0, 0, false)
theorem impl_ObjectConcept_eq (n : Int) (a : List Int) (g : Int) (hn : a.length ≤ 281474976710656) {k : Nat} (hk : 20 ≤ k) : impl_ObjectConcept.f k n a g = some (objConceptI n a g) := by
  unfold impl_ObjectConcept.f objConceptI
  rw [impl_isObject_eq n a g hn, Option.bind_some]
  cases h : (ctxB n a && decide (0 ≤ g ∧ g < (a.length : Int))) with
  | false => simp
  | true =>
    rw [Bool.and_eq_true, decide_eq_true_eq] at h
    have hc := ctxB_out h.1
    obtain ⟨m, rfl⟩ := Int.eq_ofNat_of_zero_le hc.1
    obtain ⟨g, rfl⟩ := Int.eq_ofNat_of_zero_le h.2.1
    have hg : g < a.length := by omega
    have h3 : isSetB (a.length : Int) ((2 ^ g : Nat) : Int) = true := isSet_mk hc.2.2.1 (Nat.pow_lt_pow_right (by decide) hg)
    have e : objClosureI (m : Int) a ((2 ^ g : Nat) : Int) = ((extentN a (row a g) : Nat) : Int) := by
      unfold objClosureI
      rw [h.1, h3, if_pos (by rfl), Int.toNat_natCast, Int.toNat_natCast, intent_one h.1 hg]
    rw [if_pos rfl, if_pos rfl, if_pos h.2.1, shl_one (by omega), impl_ObjectClosure_eq _ _ _ hk, Option.bind_some, if_pos (by omega), e, rd_row (ctx_rows h.1) hg]
    rfl

theorem spec_ObjectConcept_eq (n : Int) (a : List Int) (g : Int) (hn : a.length ≤ 281474976710656) {k : Nat} (hk : a.length + 9 ≤ k) : spec_ObjectConcept.f k n a g = some (objConceptI n a g) := by
  unfold spec_ObjectConcept.f objConceptI spec_l1In.f
  rw [spec_IsContext_eq n a hn (by omega), Option.bind_some, w64 (by omega) (by omega)]
  cases h1 : ctxB n a with
  | false => simp
  | true =>
    have hc := ctxB_out h1
    rw [if_pos rfl]
    by_cases h0 : 0 ≤ g
    · by_cases h2 : g < (a.length : Int)
      · obtain ⟨g, rfl⟩ := Int.eq_ofNat_of_zero_le h0
        obtain ⟨m, rfl⟩ := Int.eq_ofNat_of_zero_le hc.1
        have hg : g < a.length := by omega
        have h3 : (g : Int) ≤ (a.length : Int) - 1 := by omega
        have e := spec_l5Concept_eq h1 (row_lt (ctx_rows h1) g) (k := k) (by omega)
        simp [h2, h3, rd_row (ctx_rows h1) hg, e, closure_row h1 hg]
      · have h3 : ¬ g ≤ (a.length : Int) - 1 := by omega
        simp [h0, h2, h3]
    · simp [h0]
def attrConceptI (n : Int) (a : List Int) (m : Int) : Int × Int × Bool := if ctxB n a && decide (0 ≤ m ∧ m < n) then conceptAtI n a ((2 ^ m.toNat : Nat) : Int) else (0, 0, false)
theorem impl_AttributeConcept_eq (n : Int) (a : List Int) (m : Int) {k : Nat} (hk : 20 ≤ k) : impl_AttributeConcept.f k n a m = some (attrConceptI n a m) := by
  unfold impl_AttributeConcept.f attrConceptI
  rw [impl_isAttribute_eq, Option.bind_some]
  cases h : (ctxB n a && decide (0 ≤ m ∧ m < n)) with
  | false => simp
  | true =>
    rw [Bool.and_eq_true, decide_eq_true_eq] at h
    have hc := ctxB_out h.1
    obtain ⟨m, rfl⟩ := Int.eq_ofNat_of_zero_le h.2.1
    rw [if_pos rfl, if_pos rfl, if_pos h.2.1, shl_one (by omega), impl_ConceptAt_eq _ _ _ hk, Option.bind_some, Int.toNat_natCast]

theorem spec_AttributeConcept_eq (n : Int) (a : List Int) (m : Int) (hn : a.length ≤ 281474976710656) {k : Nat} (hk : a.length + 9 ≤ k) : spec_AttributeConcept.f k n a m = some (attrConceptI n a m) := by
  unfold spec_AttributeConcept.f attrConceptI spec_l1In.f
  rw [spec_IsContext_eq n a hn (by omega), Option.bind_some]
  cases h1 : ctxB n a with
  | false => simp
  | true =>
    have hc := ctxB_out h1
    rw [if_pos rfl, w64 (by omega) (by omega)]
    by_cases h0 : 0 ≤ m
    · by_cases h2 : m < n
      · obtain ⟨m, rfl⟩ := Int.eq_ofNat_of_zero_le h0
        obtain ⟨n, rfl⟩ := Int.eq_ofNat_of_zero_le hc.1
        have h3 : (m : Int) ≤ (n : Int) - 1 := by omega
        have h5 := u64_small (n := (m : Int)) (by omega) (by omega)
        have hp : 2 ^ m < 2 ^ n := Nat.pow_lt_pow_right (by decide) (by omega)
        have hq := pow_le8 (i := n) (by omega)
        have e := spec_l5Concept_eq h1 (t := 2 ^ m) (by omega) (k := k) (by omega)
        have e2 := conceptAt_nat h1 hp
        have e3 := shl_one (i := m) (by omega)
        rw [if_pos (by omega), Option.bind_some, decide_eq_true h3, if_pos rfl, h5, if_pos h0, e3, e, Option.bind_some, decide_eq_true (by omega : (0 : Int) ≤ (m : Int) ∧ (m : Int) < (n : Int)), if_pos (by rfl), Int.toNat_natCast, e2]
      · have h3 : ¬ m ≤ n - 1 := by omega
        simp [h0, h2, h3]
    · simp [h0]
def nextClosedI (n : Int) (a : List Int) (x : Int) : Int × Bool := if ctxB n a && isSetB n x then nextI n.toNat a x.toNat else (0, false)
theorem spec_NextClosed_eq (n : Int) (a : List Int) (x : Int) (hn : a.length ≤ 281474976710656) {k : Nat} (hk : a.length + 30 ≤ k) : spec_NextClosed.f k n a x = some (nextClosedI n a x) := by
  unfold spec_NextClosed.f nextClosedI
  rw [spec_IsContext_eq n a hn (by omega), Option.bind_some]
  cases hc : ctxB n a with
  | false => simp
  | true =>
    rw [if_pos rfl, spec_IsSet_eq, Option.bind_some]
    cases hs : isSetB n x with
    | false => simp
    | true =>
      have hb := ctxB_out hc
      obtain ⟨n, rfl⟩ := Int.eq_ofNat_of_zero_le hb.1
      obtain ⟨x, rfl, h1, h2, h3⟩ := isSet_nat hs
      rw [if_pos rfl, l5Next_eq hc h1 (by omega)]
      simp
theorem impl_NextClosed_loop (n : Int) (a : List Int) (x : Int) (l : List Int) (hl : l.length ≤ 256) (d : Nat) : ∀ (i k : Nat), i + d = l.length → d + 20 < k →
    impl_NextClosed.l0 k x l (l.length : Int) (i : Int) n a = some (match (l.drop i).find? (fun s => beforeI x s && isClosedB n a s) with | none => ((0 : Int), false) | some s => (s, true)) := by
  induction d with
  | zero =>
    intro i k hi hk
    obtain ⟨k, rfl⟩ : ∃ m, k = m + 1 := ⟨k - 1, by omega⟩
    simp only [impl_NextClosed.l0]
    rw [if_neg (by omega), List.drop_of_length_le (by omega)]; rfl
  | succ d ih =>
    intro i k hi hk
    obtain ⟨k, rfl⟩ : ∃ m, k = m + 1 := ⟨k - 1, by omega⟩
    have h1 : i < l.length := by omega
    have hw : wrap64 ((i : Int) + 1) = ((i + 1 : Nat) : Int) := by rw [w64 (by omega) (by omega)]; omega
    simp only [impl_NextClosed.l0]
    rw [if_pos (by omega), if_pos (by omega), if_pos (by omega), rd_nat l i h1, impl_BeforeSet_eq _ _ (by omega), Option.bind_some, impl_IsClosed_eq _ _ _ (by omega), Option.bind_some, hw, ih (i + 1) k (by omega) (by omega), List.drop_eq_getElem_cons h1, List.find?_cons]
    cases beforeI x l[i] <;> cases isClosedB n a l[i] <;> rfl
theorem impl_NextClosed_eq (n : Int) (a : List Int) (x : Int) {k : Nat} (hk : 300 ≤ k) : impl_NextClosed.f k n a x = some (nextClosedI n a x) := by
  unfold impl_NextClosed.f nextClosedI
  rw [impl_areAttributes_eq, Option.bind_some]
  cases h : (ctxB n a && isSetB n x) with
  | false => simp
  | true =>
    rw [Bool.and_eq_true] at h
    have hb := ctxB_out h.1
    obtain ⟨n, rfl⟩ := Int.eq_ofNat_of_zero_le hb.1
    obtain ⟨x, rfl, h1, h2, h3⟩ := isSet_nat h.2
    rw [if_pos rfl, if_pos rfl, allSets_eq (by omega) (by omega), Option.bind_some]
    have e := impl_NextClosed_loop (n : Int) a (x : Int) (allN n) (allN_len n) (allN n).length 0 k (by omega) (by have := allN_len n; omega)
    refine e.trans ?_
    rw [List.drop_zero]
    exact congrArg some (find_next h.1 h1)

theorem spec_IsClosed_eq (n : Int) (a : List Int) (t : Int) (hn : a.length ≤ 281474976710656) {k : Nat} (hk : a.length + 9 ≤ k) : spec_IsClosed.f k n a t = some (isClosedB n a t) := by
  unfold spec_IsClosed.f isClosedB
  rw [spec_IsContext_eq n a hn (by omega), Option.bind_some]
  cases h1 : ctxB n a with
  | false => simp
  | true =>
    rw [if_pos rfl, spec_IsSet_eq, Option.bind_some, Bool.true_and]
    cases h2 : isSetB n t with
    | false => simp
    | true =>
      have hc := ctxB_out h1
      have e0 : closureI n a t = ((closureN n.toNat a t.toNat : Nat) : Int) := by unfold closureI; rw [h1, h2, if_pos (by rfl)]
      rw [e0]
      obtain ⟨m, rfl⟩ := Int.eq_ofNat_of_zero_le hc.1
      obtain ⟨t, rfl, h3, h4, h5⟩ := isSet_nat h2
      rw [if_pos rfl, spec_l4Closure_eq h1 h5 (by omega)]
      simp

theorem spec_BeforeSet_eq (s t : Int) : spec_BeforeSet.f s t = some (beforeI s t) := by
  unfold spec_BeforeSet.f beforeI
  rw [spec_IsSet_eq, spec_IsSet_eq]
  cases h : isSetB 8 s with
  | false => simp
  | true =>
    cases h' : isSetB 8 t with
    | false => simp
    | true =>
      have h1 := isSetB_bd h
      have h2 := isSetB_bd h'
      obtain ⟨a, rfl⟩ := Int.eq_ofNat_of_zero_le h1.2.2.1
      obtain ⟨b, rfl⟩ := Int.eq_ofNat_of_zero_le h2.2.2.1
      simp only [Option.bind_some, if_true, Bool.true_and, Int.toNat_natCast]
      unfold beforeB
      by_cases e : a = b
      · subst e; rw [if_pos rfl]; simp
      · rw [if_neg (by omega), xor_nat _ _ (by omega) (by omega)]
        have hx := xor_256 (a := a) (b := b) (by omega) (by omega)
        rcases low_bit ⟨a ^^^ b, hx⟩ with h0 | ⟨h3, h4⟩
        · exact absurd h0 (xor_ne e)
        · dsimp only at h3 h4
          have hp : 2 ^ tzN (a ^^^ b) < 2 ^ 8 := Nat.pow_lt_pow_right (by decide) h3
          rw [h4, and_nat _ _ (by omega) (by omega), ← and_pow_ne]
          have e1 : (a != b) = true := by simp [e]
          have e2 : ((((b &&& 2 ^ tzN (a ^^^ b) : Nat)) : Int) != 0) = ((b &&& 2 ^ tzN (a ^^^ b)) != 0) := by
            rw [Bool.eq_iff_iff, bne_iff_ne, bne_iff_ne]; omega
          rw [e1, e2, Bool.true_and]

theorem spec_HasElement_eq (s e : Int) : spec_HasElement.f s e = some (isSetB 8 s && (decide (0 ≤ e ∧ e ≤ 7) && hasB s e)) := by
  unfold spec_HasElement.f spec_l1In.f
  rw [spec_IsSet_eq]
  by_cases h : isSetB 8 s = true
  · have := isSetB_bd h
    by_cases h0 : 0 ≤ e
    · by_cases h1 : e ≤ 7
      · have h2 := spec_l2Has_eq (s := s) (e := e) (by omega) (by omega) h0 (by omega)
        simp [h, h0, h1, h2]
      · simp [h, h0, h1]
    · simp [h, h0]
  · simp [h]

/-- The elements of s, from 0 on. -/
def elems (s : Int) : List Int := ((List.range 8).filter (fun e => s.toNat.testBit e)).map (fun e : Nat => (e : Int))
theorem spec_ElementsOf_set {s : Int} (hs : isSetB 8 s = true) : spec_ElementsOf.f 9 s = some (elems s) :=
  all256 (P := fun s => spec_ElementsOf.f 9 s = some (elems s)) (by decide +kernel) hs
theorem spec_ElementsOf_no {s : Int} (hs : isSetB 8 s = false) : spec_ElementsOf.f 9 s = some [] := by
  have h (e : Int) : spec_HasElement.f s e = some false := by rw [spec_HasElement_eq, hs]; rfl
  unfold spec_ElementsOf.f
  simp [spec_ElementsOf.l0, h, wrap64]
theorem elems_len : ∀ s : Int, (elems s).length ≤ 8 := by
  intro s; unfold elems; rw [List.length_map]; exact List.length_filter_le _ (List.range 8)

theorem impl_ElementsOf_set {s : Int} (hs : isSetB 8 s = true) : impl_ElementsOf.f 9 s = some (elems s) :=
  all256 (P := fun s => impl_ElementsOf.f 9 s = some (elems s)) (by decide +kernel) hs
theorem impl_ElementsOf_no {s : Int} (hs : isSetB 8 s = false) : impl_ElementsOf.f 9 s = some [] := by
  have h (e : Int) : impl_HasElement.f s e = some false := by rw [impl_HasElement_eq, hs]; rfl
  unfold impl_ElementsOf.f
  simp [impl_ElementsOf.l0, h, wrap64]

/-- The letters of s. -/
def letters (s : Int) : List UInt8 := if s = 0 then [45] else ((List.range 8).filter (fun e => s.toNat.testBit e)).map (fun e : Nat => (97 + e).toUInt8)
/-- SetText. -/
def setText (s : Int) : List UInt8 := if isSetB 8 s then letters s else []
theorem map_some {α β : Type} {o : Option α} {f : α → β} {y : β} (h : o.map f = some y) : ∃ x, o = some x ∧ f x = y := by
  cases o with
  | none => cases h
  | some x => exact ⟨x, rfl, Option.some.inj h⟩
theorem spec_SetText_eq (s : Int) : ∃ b, spec_SetText.f 10 s = some b ∧ b.data.toList = setText s := by
  apply map_some (f := fun b : ByteArray => b.data.toList)
  cases hs : isSetB 8 s with
  | true => exact all256 (P := fun s => (spec_SetText.f 10 s).map (fun b : ByteArray => b.data.toList) = some (setText s)) (by decide +kernel) hs
  | false => unfold spec_SetText.f setText; rw [spec_IsSet_eq, hs]; rfl
theorem impl_SetText_eq (s : Int) : ∃ b, impl_SetText.f 10 s = some b ∧ b.data.toList = setText s := by
  apply map_some (f := fun b : ByteArray => b.data.toList)
  cases hs : isSetB 8 s with
  | true => exact all256 (P := fun s => (impl_SetText.f 10 s).map (fun b : ByteArray => b.data.toList) = some (setText s)) (by decide +kernel) hs
  | false => unfold impl_SetText.f setText; rw [impl_isAnySet_eq, hs]; rfl

theorem letters_len : ∀ s : Int, (letters s).length ≤ 8 := by
  intro s; unfold letters
  by_cases h : s = 0
  · rw [if_pos h]; simp
  · rw [if_neg h, List.length_map]; exact List.length_filter_le _ (List.range 8)
theorem setText_len (s : Int) : (setText s).length ≤ 8 := by
  unfold setText; split
  · exact letters_len s
  · simp
theorem size_of_list {b : ByteArray} {l : List UInt8} (h : b.data.toList = l) : b.size = l.length := by rw [← h]; rfl
theorem rdC (l : List S31) (i : Nat) (h : i < l.length) : rd_T31 l (i : Int) = l[i] := by unfold rd_T31; rw [Int.toNat_natCast, List.getD_eq_getElem?_getD, List.getElem?_eq_getElem h]; rfl
/-- The first i concepts are marked with the numbers from 1 on. -/
def MarkC (z : List S31) (i : Nat) : Prop := ∀ j, j < i → z.getD j z31 = ⟨1 + 2 * (j : Int), 2 + 2 * (j : Int)⟩
theorem getC_set (z : List S31) (i : Nat) (v : S31) (hi : i < z.length) (j : Nat) : (z.set i v).getD j z31 = if j = i then v else z.getD j z31 := by
  rw [List.getD_eq_getElem?_getD, List.getD_eq_getElem?_getD, List.getElem?_set]
  by_cases h : i = j
  · subst h; simp [hi]
  · have h' : ¬ j = i := fun e => h e.symm
    rw [if_neg h, if_neg h']
theorem sameConcepts_loop (l : List S31) (hn : l.length ≤ 281474976710656) (d : Nat) : ∀ (i k : Nat), i + d = l.length → d < k → laws_sameConcepts.l0 k l l (i : Int) = some true := by
  induction d with
  | zero =>
    intro i k hi hk
    obtain ⟨k, rfl⟩ : ∃ m, k = m + 1 := ⟨k - 1, by omega⟩
    simp only [laws_sameConcepts.l0]; rw [if_neg (by omega)]
  | succ d ih =>
    intro i k hi hk
    obtain ⟨k, rfl⟩ : ∃ m, k = m + 1 := ⟨k - 1, by omega⟩
    have hw : wrap64 ((i : Int) + 1) = ((i + 1 : Nat) : Int) := by rw [wstep (n := l.length) (by omega) (by omega) (by omega)]; omega
    simp only [laws_sameConcepts.l0]
    rw [if_pos (by omega), if_pos (by omega), if_pos (by omega), if_neg (by simp), hw]
    exact ih (i + 1) k (by omega) (by omega)
theorem sameConcepts_self (l : List S31) (hn : l.length ≤ 281474976710656) {k : Nat} (hk : l.length < k) : laws_sameConcepts.f k l l = some true := by
  unfold laws_sameConcepts.f
  rw [if_pos rfl]
  exact sameConcepts_loop l hn l.length 0 k (by omega) hk
theorem conceptText_same (e i : Int) : ∃ b, impl_ConceptText.f 11 e i = some b ∧ spec_ConceptText.f 11 e i = some b := by
  obtain ⟨b1, h1, e1⟩ := spec_SetText_eq e
  obtain ⟨b2, h2, e2⟩ := impl_SetText_eq e
  obtain ⟨b3, h3, e3⟩ := spec_SetText_eq i
  obtain ⟨b4, h4, e4⟩ := impl_SetText_eq i
  have l1 := setText_len e
  have l3 := setText_len i
  have z1 := size_of_list e1
  have z3 := size_of_list e3
  have q1 : b1 = b2 := by cases b1; cases b2; congr 1; exact Array.toList_inj.1 (e1.trans e2.symm)
  have q3 : b3 = b4 := by cases b3; cases b4; congr 1; exact Array.toList_inj.1 (e3.trans e4.symm)
  subst q1 q3
  unfold spec_ConceptText.f impl_ConceptText.f
  simp only [Option.bind_some, spec_IsSet_eq, impl_isAnySet_eq]
  have j (t : Bool) : ∃ b, spec_ConceptText.j0 11 t e i = some b ∧ impl_ConceptText.j0 11 t e i = some b := by
    cases t with
    | true => exact ⟨⟨#[]⟩, rfl, rfl⟩
    | false =>
      refine ⟨(b1 ++ (⟨#[47]⟩ : ByteArray)) ++ b3, ?_, ?_⟩
      · simp only [spec_ConceptText.j0, h1, h3, Option.bind_some]
        rw [if_neg (by simp), if_pos (by omega), if_pos (by omega)]
      · simp only [impl_ConceptText.j0, h2, h4, Option.bind_some]
        rw [if_neg (by simp), if_pos (by omega), if_pos (by omega)]
  cases isSetB 8 e with
  | true =>
    obtain ⟨b, hb1, hb2⟩ := j (!isSetB 8 i)
    simp [hb1, hb2]
  | false =>
    obtain ⟨b, hb1, hb2⟩ := j true
    simp [hb1, hb2]
theorem conceptText_more (e i : Int) {k : Nat} (hk : 11 ≤ k) : ∃ b, impl_ConceptText.f k e i = some b ∧ spec_ConceptText.f k e i = some b := by
  obtain ⟨b, h1, h2⟩ := conceptText_same e i
  exact ⟨b, at_rounds (fun k => impl_ConceptText.mono e i k) hk h1, at_rounds (fun k => spec_ConceptText.mono e i k) hk h2⟩
/-- How many of the sets from i on are closed. -/
def closedFrom (n : Int) (a : List Int) (i d : Nat) : Nat := (List.range' i d).countP (fun j : Nat => isClosedB n a (j : Int))
theorem closedFrom_le (n : Int) (a : List Int) (i d : Nat) : closedFrom n a i d ≤ d := by
  unfold closedFrom
  refine Nat.le_trans List.countP_le_length ?_
  rw [List.length_range']; exact Nat.le_refl _
theorem rangeI_nodup (m : Nat) : (rangeI m).Nodup := by
  unfold rangeI List.Nodup
  rw [List.pairwise_map]
  exact List.nodup_range.imp fun h e => h (Int.ofNat.inj e)
theorem allN_nodup (n : Nat) : (allN n).Nodup := (allN_sorted n).imp fun h e => by subst e; exact absurd h (Nat.lt_irrefl _)
theorem closedFrom_all {N : Nat} (hN : N ≤ 8) (a : List Int) : closedFrom (N : Int) a 0 (2 ^ N) = (closedL N a).length := by
  have hp : (allN N).Perm (rangeI (2 ^ N)) := (List.perm_ext_iff_of_nodup (allN_nodup N) (rangeI_nodup _)).2 fun x => by
    rw [allN_mem hN, rangeI_mem]
    constructor
    · rintro ⟨s, rfl, hs⟩; omega
    · intro h; exact ⟨x.toNat, by omega, by omega⟩
  unfold closedFrom closedL
  rw [← List.countP_eq_length_filter, hp.countP_eq]
  unfold rangeI
  rw [List.countP_map, ← List.range_eq_range']
  rfl
theorem next_after {n : Int} {a : List Int} {s x : Int} (h : nextClosedI n a s = (x, true)) : beforeI s x = true ∧ isClosedB n a x = true := by
  unfold nextClosedI at h
  cases hc : (ctxB n a && isSetB n s) with
  | false => rw [hc, if_neg (by decide)] at h; cases h
  | true =>
    rw [hc, if_pos rfl] at h
    rw [Bool.and_eq_true] at hc
    have hb := ctxB_out hc.1
    obtain ⟨N, rfl⟩ := Int.eq_ofNat_of_zero_le hb.1
    obtain ⟨s, rfl, h1, h2, h3⟩ := isSet_nat hc.2
    have h8 := pow_le8 (i := N) (by omega)
    have hg := ganter (n := N) (by omega) (a := a) h1
    rw [Int.toNat_natCast, Int.toNat_natCast] at h
    unfold nextI at h
    cases hf : nextFrom N a s N with
    | none => rw [hf] at h; cases h
    | some c =>
      rw [hf] at h hg
      obtain rfl : (c : Int) = x := congrArg Prod.fst h
      obtain ⟨g1, g2, g3, _⟩ := hg
      exact ⟨by rw [before_nat (by omega) (by omega)]; exact decide_eq_true g3, by rw [closedB_nat hc.1 g1]; exact decide_eq_true g2⟩
/-- The law's last words. -/
theorem concepts_end (L : List S31) (s x : Int) (ok : Bool) (n : Int) (c : List Int) (m : Int) (b : List Int) (hb : b.length ≤ 20) (hs : ok = true → beforeI s x = true ∧ isClosedB m b x = true) {k : Nat} (hk : 40 ≤ k) :
    laws_FnConcepts.l1 k L s x ok (L.length : Int) (L.length : Int) n c m b = some true := by
  obtain ⟨k, rfl⟩ : ∃ m, k = m + 1 := ⟨k - 1, by omega⟩
  simp only [laws_FnConcepts.l1]
  rw [if_neg (by omega), if_pos trivial]
  cases ok with
  | false => rw [if_neg (by decide)]
  | true =>
    obtain ⟨h1, h2⟩ := hs rfl
    rw [if_pos rfl, spec_BeforeSet_eq, h1, Option.bind_some, if_pos rfl, spec_IsClosed_eq m b x (by omega) (by omega), h2, Option.bind_some]
theorem concepts_l1 (L : List S31) (hL : L.length ≤ 256) (s x : Int) (ok : Bool) (n : Int) (c : List Int) (m : Int) (b : List Int) (hb : b.length ≤ 20) (hs : ok = true → beforeI s x = true ∧ isClosedB m b x = true)
    (h1 : ∀ (i : Nat) (h : i < L.length), isConceptB n c L[i].f0 L[i].f1 = true) (h2 : ∀ (i : Nat) (h : i + 1 < L.length), beforeI L[i].f1 L[i + 1].f1 = true) (d : Nat) : ∀ (i k : Nat), i + d = L.length → d + 40 ≤ k →
    laws_FnConcepts.l1 k L s x ok (L.length : Int) (i : Int) n c m b = some true := by
  induction d with
  | zero =>
    intro i k hi hk
    obtain rfl : i = L.length := by omega
    exact concepts_end L s x ok n c m b hb hs (by omega)
  | succ d ih =>
    intro i k hi hk
    obtain ⟨k, rfl⟩ : ∃ m, k = m + 1 := ⟨k - 1, by omega⟩
    have hlt : i < L.length := by omega
    have hw : wrap64 ((i : Int) + 1) = ((i + 1 : Nat) : Int) := by rw [w64 (by omega) (by omega)]; omega
    have J := ih (i + 1) k (by omega) (by omega)
    simp only [laws_FnConcepts.l1]
    rw [if_pos (by omega), if_pos (by omega), rdC L i hlt, impl_IsConcept_eq _ _ _ _ (by omega), h1 i hlt, Option.bind_some, if_pos rfl, hw]
    cases i with
    | zero => rw [if_neg (by decide)]; exact J
    | succ i =>
      have hw2 : wrap64 (((i + 1 : Nat) : Int) - 1) = (i : Int) := by rw [w64 (by omega) (by omega)]; omega
      rw [if_pos (by omega), hw2, if_pos (by omega), if_pos (by omega), rdC L i (by omega), spec_BeforeSet_eq, h2 i hlt, Option.bind_some, if_pos rfl]
      exact J
theorem concepts_l0 (L : List S31) (s x : Int) (ok : Bool) {N : Nat} {c : List Int} (hc : ctxB (N : Int) c = true) (m : Int) (b : List Int) (d : Nat) : ∀ (i k t : Nat), i + d = 2 ^ N → 2 * d + 30 ≤ k → t ≤ i →
    ∃ k', k ≤ k' + (2 * d + 2) ∧ laws_FnConcepts.l0 k L s x ok (t : Int) (i : Int) (N : Int) c m b = laws_FnConcepts.l1 k' L s x ok ((t + closedFrom (N : Int) c i d : Nat) : Int) 0 (N : Int) c m b := by
  have hb := ctxB_out hc
  have h8 := pow_le8 (i := N) (by omega)
  have hpos : 0 < 2 ^ N := Nat.two_pow_pos N
  have hf : fullSet (N : Int) = ((2 ^ N - 1 : Nat) : Int) := fullSet_nat (by omega)
  induction d with
  | zero =>
    intro i k t hi hk ht
    obtain ⟨k, rfl⟩ : ∃ m, k = m + 2 := ⟨k - 2, by omega⟩
    refine ⟨k, by omega, ?_⟩
    simp only [laws_FnConcepts.l0, laws_FnConcepts.j2]
    rw [spec_FullSet_eq, hf, Option.bind_some, if_neg (by omega), if_neg (by decide)]
    rfl
  | succ d ih =>
    intro i k t hi hk ht
    obtain ⟨k, rfl⟩ : ∃ m, k = m + 2 := ⟨k - 2, by omega⟩
    have q1 : i + 1 + d = 2 ^ N := by omega
    have q2 : 2 * d + 30 ≤ k := by omega
    have q3 : t + 1 ≤ i + 1 := Nat.succ_le_succ ht
    have q4 : t ≤ i + 1 := Nat.le_succ_of_le ht
    have q10 : (i : Int) < 256 := by omega
    have q11 : (t : Int) < 256 := by omega
    have q5 : (i : Int) ≤ ((2 ^ N - 1 : Nat) : Int) := by omega
    have q6 (k' : Nat) (h : k ≤ k' + (2 * d + 2)) : k + 2 ≤ k' + (2 * (d + 1) + 2) := by omega
    have q7 : c.length ≤ 281474976710656 := by omega
    have q8 : c.length < k + 1 := by omega
    have q9 : c.length + 9 ≤ k := by omega
    have hw : wrap64 ((i : Int) + 1) = ((i + 1 : Nat) : Int) := by clear ih hf q5 q6; rw [w64 (by omega) (by omega)]; exact (Int.natCast_succ i).symm
    have hw2 : wrap64 ((t : Int) + 1) = ((t + 1 : Nat) : Int) := by clear ih hf q5 q6 hw; rw [w64 (by omega) (by omega)]; exact (Int.natCast_succ t).symm
    have e : closedFrom (N : Int) c i (d + 1) = (if isClosedB (N : Int) c (i : Int) = true then 1 else 0) + closedFrom (N : Int) c (i + 1) d := by
      unfold closedFrom
      rw [List.range'_succ, List.countP_cons, Nat.add_comm]
    simp only [laws_FnConcepts.l0, laws_FnConcepts.j2]
    rw [spec_FullSet_eq, hf, Option.bind_some, if_pos q5, spec_IsContext_eq _ _ q7 q8, hc, Option.bind_some, if_pos rfl, spec_IsClosed_eq _ _ _ q7 q9, Option.bind_some, hw, hw2, e]
    clear e
    cases h : isClosedB (N : Int) c (i : Int) with
    | true =>
      obtain ⟨k', h1, h2⟩ := ih (i + 1) k (t + 1) q1 q2 q3
      refine ⟨k', q6 k' h1, ?_⟩
      rw [if_pos (show true = true from rfl), if_pos (show true = true from rfl), h2, Nat.add_assoc]
    | false =>
      obtain ⟨k', h1, h2⟩ := ih (i + 1) k t q1 q2 q4
      refine ⟨k', q6 k' h1, ?_⟩
      rw [if_neg (show ¬ (false = true) by decide), if_neg (show ¬ (false = true) by decide), h2, Nat.zero_add]
theorem conceptsL_ok {N : Nat} {c : List Int} (hc : ctxB (N : Int) c = true) : (∀ (i : Nat) (h : i < (conceptsL (N : Int) c).length), isConceptB (N : Int) c (conceptsL (N : Int) c)[i].f0 (conceptsL (N : Int) c)[i].f1 = true) ∧
    (∀ (i : Nat) (h : i + 1 < (conceptsL (N : Int) c).length), beforeI (conceptsL (N : Int) c)[i].f1 (conceptsL (N : Int) c)[i + 1].f1 = true) ∧ (conceptsL (N : Int) c).length = (closedL N c).length := by
  have hb := ctxB_out hc
  have h8 := pow_le8 (i := N) (by omega)
  have em : conceptsL (N : Int) c = (closedL N c).map (conceptOf c) := by unfold conceptsL; rw [if_pos hc, Int.toNat_natCast]
  have el : (conceptsL (N : Int) c).length = (closedL N c).length := by rw [em, List.length_map]
  have ef (i : Nat) (h : i < (conceptsL (N : Int) c).length) : (conceptsL (N : Int) c)[i] = conceptOf c ((closedL N c)[i]'(by omega)) := by
    simp only [em, List.getElem_map]
  have ec (i : Nat) (h : i < (closedL N c).length) : ∃ s : Nat, (closedL N c)[i] = (s : Int) ∧ s < 2 ^ N ∧ closureN N c s = s := (closedL_mem hc _).1 (List.getElem_mem h)
  refine ⟨fun i h => ?_, fun i h => ?_, el⟩
  · rw [ef i h]
    obtain ⟨s, e1, h1, h2⟩ := ec i (by omega)
    rw [e1]
    show isConceptB (N : Int) c ((extentN c ((s : Int)).toNat : Nat) : Int) (s : Int) = true
    rw [Int.toNat_natCast]
    unfold isConceptB intentI extentI
    have q1 := extent_set (a := c) hb.2.2.1 s
    have q2 := isSet_mk (n := N) (t := s) (by omega) h1
    rw [hc, q1, q2]
    simp only [Int.toNat_natCast, Bool.and_true, if_true]
    have q3 : intentN N c (extentN c s) = s := h2
    rw [q3]; simp
  · rw [ef i (by omega), ef (i + 1) h]
    obtain ⟨s, e1, h1, h2⟩ := ec i (by omega)
    obtain ⟨t, e2, g1, g2⟩ := ec (i + 1) (by omega)
    have hr := List.pairwise_iff_getElem.1 (closedL_sorted N c) i (i + 1) (by omega) (by omega) (by omega)
    rw [e1, e2] at hr ⊢
    show beforeI (s : Int) (t : Int) = true
    rw [before_nat (by omega) (by omega)]
    exact decide_eq_true hr
theorem concepts_j0 (n : Int) (c : List Int) (hcl : c.length ≤ 20) (s x : Int) (ok : Bool) (m : Int) (b : List Int) (hb : b.length ≤ 20) (hs : ok = true → beforeI s x = true ∧ isClosedB m b x = true) {k : Nat} (hk : 4000 ≤ k) :
    laws_FnConcepts.j0 k (conceptsL n c) s x ok false n c m b = some true := by
  obtain ⟨k, rfl⟩ : ∃ m, k = m + 1 := ⟨k - 1, by omega⟩
  simp only [laws_FnConcepts.j0]
  rw [if_neg (by decide)]
  cases hc : ctxB n c with
  | true =>
    have ho := ctxB_out hc
    obtain ⟨N, rfl⟩ := Int.eq_ofNat_of_zero_le ho.1
    have h8 := pow_le8 (i := N) (by omega)
    obtain ⟨h1, h2, el⟩ := conceptsL_ok hc
    have hl := conceptsL_len (N : Int) c
    obtain ⟨k', hk', e⟩ := concepts_l0 (conceptsL (N : Int) c) s x ok hc m b (2 ^ N) 0 k 0 (Nat.zero_add _) (by clear h1 h2 el hl hs; omega) (Nat.le_refl _)
    have hk2 : 256 + 40 ≤ k' := by clear h1 h2 el hl hs e; omega
    have hk3 : (conceptsL (N : Int) c).length + 40 ≤ k' := Nat.le_trans (Nat.add_le_add_right hl 40) hk2
    refine e.trans ?_
    rw [Nat.zero_add, closedFrom_all (by clear h1 h2 el hl hs e; omega), ← el]
    exact concepts_l1 _ hl s x ok _ c m b hb hs h1 h2 _ 0 k' (Nat.zero_add _) hk3
  | false =>
    have e : conceptsL n c = [] := by unfold conceptsL; rw [hc, if_neg (by decide)]
    rw [e]
    obtain ⟨k, rfl⟩ : ∃ m, k = m + 2 := ⟨k - 2, by omega⟩
    have J : laws_FnConcepts.l1 k [] s x ok 0 0 n c m b = some true := concepts_end [] s x ok n c m b hb hs (by omega)
    simp only [laws_FnConcepts.l0]
    rw [spec_FullSet_eq, Option.bind_some]
    by_cases h : (0 : Int) ≤ fullSet n
    · rw [if_pos h, spec_IsContext_eq _ _ (by omega) (by omega), hc, Option.bind_some]
      simp only [laws_FnConcepts.j2]
      rw [if_neg (by decide)]; exact J
    · rw [if_neg h]
      simp only [laws_FnConcepts.j2]
      rw [if_neg (by decide)]; exact J
theorem FnConcepts : laws_FnConcepts.Pure := by
  intro l hm hw
  obtain ⟨K, hK⟩ : ∃ K, K = 100000 := ⟨_, rfl⟩
  refine ⟨K, ?_⟩
  unfold laws_FnConcepts.f laws_big.f
  simp only [Option.bind_some]
  by_cases hbig : (l.length : Int) > 1048576
  · rw [decide_eq_true hbig, if_pos rfl]
  rw [decide_eq_false hbig, if_neg (by decide)]
  obtain ⟨n, c, a1, h1⟩ := DrawConcepts_ok l hm (k := K) (by omega)
  obtain ⟨n2, c2, e, t, a2, h2⟩ := DrawIsConcept_ok l hm (k := K) (by omega)
  obtain ⟨m, b, s, a3, h3⟩ := DrawNextClosed_ok l hm (k := K) (by omega)
  obtain ⟨n4, c4, t4, a4, h4⟩ := DrawConceptAt_ok l hm (k := K) (by omega)
  obtain ⟨n5, c5, g5, a5, h5⟩ := DrawObjectConcept_ok l hm (k := K) (by omega)
  obtain ⟨e6, i6, a6⟩ := DrawConceptText_ok l hm (k := K) (by omega)
  obtain ⟨tx, b1, b2⟩ := conceptText_more e6 i6 (k := K) (by omega)
  have d1 := impl_Concepts_eq n c (k := K) (by omega)
  have d2 := spec_Concepts_eq n c (by omega) (k := K) (by omega)
  have d3 := sameConcepts_self (conceptsL n c) (by have := conceptsL_len n c; omega) (k := K) (by have := conceptsL_len n c; omega)
  have d4 := impl_IsConcept_eq n2 c2 e t (k := K) (by omega)
  have d5 := spec_IsConcept_eq n2 c2 e t (by omega) (k := K) (by omega)
  have d6 := impl_NextClosed_eq m b s (k := K) (by omega)
  have d7 := spec_NextClosed_eq m b s (by omega) (k := K) (by omega)
  have d8 := impl_ConceptAt_eq n4 c4 t4 (k := K) (by omega)
  have d9 := spec_ConceptAt_eq n4 c4 t4 (by omega) (k := K) (by omega)
  have d10 := impl_ObjectConcept_eq n5 c5 g5 (by omega) (k := K) (by omega)
  have d11 := spec_ObjectConcept_eq n5 c5 g5 (by omega) (k := K) (by omega)
  have d12 := impl_AttributeConcept_eq n5 c5 g5 (k := K) (by omega)
  have d13 := spec_AttributeConcept_eq n5 c5 g5 (by omega) (k := K) (by omega)
  obtain ⟨⟨x, ok⟩, hx⟩ : ∃ z, nextClosedI m b s = z := ⟨_, rfl⟩
  have hs : ok = true → beforeI s x = true ∧ isClosedB m b x = true := by
    rintro rfl; exact next_after hx
  rw [hx] at d6 d7
  generalize conceptAtI n4 c4 t4 = y8 at d8 d9
  generalize objConceptI n5 c5 g5 = y10 at d10 d11
  generalize attrConceptI n5 c5 g5 = y12 at d12 d13
  have J := concepts_j0 n c (by omega) s x ok m b (by omega) hs (k := K) (by omega)
  clear hK
  rw [a1]; simp only [Option.bind_some]
  rw [d1]; simp only [Option.bind_some]
  rw [a2]; simp only [Option.bind_some]
  rw [a3]; simp only [Option.bind_some]
  rw [d6]; simp only [Option.bind_some]
  rw [d7]; simp only [Option.bind_some]
  rw [a4]; simp only [Option.bind_some]
  rw [d8]; simp only [Option.bind_some]
  rw [d9]; simp only [Option.bind_some]
  rw [a5]; simp only [Option.bind_some]
  rw [d10]; simp only [Option.bind_some]
  rw [d11]; simp only [Option.bind_some]
  rw [d12]; simp only [Option.bind_some]
  rw [d13]; simp only [Option.bind_some]
  rw [a6]; simp only [Option.bind_some]
  rw [d2]; simp only [Option.bind_some]
  rw [d3]; simp only [Option.bind_some]
  rw [if_pos trivial, d4]; simp only [Option.bind_some]
  rw [d5]; simp only [Option.bind_some]
  rw [bne_self_eq_false, if_neg (by decide), if_pos trivial, bne_self_eq_false, if_neg (by decide), if_neg (by simp), bne_self_eq_false, if_neg (by decide), if_neg (by simp), bne_self_eq_false, if_neg (by decide), if_neg (by simp), bne_self_eq_false, if_neg (by decide), b1]; simp only [Option.bind_some]
  rw [b2]; simp only [Option.bind_some]
  rw [bne_self_eq_false]
  exact J

end Go.Proofs.YtodmfdkmmpefpaaGreatDoor.Pure
