/- For every input the law answers true. No condition. -/
import Derived.Test.YtelaihbbfgjnpaaDoorPFnExactHeightOfx9
set_option linter.unusedVariables false
set_option linter.unusedSimpArgs false
namespace Go.Proofs.YtelaihbbfgjnpaaDoor.Pure
open Go.RowKit Go.Proofs.YtelaihbbfgjnpaaDoor.PFnExactHeightOf Go.Proofs.YtelaihbbfgjnpaaDoorW.PrintWords Go.Proofs.YtelaihbbfgjnpaaDoorW.PrintLast Go.Proofs.YtelaihbbfgjnpaaDoor.PFnExactHeightOf.Lec
/-! heights over a relation that goes down in the index, in plain numbers -/
def fm (f : Nat → Nat) : Nat → List Nat → Nat
  | m, [] => m
  | m, b :: l => fm f (max m (f b + 1)) l
theorem fm_init (f : Nat → Nat) : ∀ (l : List Nat) (m : Nat), m ≤ fm f m l
  | [], m => Nat.le_refl _
  | b :: l, m => Nat.le_trans (Nat.le_max_left _ _) (fm_init f l _)
theorem fm_ge (f : Nat → Nat) : ∀ (l : List Nat) (m b : Nat), b ∈ l → f b + 1 ≤ fm f m l
  | c :: l, m, b, h => by
    rcases List.mem_cons.1 h with rfl | h
    · exact Nat.le_trans (Nat.le_max_right _ _) (fm_init f l _)
    · exact fm_ge f l _ b h
theorem fm_att (f : Nat → Nat) : ∀ (l : List Nat) (m : Nat), fm f m l = m ∨ ∃ b ∈ l, fm f m l = f b + 1
  | [], m => Or.inl rfl
  | c :: l, m => by
    simp only [fm]
    rcases fm_att f l (max m (f c + 1)) with h | ⟨b, hb, h⟩
    · rw [h]
      rcases Nat.le_total (f c + 1) m with h1 | h1
      · left; omega
      · right; exact ⟨c, List.mem_cons_self .., by omega⟩
    · right; exact ⟨b, List.mem_cons_of_mem _ hb, h⟩
theorem fm_congr {f g : Nat → Nat} : ∀ (l : List Nat) (m : Nat), (∀ b ∈ l, f b = g b) → fm f m l = fm g m l
  | [], m, _ => rfl
  | c :: l, m, h => by
    simp only [fm]
    rw [h c (List.mem_cons_self ..)]
    exact fm_congr l _ (fun b hb => h b (List.mem_cons_of_mem _ hb))
def hgt (B : Nat → Nat → Bool) : Nat → Nat → Nat
  | 0, _ => 0
  | f + 1, a => fm (hgt B f) 0 ((List.range a).filter (B a))
theorem hgt_fuel (B : Nat → Nat → Bool) : ∀ (f g a : Nat), a < f → a < g → hgt B f a = hgt B g a
  | 0, _, _, h, _ => absurd h (Nat.not_lt_zero _)
  | _, 0, _, _, h => absurd h (Nat.not_lt_zero _)
  | f + 1, g + 1, a, h1, h2 => by
    simp only [hgt]
    refine fm_congr _ _ fun b hb => ?_
    have hb2 := List.mem_range.1 (List.mem_filter.1 hb).1
    exact hgt_fuel B f g b (by omega) (by omega)
/-- The height of a. -/
def H (B : Nat → Nat → Bool) (a : Nat) : Nat := hgt B (a + 1) a
theorem H_eq (B : Nat → Nat → Bool) (a : Nat) : H B a = fm (H B) 0 ((List.range a).filter (B a)) := by
  show fm (hgt B a) 0 _ = _
  refine fm_congr _ _ fun b hb => ?_
  have hb2 := List.mem_range.1 (List.mem_filter.1 hb).1
  exact hgt_fuel B a (b + 1) b hb2 (by omega)
theorem H_ge {B : Nat → Nat → Bool} {a b : Nat} (h : b < a) (hB : B a b = true) : H B b + 1 ≤ H B a := by
  rw [H_eq B a]
  exact fm_ge _ _ _ b (List.mem_filter.2 ⟨List.mem_range.2 h, hB⟩)
theorem H_att (B : Nat → Nat → Bool) (a : Nat) : H B a = 0 ∨ ∃ b, b < a ∧ B a b = true ∧ H B a = H B b + 1 := by
  rw [H_eq B a]
  rcases fm_att (H B) ((List.range a).filter (B a)) 0 with h | ⟨b, hb, h⟩
  · exact Or.inl h
  · have h2 := List.mem_filter.1 hb
    exact Or.inr ⟨b, List.mem_range.1 h2.1, h2.2, h⟩
theorem H_le (B : Nat → Nat → Bool) (a : Nat) : H B a ≤ a := by
  induction a using Nat.strongRecOn with
  | _ a ih =>
    rcases H_att B a with h | ⟨b, hb, _, h⟩
    · omega
    · have := ih b hb; omega
theorem greatest (P : Nat → Prop) [DecidablePred P] : ∀ n, (∃ x, x < n ∧ P x) → ∃ x, x < n ∧ P x ∧ ∀ y, x < y → y < n → ¬ P y
  | 0, ⟨x, h, _⟩ => absurd h (Nat.not_lt_zero _)
  | n + 1, ⟨x, h, hp⟩ => by
    by_cases hn : P n
    · exact ⟨n, Nat.lt_succ_self n, hn, fun y h1 h2 => by omega⟩
    · have hx : x ≠ n := fun e => hn (e ▸ hp)
      obtain ⟨z, h1, h2, h3⟩ := greatest P n ⟨x, by omega, hp⟩
      exact ⟨z, by omega, h2, fun y h4 h5 => by
        by_cases e : y = n
        · subst e; exact hn
        · exact h3 y h4 (by omega)⟩
/-- The heights over the covers are the heights. -/
theorem H_covers {B : Nat → Nat → Bool} {m : Nat} (tr : ∀ a b c, a < m → b < m → c < m → B a b = true → B b c = true → B a c = true) (dn : ∀ a b, a < m → b < m → B a b = true → a ≠ b → b < a)
    {a : Nat} (ha : a < m) (C : List Nat) (hC : ∀ x, x ∈ C ↔ x < m ∧ x ≠ a ∧ B a x = true ∧ ∀ k, k < m → k = a ∨ k = x ∨ ¬ (B a k = true ∧ B k x = true)) : fm (H B) 0 C = H B a := by
  apply Nat.le_antisymm
  · rcases fm_att (H B) C 0 with h | ⟨b, hb, h⟩
    · omega
    · have h2 := (hC b).1 hb
      rw [h]
      exact H_ge (dn a b ha h2.1 h2.2.2.1 (fun e => h2.2.1 e.symm)) h2.2.2.1
  · rcases H_att B a with h | ⟨b, hb, hB, h⟩
    · omega
    · obtain ⟨c, c1, ⟨c2, c3⟩, c4⟩ := greatest (fun x => B a x = true ∧ (x = b ∨ B x b = true)) a ⟨b, hb, hB, Or.inl rfl⟩
      have hc : c ∈ C := (hC c).2 ⟨by omega, by omega, c2, fun k hk => by
        apply Decidable.byContradiction
        intro hn
        simp only [not_or, Classical.not_not] at hn
        obtain ⟨n1, n2, n3, n4⟩ := hn
        have k1 := dn a k ha hk n3 (fun e => n1 e.symm)
        have k2 := dn k c hk (by omega) n4 n2
        refine c4 k k2 k1 ⟨n3, Or.inr ?_⟩
        rcases c3 with e | e
        · rw [← e]; exact n4
        · exact tr k c b hk (by omega) (by omega) n4 e⟩
      have h1 := fm_ge (H B) C 0 c hc
      rcases c3 with e | e
      · rw [e] at h1; omega
      · by_cases ecb : c = b
        · rw [ecb] at h1; omega
        · have h2 := H_ge (dn c b (by omega) (by omega) e ecb) e
          omega

theorem eqIntS_loop (a b : List Int) (hl : a.length = b.length) (hn : a.length ≤ 281474976710656) : ∀ (d i k : Nat), i + d = a.length → d < k → laws_eqIntS.l0 k a b (i : Int) = some (decide (a.drop i = b.drop i))
  | 0, i, k, hi, hk => by
    obtain ⟨k, rfl⟩ : ∃ m, k = m + 1 := ⟨k - 1, by omega⟩
    simp only [laws_eqIntS.l0]; rw [if_neg (by omega), List.drop_eq_nil_of_le (by omega), List.drop_eq_nil_of_le (by omega)]; simp
  | d + 1, i, k, hi, hk => by
    obtain ⟨k, rfl⟩ : ∃ m, k = m + 1 := ⟨k - 1, by omega⟩
    have h1 : i < a.length := by omega
    have h2 : i < b.length := by omega
    have ih := eqIntS_loop a b hl hn d (i + 1) k (by omega) (by omega)
    simp only [laws_eqIntS.l0]
    rw [if_pos (by omega), if_pos (by omega), if_pos (by omega), wstep (n := a.length) (by omega) (by omega) hn]
    have ra : rd a (i : Int) = a[i] := by unfold rd; rw [Int.toNat_natCast, List.getD_eq_getElem?_getD, List.getElem?_eq_getElem h1]; rfl
    have rb : rd b (i : Int) = b[i] := by unfold rd; rw [Int.toNat_natCast, List.getD_eq_getElem?_getD, List.getElem?_eq_getElem h2]; rfl
    rw [ra, rb, List.drop_eq_getElem_cons h1, List.drop_eq_getElem_cons h2]
    by_cases e : a[i] = b[i]
    · rw [if_pos e, e]
      have : ((i : Int) + 1) = ((i + 1 : Nat) : Int) := by omega
      rw [this, ih]; simp only [List.cons.injEq, true_and]
    · rw [if_neg e]; simp only [List.cons.injEq, e, false_and, decide_false]
theorem eqIntS_eq (a b : List Int) (hn : a.length ≤ 281474976710656) {k : Nat} (hk : a.length < k) : laws_eqIntS.f k a b = some (decide (a = b)) := by
  unfold laws_eqIntS.f
  by_cases hl : a.length = b.length
  · rw [if_pos (by omega)]
    have := eqIntS_loop a b hl hn a.length 0 k (by omega) hk
    simpa using this
  · rw [if_neg (by omega)]
    have : a ≠ b := fun h => hl (by rw [h])
    simp [this]

theorem toIntS_loop (a : List Int) (hn : a.length ≤ 35184372088832) : ∀ (d i k : Nat), i + d = a.length → d < k → laws_toIntS.l0 k a (a.take i ++ List.replicate d 0) (i : Int) = some a
  | 0, i, k, hi, hk => by
    obtain ⟨k, rfl⟩ : ∃ m, k = m + 1 := ⟨k - 1, by omega⟩
    simp only [laws_toIntS.l0]; rw [if_neg (by omega), List.take_of_length_le (by omega)]; simp
  | d + 1, i, k, hi, hk => by
    obtain ⟨k, rfl⟩ : ∃ m, k = m + 1 := ⟨k - 1, by omega⟩
    have h1 : i < a.length := by omega
    have ih := toIntS_loop a hn d (i + 1) k (by omega) (by omega)
    have hl : (a.take i ++ List.replicate (d + 1) 0).length = a.length := by rw [List.length_append, List.length_take, List.length_replicate]; omega
    simp only [laws_toIntS.l0]
    have e : (a.take i ++ List.replicate (d + 1) 0).set ((i : Int)).toNat (rd a (i : Int)) = a.take (i + 1) ++ List.replicate d 0 := by
      rw [Int.toNat_natCast, rd_nat a i h1, List.set_append_right _ _ (by rw [List.length_take]; omega), List.length_take, Nat.min_eq_left (by omega), Nat.sub_self, List.replicate_succ, List.set_cons_zero, List.take_succ_eq_append_getElem h1, List.append_assoc]
      rfl
    rw [if_pos (by omega), if_pos (by omega), if_pos (by rw [hl]; omega), e, wstep (n := a.length) (by omega) (by omega) (by omega), show (i : Int) + 1 = ((i + 1 : Nat) : Int) from by omega]
    exact ih
theorem toIntS_eq (a : List Int) (hn : a.length ≤ 35184372088832) {k : Nat} (hk : a.length < k) : laws_toIntS.f k a = some a := by
  unfold laws_toIntS.f
  rw [if_pos (by omega), if_pos (by omega), Int.toNat_natCast]
  have := toIntS_loop a hn a.length 0 k (by omega) hk
  simpa using this

theorem szIntS_eq (a : List Int) (hm : a.length ≤ maxLen) : laws_szIntS.f a 1048576 = some (if a.length ≤ 1048576 then 1048576 - (a.length : Int) else -1) := by
  unfold maxLen at hm
  unfold laws_szIntS.f
  rw [w64 (by omega) (by omega)]
  by_cases h : a.length ≤ 1048576
  · rw [if_neg (by omega), if_pos h]
  · rw [if_pos (by omega), if_neg h]
theorem szContext_eq (n : Int) (a : List Int) (hm : a.length ≤ maxLen) : laws_szContext.f n a 1048576 = some (if a.length ≤ 1048576 then 1048576 - (a.length : Int) else -1) := by
  unfold laws_szContext.f
  rw [szIntS_eq a hm, Option.bind_some]
  by_cases h : a.length ≤ 1048576
  · rw [if_pos h, if_neg (by omega)]
  · rw [if_neg h]; simp
theorem toContext_eq (n : Int) (a : List Int) (hn : a.length ≤ 1048576) {k : Nat} (hk : a.length < k) : laws_toContext.f k n a = some (n, a) := by
  unfold laws_toContext.f
  rw [toIntS_eq a (by omega) hk]; rfl
theorem eqContext_eq (n : Int) (a : List Int) (m : Int) (b : List Int) (hn : a.length ≤ 281474976710656) {k : Nat} (hk : a.length < k) : laws_eqContext.f k n a m b = some (decide (n = m ∧ a = b)) := by
  unfold laws_eqContext.f
  rw [eqIntS_eq a b hn hk]
  by_cases h : n = m
  · by_cases h2 : a = b <;> simp [h, h2]
  · simp [h]

theorem spec_IsSet_eq (n s : Int) : spec_IsSet.f n s = some (isSetB n s) := by
  unfold spec_IsSet.f spec_l1In.f isSetB
  by_cases h0 : 0 ≤ n
  · by_cases h1 : n ≤ 8
    · have hw := u64_small h0 (by omega)
      rw [hw, shl_full h0 h1]
      by_cases h2 : 0 ≤ s <;> simp [h0, h1, h2]
    · simp [h0, h1]
  · simp [h0]

/-- Is it a context? -/
def ctxB (n : Int) (a : List Int) : Bool := decide (0 ≤ n ∧ n ≤ 6) && (decide (a.length ≤ 8) && a.all (isSetB n))
theorem ctxB_out {n : Int} {a : List Int} (h : ctxB n a = true) : 0 ≤ n ∧ n ≤ 6 ∧ a.length ≤ 8 ∧ ∀ x ∈ a, isSetB n x = true := by
  unfold ctxB at h
  simp only [Bool.and_eq_true, decide_eq_true_eq, List.all_eq_true] at h
  exact ⟨h.1.1, h.1.2, h.2.1, h.2.2⟩
theorem spec_IsContext_loop (n : Int) (a : List Int) (hn : a.length ≤ 281474976710656) : ∀ (d i k : Nat), i + d = a.length → d < k → spec_IsContext.l0 k (i : Int) n a = some (decide (0 ≤ n ∧ n ≤ 6) && (decide (a.length ≤ 8) && (a.drop i).all (isSetB n)))
  | 0, i, k, hi, hk => by
    obtain ⟨k, rfl⟩ : ∃ m, k = m + 1 := ⟨k - 1, by omega⟩
    simp only [spec_IsContext.l0]; rw [if_neg (by omega), List.drop_eq_nil_of_le (by omega)]
    unfold spec_l1In.f
    have e : decide ((a.length : Int) ≤ 8) = decide (a.length ≤ 8) := by rw [decide_eq_decide]; omega
    rw [e]
    by_cases h0 : 0 ≤ n
    · by_cases h1 : n ≤ 6 <;> simp [h0, h1]
    · simp [h0]
  | d + 1, i, k, hi, hk => by
    obtain ⟨k, rfl⟩ : ∃ m, k = m + 1 := ⟨k - 1, by omega⟩
    have h1 : i < a.length := by omega
    have ih := spec_IsContext_loop n a hn d (i + 1) k (by omega) (by omega)
    simp only [spec_IsContext.l0]
    rw [if_pos (by omega), if_pos (by omega), rd_nat a i h1, spec_IsSet_eq, Option.bind_some, List.drop_eq_getElem_cons h1, List.all_cons, wstep (n := a.length) (by omega) (by omega) hn]
    cases hs : isSetB n a[i] with
    | true => rw [if_pos rfl, show (i : Int) + 1 = ((i + 1 : Nat) : Int) from by omega, ih, Bool.true_and]
    | false => simp
theorem spec_IsContext_eq (n : Int) (a : List Int) (hn : a.length ≤ 281474976710656) {k : Nat} (hk : a.length < k) : spec_IsContext.f k n a = some (ctxB n a) := by
  unfold spec_IsContext.f ctxB
  have := spec_IsContext_loop n a hn a.length 0 k (by omega) hk
  simpa using this
theorem impl_IsContext_eq (n : Int) (a : List Int) : impl_IsContext.f n a = some (ctxB n a) := by
  unfold impl_IsContext.f ctxB impl_within.f
  have e : ∀ x, impl_IsContext.row n x = isSetB n x := fun x => by unfold impl_IsContext.row; rw [impl_IsSet_eq]; rfl
  have e2 : (!(a.any fun x => !impl_IsContext.row n x)) = a.all (isSetB n) := by
    simp only [e]
    induction a with
    | nil => rfl
    | cons x l ih => simp only [List.any_cons, List.all_cons, Bool.not_or, Bool.not_not, ih]
  rw [e2]
  by_cases h0 : 0 ≤ n
  · by_cases h1 : n ≤ 6
    · by_cases h2 : a.length ≤ 8
      · have h3 : (a.length : Int) ≤ 8 := by omega
        simp [h0, h1, h2, h3]
      · have h3 : ¬ (a.length : Int) ≤ 8 := by omega
        simp [h0, h1, h2, h3]
    · simp [h0, h1]
  · simp [h0]

/-- The rows of a set s of objects, from i on, d of them, met with acc. -/
def andFrom (a : List Int) (s : Nat) : Nat → Nat → Nat → Nat
  | _, 0, acc => acc
  | i, d + 1, acc => andFrom a s (i + 1) d (if s.testBit i then acc &&& row a i else acc)
theorem andFrom_bit (a : List Int) (s m : Nat) : ∀ (d i acc : Nat), (andFrom a s i d acc).testBit m = true ↔ acc.testBit m = true ∧ ∀ g, i ≤ g → g < i + d → s.testBit g = true → (row a g).testBit m = true
  | 0, i, acc => by simp only [andFrom]; exact ⟨fun h => ⟨h, fun g h1 h2 => absurd h2 (by omega)⟩, fun h => h.1⟩
  | d + 1, i, acc => by
    simp only [andFrom]
    rw [andFrom_bit a s m d (i + 1)]
    cases hs : s.testBit i with
    | true =>
      rw [if_pos rfl, Nat.testBit_and, Bool.and_eq_true]
      constructor
      · rintro ⟨⟨h1, h2⟩, h3⟩
        refine ⟨h1, fun g hg hg2 hb => ?_⟩
        by_cases e : g = i
        · subst e; exact h2
        · exact h3 g (by omega) (by omega) hb
      · rintro ⟨h1, h2⟩
        exact ⟨⟨h1, h2 i (Nat.le_refl _) (by omega) hs⟩, fun g hg hg2 => h2 g (by omega) (by omega)⟩
    | false =>
      rw [if_neg (by simp)]
      constructor
      · rintro ⟨h1, h3⟩
        refine ⟨h1, fun g hg hg2 hb => ?_⟩
        by_cases e : g = i
        · subst e; rw [hs] at hb; cases hb
        · exact h3 g (by omega) (by omega) hb
      · rintro ⟨h1, h2⟩
        exact ⟨h1, fun g hg hg2 => h2 g (by omega) (by omega)⟩
theorem andFrom_lt (a : List Int) (s : Nat) : ∀ (d i acc : Nat) (n : Nat), acc < 2 ^ n → andFrom a s i d acc < 2 ^ n := by
  intro d i acc n h
  refine lt_of_bits fun m hm => ?_
  have h1 := ((andFrom_bit a s m d i acc).1 hm).1
  apply Decidable.byContradiction
  intro hlt
  rw [lt_bits h (by omega)] at h1
  cases h1
/-- The attributes that all objects of s have. -/
def intentN (n : Nat) (a : List Int) (s : Nat) : Nat := andFrom a s 0 a.length (2 ^ n - 1)
theorem intentN_lt (n : Nat) (a : List Int) (s : Nat) : intentN n a s < 2 ^ n := andFrom_lt a s _ _ _ n (Nat.sub_lt (Nat.two_pow_pos n) (by decide))
theorem intentN_bit (n : Nat) (a : List Int) (s m : Nat) : (intentN n a s).testBit m = true ↔ m < n ∧ ∀ g, g < a.length → s.testBit g = true → (row a g).testBit m = true := by
  unfold intentN
  rw [andFrom_bit, full_bit, decide_eq_true_eq]
  exact ⟨fun h => ⟨h.1, fun g hg => h.2 g (Nat.zero_le _) (by omega)⟩, fun h => ⟨h.1, fun g _ hg => h.2 g (by omega)⟩⟩
/-- The objects from i on whose rows have all of t, joined with acc. -/
def extFrom (a : List Int) (t : Nat) : Nat → Nat → Nat → Nat
  | _, 0, acc => acc
  | i, d + 1, acc => extFrom a t (i + 1) d (if row a i &&& t = t then acc ||| 2 ^ i else acc)
theorem extFrom_bit (a : List Int) (t g : Nat) : ∀ (d i acc : Nat), (extFrom a t i d acc).testBit g = true ↔ acc.testBit g = true ∨ (i ≤ g ∧ g < i + d ∧ row a g &&& t = t)
  | 0, i, acc => by simp only [extFrom]; exact ⟨fun h => .inl h, fun h => h.elim id (fun h => absurd h.2.1 (by omega))⟩
  | d + 1, i, acc => by
    simp only [extFrom]
    rw [extFrom_bit a t g d (i + 1)]
    by_cases hs : row a i &&& t = t
    · rw [if_pos hs, Nat.testBit_or, two_pow_bit, Bool.or_eq_true, decide_eq_true_eq]
      constructor
      · rintro ((h | rfl) | ⟨h1, h2, h3⟩)
        · exact .inl h
        · exact .inr ⟨Nat.le_refl _, by omega, hs⟩
        · exact .inr ⟨by omega, by omega, h3⟩
      · rintro (h | ⟨h1, h2, h3⟩)
        · exact .inl (.inl h)
        · by_cases e : i = g
          · exact .inl (.inr e)
          · exact .inr ⟨by omega, by omega, h3⟩
    · rw [if_neg hs]
      constructor
      · rintro (h | ⟨h1, h2, h3⟩)
        · exact .inl h
        · exact .inr ⟨by omega, by omega, h3⟩
      · rintro (h | ⟨h1, h2, h3⟩)
        · exact .inl h
        · by_cases e : i = g
          · subst e; exact absurd h3 hs
          · exact .inr ⟨by omega, by omega, h3⟩
/-- The objects that have all attributes of t. -/
def extentN (a : List Int) (t : Nat) : Nat := extFrom a t 0 a.length 0
theorem and_eq_bits (x t : Nat) : x &&& t = t ↔ ∀ m, t.testBit m = true → x.testBit m = true := by
  constructor
  · intro h m hm
    have := congrArg (fun z : Nat => z.testBit m) h
    simp only [Nat.testBit_and, hm, Bool.and_true] at this
    exact this
  · intro h
    apply Nat.eq_of_testBit_eq; intro i
    rw [Nat.testBit_and]
    cases ht : t.testBit i with
    | true => rw [h i ht]; rfl
    | false => simp
theorem extentN_bit (a : List Int) (t g : Nat) : (extentN a t).testBit g = true ↔ g < a.length ∧ ∀ m, t.testBit m = true → (row a g).testBit m = true := by
  unfold extentN
  rw [extFrom_bit, Nat.zero_testBit, and_eq_bits]
  constructor
  · rintro (h | h)
    · cases h
    · exact ⟨by omega, h.2.2⟩
  · intro h; exact .inr ⟨Nat.zero_le _, by omega, h.2⟩
theorem extentN_lt (a : List Int) (t : Nat) : extentN a t < 2 ^ a.length := lt_of_bits fun g hg => ((extentN_bit a t g).1 hg).1
/-- The objects from i on that have the attribute m, joined with acc. -/
def colFrom (a : List Int) (m : Nat) : Nat → Nat → Nat → Nat
  | _, 0, acc => acc
  | i, d + 1, acc => colFrom a m (i + 1) d (acc ||| (if (row a i).testBit m then 2 ^ i else 0))
theorem colFrom_bit (a : List Int) (m g : Nat) : ∀ (d i acc : Nat), (colFrom a m i d acc).testBit g = true ↔ acc.testBit g = true ∨ (i ≤ g ∧ g < i + d ∧ (row a g).testBit m = true)
  | 0, i, acc => by simp only [colFrom]; exact ⟨fun h => .inl h, fun h => h.elim id (fun h => absurd h.2.1 (by omega))⟩
  | d + 1, i, acc => by
    simp only [colFrom]
    rw [colFrom_bit a m g d (i + 1), Nat.testBit_or, Bool.or_eq_true]
    cases hs : (row a i).testBit m with
    | true =>
      rw [if_pos rfl, two_pow_bit, decide_eq_true_eq]
      constructor
      · rintro ((h | rfl) | ⟨h1, h2, h3⟩)
        · exact .inl h
        · exact .inr ⟨Nat.le_refl _, by omega, hs⟩
        · exact .inr ⟨by omega, by omega, h3⟩
      · rintro (h | ⟨h1, h2, h3⟩)
        · exact .inl (.inl h)
        · by_cases e : i = g
          · exact .inl (.inr e)
          · exact .inr ⟨by omega, by omega, h3⟩
    | false =>
      rw [if_neg (by simp), Nat.zero_testBit]
      constructor
      · rintro ((h | h) | ⟨h1, h2, h3⟩)
        · exact .inl h
        · cases h
        · exact .inr ⟨by omega, by omega, h3⟩
      · rintro (h | ⟨h1, h2, h3⟩)
        · exact .inl (.inl h)
        · by_cases e : i = g
          · subst e; rw [hs] at h3; cases h3
          · exact .inr ⟨by omega, by omega, h3⟩
/-- The objects that have the attribute m. -/
def colN (a : List Int) (m : Nat) : Nat := colFrom a m 0 a.length 0
theorem colN_bit (a : List Int) (m g : Nat) : (colN a m).testBit g = true ↔ g < a.length ∧ (row a g).testBit m = true := by
  unfold colN
  rw [colFrom_bit, Nat.zero_testBit]
  constructor
  · rintro (h | h)
    · cases h
    · exact ⟨by omega, h.2.2⟩
  · intro h; exact .inr ⟨Nat.zero_le _, by omega, h.2⟩
theorem colN_lt (a : List Int) (m : Nat) : colN a m < 2 ^ a.length := lt_of_bits fun g hg => ((colN_bit a m g).1 hg).1
theorem ctx_rows {n : Int} {a : List Int} (h : ctxB n a = true) : RowsOk a := fun x hx => by
  have := isSetB_bd ((ctxB_out h).2.2.2 x hx)
  omega
theorem ctx_row_lt {n : Nat} {a : List Int} (h : ctxB (n : Int) a = true) (g : Nat) : row a g < 2 ^ n := by
  unfold row
  by_cases hg : g < a.length
  · obtain ⟨t, ht, hl, _, _⟩ := isSet_nat ((ctxB_out h).2.2.2 a[g] (List.getElem_mem hg))
    rw [List.getD_eq_getElem?_getD, List.getElem?_eq_getElem hg, Option.getD_some, ht]; exact hl
  · rw [List.getD_eq_getElem?_getD, List.getElem?_eq_none (by omega)]; exact Nat.two_pow_pos n

theorem impl_areObjects_eq (n : Int) (a : List Int) (s : Int) : impl_areObjects.f n a s = some (ctxB n a && isSetB a.length s) := by
  unfold impl_areObjects.f
  rw [impl_IsContext_eq, Option.bind_some]
  cases ctxB n a <;> simp [impl_IsSet_eq]

def fullSet (n : Int) : Int := if 0 ≤ n ∧ n ≤ 8 then full n else 0

theorem impl_FullSet_eq (n : Int) : impl_FullSet.f n = some (fullSet n) := by
  unfold impl_FullSet.f impl_within.f fullSet
  by_cases h0 : 0 ≤ n
  · by_cases h1 : n ≤ 8
    · simp [h0, h1, shl_full h0 h1]
    · simp [h0, h1]
  · simp [h0]

theorem impl_common_loop (l : List Int) (hl : RowsOk l) (hn : l.length ≤ 8) (s : Nat) (hs : s < 256) : ∀ (d i k acc : Nat), i + d = l.length → d < k → acc < 256 → impl_common.l0 k (s : Int) (acc : Int) l (l.length : Int) (i : Int) = some ((andFrom l s i d acc : Nat) : Int)
  | 0, i, k, acc, hi, hk, _ => by
    obtain ⟨k, rfl⟩ : ∃ m, k = m + 1 := ⟨k - 1, by omega⟩
    simp only [impl_common.l0, andFrom]; rw [if_neg (by omega)]
  | d + 1, i, k, acc, hi, hk, hacc => by
    obtain ⟨k, rfl⟩ : ∃ m, k = m + 1 := ⟨k - 1, by omega⟩
    have h1 : i < l.length := by omega
    have hr := row_lt hl i
    have hh : impl_HasElement.f (s : Int) (i : Int) = some (s.testBit i) := by
      rw [impl_HasElement_eq, isSetB8, decide_eq_true (by omega : (0 : Int) ≤ (s : Int) ∧ (s : Int) ≤ 255), decide_eq_true (by omega : (0 : Int) ≤ (i : Int) ∧ (i : Int) ≤ 7)]; rfl
    simp only [impl_common.l0, andFrom]
    rw [if_pos (by omega), if_pos (by omega), if_pos (by omega), hh, Option.bind_some, rd_row hl h1, and_nat _ _ (by omega) (by omega), wstep (n := l.length) (by omega) (by omega) (by omega), show (i : Int) + 1 = ((i + 1 : Nat) : Int) from by omega]
    cases hb : s.testBit i with
    | true =>
      rw [if_pos rfl, if_pos rfl]
      exact impl_common_loop l hl hn s hs d (i + 1) k _ (by omega) (by omega) (Nat.lt_of_le_of_lt Nat.and_le_left hacc)
    | false =>
      rw [if_neg (by simp), if_neg (by simp)]
      exact impl_common_loop l hl hn s hs d (i + 1) k _ (by omega) (by omega) hacc
theorem impl_common_eq {l : List Int} (hl : RowsOk l) (hn : l.length ≤ 8) {s acc : Nat} (hs : s < 256) (hacc : acc < 256) {k : Nat} (hk : 9 ≤ k) : impl_common.f k l s acc = some ((andFrom l s 0 l.length acc : Nat) : Int) := by
  unfold impl_common.f
  exact impl_common_loop l hl hn s hs l.length 0 k acc (by omega) (by omega) hacc

/-- IntentOf. -/
def intentI (n : Int) (a : List Int) (s : Int) : Int := if ctxB n a && isSetB a.length s then ((intentN n.toNat a s.toNat : Nat) : Int) else 0
theorem impl_IntentOf_eq (n : Int) (a : List Int) (s : Int) {k : Nat} (hk : 9 ≤ k) : impl_IntentOf.f k n a s = some (intentI n a s) := by
  unfold impl_IntentOf.f intentI
  rw [impl_areObjects_eq, Option.bind_some]
  cases h : (ctxB n a && isSetB a.length s) with
  | false => simp
  | true =>
    rw [if_pos rfl, if_pos rfl]
    rw [Bool.and_eq_true] at h
    have hc := ctxB_out h.1
    obtain ⟨m, rfl⟩ := Int.eq_ofNat_of_zero_le hc.1
    obtain ⟨t, rfl, h1, h2, h3⟩ := isSet_nat h.2
    have hf := full_bd hc.1 (by omega)
    rw [impl_FullSet_eq, Option.bind_some]
    unfold fullSet
    rw [full_nat] at hf
    rw [if_pos (by omega), full_nat, impl_common_eq (ctx_rows h.1) hc.2.2.1 h3 (by omega) hk]
    rfl

theorem impl_areAttributes_eq (n : Int) (a : List Int) (s : Int) : impl_areAttributes.f n a s = some (ctxB n a && isSetB n s) := by
  unfold impl_areAttributes.f
  rw [impl_IsContext_eq, Option.bind_some]
  cases ctxB n a <;> simp [impl_IsSet_eq]

theorem shr_and_one (x m : Nat) (hx : x < 2 ^ 63) (hm : m ≤ 63) : Go.bits .and .i64 (shr .i64 (x : Int) (m : Int)) 1 = (((if x.testBit m then 1 else 0) : Nat) : Int) := by
  have h1 : shr .i64 (x : Int) (m : Int) = ((x / 2 ^ m : Nat) : Int) := by
    unfold shr
    rw [Int.toNat_natCast, Nat.min_eq_left (by simp [IntKind.bits]; omega)]
    simp
  have h2 : x / 2 ^ m < 2 ^ 63 := Nat.lt_of_le_of_lt (Nat.div_le_self _ _) hx
  rw [h1, show (1 : Int) = ((1 : Nat) : Int) from rfl, and_nat _ _ h2 (by decide), Nat.and_one_is_mod, Nat.testBit_eq_decide_div_mod_eq]
  congr 1
  rcases Nat.mod_two_eq_zero_or_one (x / 2 ^ m) with h | h <;> rw [h] <;> rfl
theorem impl_isAttribute_eq (n : Int) (a : List Int) (m : Int) : impl_isAttribute.f n a m = some (ctxB n a && decide (0 ≤ m ∧ m < n)) := by
  unfold impl_isAttribute.f impl_within.f
  rw [impl_IsContext_eq, Option.bind_some]
  cases h : ctxB n a with
  | false => simp
  | true =>
    have hc := ctxB_out h
    rw [if_pos rfl, w64 (by omega) (by omega)]
    by_cases h0 : 0 ≤ m
    · have e : decide (m ≤ n - 1) = decide (m < n) := by rw [decide_eq_decide]; omega
      simp [h0, e]
    · simp [h0]
theorem impl_ColumnOf_loop (a : List Int) (ha : RowsOk a) (hl : a.length ≤ 8) (m : Nat) (hm : m ≤ 63) : ∀ (d i k acc : Nat), i + d = a.length → d < k → acc < 2 ^ i → impl_ColumnOf.l0 k (m : Int) (acc : Int) a (a.length : Int) (i : Int) = some ((colFrom a m i d acc : Nat) : Int)
  | 0, i, k, acc, hi, hk, _ => by
    obtain ⟨k, rfl⟩ : ∃ m, k = m + 1 := ⟨k - 1, by omega⟩
    simp only [impl_ColumnOf.l0, colFrom]; rw [if_neg (by omega)]
  | d + 1, i, k, acc, hi, hk, hacc => by
    obtain ⟨k, rfl⟩ : ∃ m, k = m + 1 := ⟨k - 1, by omega⟩
    have h1 : i < a.length := by omega
    have hr := row_lt ha i
    have hp := pow_le8 (i := i) (by omega)
    have h2 : 2 ^ (i + 1) = 2 * 2 ^ i := by rw [Nat.pow_succ]; omega
    have hz : (if (row a i).testBit m then 2 ^ i else 0) = (if (row a i).testBit m then 1 else 0) * 2 ^ i := by cases (row a i).testBit m <;> simp
    have hz2 : (if (row a i).testBit m then 2 ^ i else 0) ≤ 2 ^ i := by cases (row a i).testBit m <;> simp
    simp only [impl_ColumnOf.l0, colFrom]
    rw [if_pos (by omega), if_pos (by omega), if_pos (by omega), if_pos (by omega), rd_row ha h1, shr_and_one _ _ (by omega) hm, shl_bit (by split <;> omega) (by omega), ← hz, or_nat _ _ (by omega) (by omega), wstep (n := a.length) (by omega) (by omega) (by omega), show (i : Int) + 1 = ((i + 1 : Nat) : Int) from by omega]
    exact impl_ColumnOf_loop a ha hl m hm d (i + 1) k _ (by omega) (by omega) (or_lt (by omega) (by omega))
/-- ColumnOf. -/
def columnI (n : Int) (a : List Int) (m : Int) : Int := if ctxB n a && decide (0 ≤ m ∧ m < n) then ((colN a m.toNat : Nat) : Int) else 0
theorem impl_ColumnOf_eq (n : Int) (a : List Int) (m : Int) {k : Nat} (hk : 9 ≤ k) : impl_ColumnOf.f k n a m = some (columnI n a m) := by
  unfold impl_ColumnOf.f columnI
  rw [impl_isAttribute_eq, Option.bind_some]
  cases h : (ctxB n a && decide (0 ≤ m ∧ m < n)) with
  | false => simp
  | true =>
    rw [Bool.and_eq_true, decide_eq_true_eq] at h
    have hc := ctxB_out h.1
    obtain ⟨m, rfl⟩ := Int.eq_ofNat_of_zero_le h.2.1
    rw [if_pos rfl, if_pos rfl]
    exact impl_ColumnOf_loop a (ctx_rows h.1) hc.2.2.1 m (by omega) a.length 0 k 0 (by omega) (by omega) (by simp)

/-- All columns. -/
def cols (n : Nat) (a : List Int) : List Int := (List.range n).map (fun m => ((colN a m : Nat) : Int))
theorem impl_columns_loop {n : Nat} {a : List Int} (h : ctxB (n : Int) a = true) : ∀ (d i k : Nat), i + d = n → d + 9 < k → impl_columns.l0 k (cols i a) (n : Int) (i : Int) (n : Int) a = some (cols n a)
  | 0, i, k, hi, hk => by
    obtain ⟨k, rfl⟩ : ∃ m, k = m + 1 := ⟨k - 1, by omega⟩
    simp only [impl_columns.l0]; rw [if_neg (by omega)]
    have : i = n := by omega
    rw [this]
  | d + 1, i, k, hi, hk => by
    obtain ⟨k, rfl⟩ : ∃ m, k = m + 1 := ⟨k - 1, by omega⟩
    have hc := ctxB_out h
    have hl : (cols i a).length = i := by unfold cols; rw [List.length_map, List.length_range]
    have e : columnI (n : Int) a (i : Int) = ((colN a i : Nat) : Int) := by
      unfold columnI
      rw [h, decide_eq_true (by omega : (0 : Int) ≤ (i : Int) ∧ (i : Int) < (n : Int))]; rfl
    have e2 : cols i a ++ [((colN a i : Nat) : Int)] = cols (i + 1) a := by unfold cols; rw [List.range_succ, List.map_append]; rfl
    simp only [impl_columns.l0]
    rw [if_pos (by omega), impl_ColumnOf_eq _ _ _ (by omega), Option.bind_some, if_pos (by omega), e, e2, wstep (n := n) (by omega) (by omega) (by omega), show (i : Int) + 1 = ((i + 1 : Nat) : Int) from by omega]
    exact impl_columns_loop h d (i + 1) k (by omega) (by omega)
theorem impl_columns_eq {n : Nat} {a : List Int} (h : ctxB (n : Int) a = true) {k : Nat} (hk : 20 ≤ k) : impl_columns.f k n a = some (cols n a) := by
  have hc := ctxB_out h
  unfold impl_columns.f
  exact impl_columns_loop h n 0 k (by omega) (by omega)

theorem cols_len (n : Nat) (a : List Int) : (cols n a).length = n := by unfold cols; rw [List.length_map, List.length_range]
theorem cols_row (n : Nat) (a : List Int) {m : Nat} (hm : m < n) : row (cols n a) m = colN a m := by
  unfold row cols
  rw [List.getD_eq_getElem?_getD, List.getElem?_eq_getElem (by rw [List.length_map, List.length_range]; exact hm), Option.getD_some, List.getElem_map, List.getElem_range, Int.toNat_natCast]
theorem cols_ok {n : Nat} {a : List Int} (h : ctxB (n : Int) a = true) : RowsOk (cols n a) := by
  intro x hx
  unfold cols at hx
  rw [List.mem_map] at hx
  obtain ⟨m, _, rfl⟩ := hx
  have h1 := colN_lt a m
  have h2 := pow_le8 (i := a.length) (by have := ctxB_out h; omega)
  omega
theorem common_extent {n : Nat} {a : List Int} {t : Nat} (ht : t < 2 ^ n) : andFrom (cols n a) t 0 (cols n a).length (2 ^ a.length - 1) = extentN a t := by
  apply Nat.eq_of_testBit_eq; intro g
  rw [Bool.eq_iff_iff, andFrom_bit, extentN_bit, full_bit, decide_eq_true_eq, cols_len]
  constructor
  · rintro ⟨h1, h2⟩
    refine ⟨h1, fun m hm => ?_⟩
    have hmn : m < n := by
      apply Decidable.byContradiction
      intro hlt
      rw [lt_bits ht (by omega)] at hm
      cases hm
    have := h2 m (Nat.zero_le _) (by omega) hm
    rw [cols_row n a hmn, colN_bit] at this
    exact this.2
  · rintro ⟨h1, h2⟩
    refine ⟨h1, fun m _ hm2 hb => ?_⟩
    rw [cols_row n a (by omega), colN_bit]
    exact ⟨h1, h2 m hb⟩
/-- ExtentOf. -/
def extentI (n : Int) (a : List Int) (t : Int) : Int := if ctxB n a && isSetB n t then ((extentN a t.toNat : Nat) : Int) else 0
theorem impl_ExtentOf_eq (n : Int) (a : List Int) (t : Int) {k : Nat} (hk : 20 ≤ k) : impl_ExtentOf.f k n a t = some (extentI n a t) := by
  unfold impl_ExtentOf.f extentI
  rw [impl_areAttributes_eq, Option.bind_some]
  cases h : (ctxB n a && isSetB n t) with
  | false => simp
  | true =>
    rw [if_pos rfl, if_pos rfl]
    rw [Bool.and_eq_true] at h
    have hc := ctxB_out h.1
    obtain ⟨m, rfl⟩ := Int.eq_ofNat_of_zero_le hc.1
    obtain ⟨t, rfl, h1, h2, h3⟩ := isSet_nat h.2
    have hf := full_bd (n := (a.length : Int)) (by omega) (by omega)
    rw [impl_columns_eq h.1 hk, Option.bind_some, impl_FullSet_eq, Option.bind_some]
    unfold fullSet
    rw [full_nat] at hf
    rw [if_pos (by omega), full_nat, impl_common_eq (cols_ok h.1) (by rw [cols_len]; omega) h3 (by omega) (by omega), common_extent h1]
    rfl

/-- ClosureOf. -/
def closureN (n : Nat) (a : List Int) (t : Nat) : Nat := intentN n a (extentN a t)
def closureI (n : Int) (a : List Int) (t : Int) : Int := if ctxB n a && isSetB n t then ((closureN n.toNat a t.toNat : Nat) : Int) else 0
theorem extent_set {a : List Int} (h : a.length ≤ 8) (t : Nat) : isSetB (a.length : Int) ((extentN a t : Nat) : Int) = true := isSet_mk h (extentN_lt a t)
theorem intent_set {n : Nat} (hn : n ≤ 8) (a : List Int) (s : Nat) : isSetB (n : Int) ((intentN n a s : Nat) : Int) = true := isSet_mk hn (intentN_lt n a s)
theorem extent_256 {a : List Int} (h : a.length ≤ 8) (t : Nat) : extentN a t < 256 := Nat.lt_of_lt_of_le (extentN_lt a t) (pow_le8 h)
theorem intent_256 {n : Nat} (hn : n ≤ 8) (a : List Int) (s : Nat) : intentN n a s < 256 := Nat.lt_of_lt_of_le (intentN_lt n a s) (pow_le8 hn)

theorem dif_zero {a b : Nat} (h : ∀ i, a.testBit i = true → b.testBit i = true) : dif a b = 0 := by
  apply Nat.eq_of_testBit_eq; intro i
  rw [dif_bit, Nat.zero_testBit]
  cases ha : a.testBit i
  · rfl
  · rw [h i ha]; rfl
theorem dif_sub {a b : Nat} (h : dif a b = 0) {i : Nat} (ha : a.testBit i = true) : b.testBit i = true := by
  have h1 := dif_bit a b i
  rw [h, Nat.zero_testBit, ha] at h1
  cases hb : b.testBit i
  · rw [hb] at h1; cases h1
  · rfl
theorem eq_bits {a b : Nat} (h : ∀ i, a.testBit i = true ↔ b.testBit i = true) : a = b := Nat.eq_of_testBit_eq fun i => Bool.eq_iff_iff.mpr (h i)
theorem sub_closure {n : Nat} {a : List Int} {t : Nat} (ht : t < 2 ^ n) {m : Nat} (hm : t.testBit m = true) : (closureN n a t).testBit m = true :=
  (intentN_bit n a _ m).2 ⟨Decidable.byContradiction fun hlt => absurd hm (by rw [lt_bits ht (by omega)]; decide), fun g _ hb => ((extentN_bit a t g).1 hb).2 m hm⟩
theorem extent_closure {n : Nat} {a : List Int} {t : Nat} (ht : t < 2 ^ n) : extentN a (closureN n a t) = extentN a t := by
  refine eq_bits fun g => ⟨fun h => ?_, fun h => ?_⟩
  · have h1 := (extentN_bit a _ g).1 h
    exact (extentN_bit a t g).2 ⟨h1.1, fun m hm => h1.2 m (sub_closure ht hm)⟩
  · have h1 := (extentN_bit a t g).1 h
    exact (extentN_bit a _ g).2 ⟨h1.1, fun m hm => ((intentN_bit n a _ m).1 hm).2 g h1.1 h⟩
theorem closure_lt (n : Nat) (a : List Int) (t : Nat) : closureN n a t < 2 ^ n := intentN_lt n a _
theorem closure_closure {n : Nat} {a : List Int} {t : Nat} (ht : t < 2 ^ n) : closureN n a (closureN n a t) = closureN n a t := by
  show intentN n a (extentN a (closureN n a t)) = intentN n a (extentN a t)
  rw [extent_closure ht]
theorem closure_mono {n : Nat} {a : List Int} {t u : Nat} (h : ∀ m, t.testBit m = true → u.testBit m = true) {m : Nat} (hm : (closureN n a t).testBit m = true) : (closureN n a u).testBit m = true := by
  have h1 := (intentN_bit n a _ m).1 hm
  refine (intentN_bit n a _ m).2 ⟨h1.1, fun g hg hb => h1.2 g hg ?_⟩
  have h2 := (extentN_bit a u g).1 hb
  exact (extentN_bit a t g).2 ⟨h2.1, fun m hm => h2.2 m (h m hm)⟩
/-- The least set that holds t lies in every closed set that holds t. -/
theorem closure_least {n : Nat} {a : List Int} {t u : Nat} (hc : closureN n a u = u) (h : ∀ m, t.testBit m = true → u.testBit m = true) {m : Nat} (hm : (closureN n a t).testBit m = true) : u.testBit m = true := by
  have := closure_mono h hm
  rw [hc] at this
  exact this

/-- The smallest element in which s and t differ is i, and t has it. -/
def LexAt (s t i : Nat) : Prop := s.testBit i = false ∧ t.testBit i = true ∧ ∀ j, j < i → s.testBit j = t.testBit j
theorem lex_rank {s t i : Nat} (hi : i < 8) (h : LexAt s t i) : rank s < rank t := by
  refine lt_of_bit (7 - i) ?_ ?_ fun j hj => ?_
  · rw [rank_bit, show 7 - (7 - i) = i from by omega, h.1, Bool.and_false]
  · rw [rank_bit, show 7 - (7 - i) = i from by omega, h.2.1, Bool.and_true]; exact decide_eq_true (by omega)
  · rw [rank_bit, rank_bit]
    by_cases h8 : j < 8
    · rw [h.2.2 (7 - j) (by omega)]
    · rw [decide_eq_false h8]; rfl
theorem lex_cases {s t : Nat} (hs : s < 256) (ht : t < 256) : s = t ∨ (∃ i, i < 8 ∧ LexAt s t i) ∨ (∃ i, i < 8 ∧ LexAt t s i) := by
  by_cases e : s = t
  · exact Or.inl e
  right
  obtain ⟨h1, h2, h3⟩ := tzN_spec (xor_ne e) (xor_256 hs ht)
  have hd : ∀ j, j < tzN (s ^^^ t) → s.testBit j = t.testBit j := fun j hj => by
    have := h3 j hj
    rw [Nat.testBit_xor] at this
    cases ha : s.testBit j <;> cases hb : t.testBit j <;> rw [ha, hb] at this <;> first | rfl | cases this
  rw [Nat.testBit_xor] at h2
  cases ha : s.testBit (tzN (s ^^^ t)) <;> cases hb : t.testBit (tzN (s ^^^ t)) <;> rw [ha, hb] at h2
  · cases h2
  · exact Or.inl ⟨_, h1, ha, hb, hd⟩
  · exact Or.inr ⟨_, h1, hb, ha, fun j hj => (hd j hj).symm⟩
  · cases h2
theorem rank_lex {s t : Nat} (hs : s < 256) (ht : t < 256) (h : rank s < rank t) : ∃ i, i < 8 ∧ LexAt s t i := by
  rcases lex_cases hs ht with e | e | ⟨i, hi, e⟩
  · subst e; omega
  · exact e
  · have := lex_rank hi e; omega
theorem rank_sub {s t : Nat} (hs : s < 256) (ht : t < 256) (h : ∀ i, s.testBit i = true → t.testBit i = true) : rank s ≤ rank t := by
  rcases lex_cases hs ht with e | ⟨i, hi, e⟩ | ⟨i, hi, e⟩
  · subst e; exact Nat.le_refl _
  · exact Nat.le_of_lt (lex_rank hi e)
  · have h1 := h i e.2.1
    rw [e.1] at h1; cases h1
/-- The elements of x below i. -/
def low (x i : Nat) : Nat := x &&& (2 ^ i - 1)
theorem low_bit2 (x i j : Nat) : (low x i).testBit j = (x.testBit j && decide (j < i)) := by unfold low; rw [Nat.testBit_and, full_bit]
/-- The closure of what x has below i, and i. -/
def stepC (n : Nat) (a : List Int) (x i : Nat) : Nat := closureN n a (low x i ||| 2 ^ i)
def stepOk (n : Nat) (a : List Int) (x i : Nat) : Bool := !x.testBit i && (low (stepC n a x i) i == low x i)
theorem low_or_lt {n x i : Nat} (hx : x < 2 ^ n) (hi : i < n) : low x i ||| 2 ^ i < 2 ^ n := or_lt (Nat.lt_of_le_of_lt Nat.and_le_left hx) (Nat.pow_lt_pow_right (by decide) hi)
theorem step_closed {n : Nat} {a : List Int} {x i : Nat} (hx : x < 2 ^ n) (hi : i < n) : closureN n a (stepC n a x i) = stepC n a x i := closure_closure (low_or_lt hx hi)
theorem step_has {n : Nat} {a : List Int} {x i : Nat} (hx : x < 2 ^ n) (hi : i < n) : (stepC n a x i).testBit i = true :=
  sub_closure (low_or_lt hx hi) (by rw [Nat.testBit_or, two_pow_bit, decide_eq_true rfl, Bool.or_true])
theorem step_agrees {n : Nat} {a : List Int} {x i : Nat} (h : stepOk n a x i = true) {j : Nat} (hj : j < i) : (stepC n a x i).testBit j = x.testBit j := by
  unfold stepOk at h
  rw [Bool.and_eq_true] at h
  have e : low (stepC n a x i) i = low x i := by simpa using h.2
  have e2 := congrArg (fun z => Nat.testBit z j) e
  simp only [low_bit2, decide_eq_true hj, Bool.and_true] at e2
  exact e2
theorem step_lex {n : Nat} {a : List Int} {x i : Nat} (hx : x < 2 ^ n) (hi : i < n) (h : stepOk n a x i = true) : LexAt x (stepC n a x i) i := by
  refine ⟨?_, step_has hx hi, fun j hj => (step_agrees h hj).symm⟩
  unfold stepOk at h
  rw [Bool.and_eq_true] at h
  simpa using h.1
theorem step_key {n : Nat} {a : List Int} {x s i : Nat} (hx : x < 2 ^ n) (hs : s < 2 ^ n) (hc : closureN n a s = s) (h : LexAt x s i) : i < n ∧ stepOk n a x i = true ∧ ∀ m, (stepC n a x i).testBit m = true → s.testBit m = true := by
  have hi : i < n := Decidable.byContradiction fun hlt => absurd h.2.1 (by rw [lt_bits hs (by omega)]; decide)
  have hsub : ∀ m, (stepC n a x i).testBit m = true → s.testBit m = true := fun m hm => closure_least hc (fun m hm => by
    rw [Nat.testBit_or, two_pow_bit, low_bit2, Bool.or_eq_true, Bool.and_eq_true] at hm
    rcases hm with ⟨h1, h2⟩ | h2
    · rw [← h.2.2 m (of_decide_eq_true h2)]; exact h1
    · have := of_decide_eq_true h2
      subst this; exact h.2.1) hm
  refine ⟨hi, ?_, hsub⟩
  unfold stepOk
  rw [h.1, Bool.not_false, Bool.true_and, beq_iff_eq]
  refine eq_bits fun j => ?_
  rw [low_bit2, low_bit2, Bool.and_eq_true, Bool.and_eq_true]
  constructor
  · rintro ⟨h1, h2⟩
    refine ⟨?_, h2⟩
    rw [h.2.2 j (of_decide_eq_true h2)]
    exact hsub j h1
  · rintro ⟨h1, h2⟩
    refine ⟨sub_closure (low_or_lt hx hi) ?_, h2⟩
    rw [Nat.testBit_or, low_bit2, h1, h2]; rfl
/-- The next closed set, as the specification seeks it: from above. -/
def nextFrom (n : Nat) (a : List Int) (x : Nat) : Nat → Option Nat
  | 0 => none
  | i + 1 => if stepOk n a x i then some (stepC n a x i) else nextFrom n a x i
theorem nextFrom_spec (n : Nat) (a : List Int) (x : Nat) : ∀ m, m ≤ n → match nextFrom n a x m with
    | none => ∀ i, i < m → stepOk n a x i = false
    | some c => ∃ i, i < m ∧ c = stepC n a x i ∧ stepOk n a x i = true ∧ ∀ j, i < j → j < m → stepOk n a x j = false
  | 0, _ => by simp only [nextFrom]; exact fun i hi => absurd hi (Nat.not_lt_zero _)
  | m + 1, hm => by
    have ih := nextFrom_spec n a x m (by omega)
    simp only [nextFrom]
    cases h : stepOk n a x m with
    | true => simp only [if_true]; exact ⟨m, by omega, rfl, h, fun j h1 h2 => by omega⟩
    | false =>
      simp only [Bool.false_eq_true, if_false]
      cases hn : nextFrom n a x m with
      | none =>
        rw [hn] at ih
        intro i hi
        by_cases e : i = m
        · subst e; exact h
        · exact ih i (by omega)
      | some c =>
        rw [hn] at ih
        obtain ⟨i, h1, h2, h3, h4⟩ := ih
        exact ⟨i, by omega, h2, h3, fun j hj hj2 => by
          by_cases e : j = m
          · subst e; exact h
          · exact h4 j hj (by omega)⟩
/-- Ganter: it is the least closed set behind x, in the lectic order. -/
theorem ganter {n : Nat} (hn : n ≤ 8) {a : List Int} {x : Nat} (hx : x < 2 ^ n) : match nextFrom n a x n with
    | none => ∀ s, s < 2 ^ n → closureN n a s = s → ¬ rank x < rank s
    | some c => c < 2 ^ n ∧ closureN n a c = c ∧ rank x < rank c ∧ ∀ s, s < 2 ^ n → closureN n a s = s → rank x < rank s → rank c ≤ rank s := by
  have h8 := pow_le8 hn
  have key := nextFrom_spec n a x n (Nat.le_refl _)
  cases h : nextFrom n a x n with
  | none =>
    rw [h] at key
    intro s hs hc hr
    obtain ⟨i, hi, hl⟩ := rank_lex (by omega) (by omega) hr
    obtain ⟨h1, h2, _⟩ := step_key hx hs hc hl
    have := key i h1
    rw [h2] at this; cases this
  | some c =>
    rw [h] at key
    obtain ⟨i, hi, rfl, hok, hmax⟩ := key
    have hcl := closure_lt n a (low x i ||| 2 ^ i)
    have hlt : stepC n a x i < 2 ^ n := hcl
    refine ⟨hlt, step_closed hx hi, lex_rank (by omega) (step_lex hx hi hok), fun s hs hc hr => ?_⟩
    obtain ⟨j, hj, hl⟩ := rank_lex (by omega) (by omega) hr
    obtain ⟨h1, h2, h3⟩ := step_key hx hs hc hl
    rcases Nat.lt_trichotomy j i with hji | hji | hji
    · refine Nat.le_of_lt (lex_rank hj ⟨?_, hl.2.1, fun m hm => ?_⟩)
      · rw [step_agrees hok hji]; exact hl.1
      · rw [step_agrees hok (by omega)]; exact hl.2.2 m hm
    · subst hji
      exact rank_sub (by omega) (by omega) h3
    · have := hmax j hji h1
      rw [h2] at this; cases this
/-- In a rising list the first that p takes is the least. -/
theorem find_least {p : Int → Bool} {l : List Int} (hl : l.Pairwise (fun s t => rankI s < rankI t)) {b : Int} (hb : b ∈ l) (hp : p b = true) (hm : ∀ s ∈ l, p s = true → rankI b ≤ rankI s) : l.find? p = some b := by
  induction l with
  | nil => cases hb
  | cons c l ih =>
    rw [List.pairwise_cons] at hl
    rw [List.find?_cons]
    rw [List.mem_cons] at hb
    rcases hb with rfl | hb
    · rw [hp]
    · cases hc : p c with
      | true => have := hm c List.mem_cons_self hc; have := hl.1 b hb; omega
      | false => exact ih hl.2 hb fun s hs hps => hm s (List.mem_cons_of_mem _ hs) hps

theorem lecticOf_congr {l l' : List Int} (h : ∀ x, 0 ≤ x ∧ x ≤ 255 → (x ∈ l ↔ x ∈ l')) : lecticOf l = lecticOf l' :=
  rising_eq _ _ (lecticOf_sorted l) (lecticOf_sorted l') fun x => by
    rw [lecticOf_mem, lecticOf_mem]
    exact ⟨fun hh => ⟨hh.1, (h x hh.1).1 hh.2⟩, fun hh => ⟨hh.1, (h x hh.1).2 hh.2⟩⟩
theorem lecticOf_len (l : List Int) : (lecticOf l).length ≤ 256 := by
  have h : lecticAll.length = 256 := by decide +kernel
  unfold lecticOf
  exact Nat.le_trans (List.length_filter_le _ _) (by omega)
def sortL (l : List Int) : List Int := if l.all (isSetB 8) then lecticOf l else []
theorem impl_SortLectic_eq (l : List Int) (hl : l.length ≤ 17592186044416) : impl_SortLectic.f l = some (sortL l) := by
  unfold impl_SortLectic.f sortL
  rw [if_pos hl]
  have e : l.any (fun x => !isSetB 8 x) = !l.all (isSetB 8) := by rw [List.all_eq_not_any_not, Bool.not_not]
  rw [e]
  cases l.all (isSetB 8) <;> simp
theorem sortL_len (l : List Int) : (sortL l).length ≤ 256 := by
  unfold sortL
  cases l.all (isSetB 8)
  · simp
  · exact lecticOf_len l

/-- The numbers below m. -/
def rangeI (m : Nat) : List Int := (List.range m).map (fun i : Nat => (i : Int))
theorem rangeI_len (m : Nat) : (rangeI m).length = m := by unfold rangeI; rw [List.length_map, List.length_range]
theorem rangeI_succ (m : Nat) : rangeI (m + 1) = rangeI m ++ [(m : Int)] := by unfold rangeI; rw [List.range_succ, List.map_append]; rfl
theorem rangeI_mem (m : Nat) (x : Int) : x ∈ rangeI m ↔ 0 ≤ x ∧ x < (m : Int) := by
  unfold rangeI
  rw [List.mem_map]
  constructor
  · rintro ⟨i, hi, rfl⟩
    rw [List.mem_range] at hi; omega
  · rintro ⟨h0, h1⟩
    exact ⟨x.toNat, by rw [List.mem_range]; omega, by omega⟩
theorem allSets_loop (m : Nat) (hm : m ≤ 256) (d : Nat) : ∀ (i k : Nat), i + d = m → d < k → impl_allSets.l0 k (rangeI i) (m : Int) (i : Int) = some (sortL (rangeI m)) := by
  induction d with
  | zero =>
    intro i k hi hk
    obtain ⟨k, rfl⟩ : ∃ m, k = m + 1 := ⟨k - 1, by omega⟩
    have e : i = m := by omega
    subst e
    simp only [impl_allSets.l0]
    rw [if_neg (by omega), impl_SortLectic_eq _ (by rw [rangeI_len]; omega)]; rfl
  | succ d ih =>
    intro i k hi hk
    obtain ⟨k, rfl⟩ : ∃ m, k = m + 1 := ⟨k - 1, by omega⟩
    have hw : wrap64 ((i : Int) + 1) = ((i + 1 : Nat) : Int) := by rw [w64 (by omega) (by omega)]; omega
    have hl := rangeI_len i
    simp only [impl_allSets.l0]
    rw [if_pos (by omega), if_pos (by omega), hw, ← rangeI_succ]
    exact ih (i + 1) k (by omega) (by omega)
/-- All sets of n elements, in lectic order. -/
def allN (n : Nat) : List Int := lecticOf (rangeI (2 ^ n))
theorem allSets_eq {n : Nat} (hn : n ≤ 8) {k : Nat} (hk : 257 ≤ k) : impl_allSets.f k (n : Int) = some (allN n) := by
  have h8 := pow_le8 hn
  unfold impl_allSets.f
  have e1 : shl .i64 1 (n : Int) = ((2 ^ n : Nat) : Int) := shl_one hn
  have e0 : rangeI 0 = [] := rfl
  have := allSets_loop (2 ^ n) h8 (2 ^ n) 0 k (by omega) (by omega)
  rw [e0] at this
  rw [if_pos (by omega), e1]
  refine this.trans ?_
  unfold sortL allN
  rw [if_pos]
  rw [List.all_eq_true]
  intro x hx
  have := (rangeI_mem _ _).1 hx
  rw [isSetB8]; exact decide_eq_true (by omega)
theorem allN_mem {n : Nat} (hn : n ≤ 8) (x : Int) : x ∈ allN n ↔ ∃ s : Nat, x = (s : Int) ∧ s < 2 ^ n := by
  have h8 := pow_le8 hn
  unfold allN
  rw [lecticOf_mem, rangeI_mem]
  constructor
  · rintro ⟨_, h0, h1⟩
    exact ⟨x.toNat, by omega, by omega⟩
  · rintro ⟨s, rfl, hs⟩
    omega
theorem allN_sorted (n : Nat) : (allN n).Pairwise (fun s t => rankI s < rankI t) := lecticOf_sorted _
theorem allN_len (n : Nat) : (allN n).length ≤ 256 := lecticOf_len _

theorem impl_ClosureOf_eq (n : Int) (a : List Int) (t : Int) {k : Nat} (hk : 20 ≤ k) : impl_ClosureOf.f k n a t = some (closureI n a t) := by
  unfold impl_ClosureOf.f closureI
  rw [impl_areAttributes_eq, Option.bind_some]
  cases h : (ctxB n a && isSetB n t) with
  | false => simp
  | true =>
    have h0 := h
    rw [Bool.and_eq_true] at h
    have hc := ctxB_out h.1
    obtain ⟨m, rfl⟩ := Int.eq_ofNat_of_zero_le hc.1
    obtain ⟨t, rfl, h1, h2, h3⟩ := isSet_nat h.2
    rw [if_pos rfl, if_pos rfl, impl_ExtentOf_eq _ _ _ hk, Option.bind_some, impl_IntentOf_eq _ _ _ (by omega), Option.bind_some]
    have e1 : extentI (m : Int) a (t : Int) = ((extentN a t : Nat) : Int) := by unfold extentI; rw [if_pos h0, Int.toNat_natCast]
    rw [e1]
    unfold intentI
    rw [h.1, extent_set hc.2.2.1, if_pos (by rfl)]
    rfl

def isClosedB (n : Int) (a : List Int) (t : Int) : Bool := (ctxB n a && isSetB n t) && (closureI n a t == t)
theorem impl_IsClosed_eq (n : Int) (a : List Int) (t : Int) {k : Nat} (hk : 20 ≤ k) : impl_IsClosed.f k n a t = some (isClosedB n a t) := by
  unfold impl_IsClosed.f isClosedB
  rw [impl_areAttributes_eq, Option.bind_some, impl_ClosureOf_eq _ _ _ hk]
  cases h : (ctxB n a && isSetB n t) <;> simp

/-- Of the closed sets the first behind x, in the lectic order. -/
def nextI (n : Nat) (a : List Int) (x : Nat) : Int × Bool := match nextFrom n a x n with
  | none => (0, false)
  | some c => ((c : Int), true)
/-- The closed sets, in the lectic order. -/
def closedL (n : Nat) (a : List Int) : List Int := (allN n).filter (fun s => isClosedB n a s)
theorem closedB_nat {n : Nat} {a : List Int} (h : ctxB (n : Int) a = true) {s : Nat} (hs : s < 2 ^ n) : isClosedB (n : Int) a (s : Int) = decide (closureN n a s = s) := by
  have hc := ctxB_out h
  unfold isClosedB closureI
  rw [h, isSet_mk (by omega) hs]
  show (((closureN n a s : Nat) : Int) == (s : Int)) = _
  by_cases e : closureN n a s = s
  · rw [e]; simp
  · rw [decide_eq_false e]
    exact beq_eq_false_iff_ne.mpr (by omega)
theorem before_nat {s t : Nat} (hs : s < 256) (ht : t < 256) : beforeI (s : Int) (t : Int) = decide (rank s < rank t) := by
  unfold beforeI
  have s1 : isSetB 8 (s : Int) = true := by rw [isSetB8]; exact decide_eq_true (by omega)
  have s2 : isSetB 8 (t : Int) = true := by rw [isSetB8]; exact decide_eq_true (by omega)
  rw [s1, s2, Int.toNat_natCast, Int.toNat_natCast, before_rank hs ht]; rfl
theorem find_next {n : Nat} {a : List Int} (h : ctxB (n : Int) a = true) {x : Nat} (hx : x < 2 ^ n) :
    (match (allN n).find? (fun s => beforeI (x : Int) s && isClosedB (n : Int) a s) with | none => ((0 : Int), false) | some s => (s, true)) = nextI n a x := by
  have hc := ctxB_out h
  have hn8 : n ≤ 8 := by omega
  have h8 := pow_le8 hn8
  have hg := ganter (n := n) hn8 (a := a) hx
  unfold nextI
  cases hf : nextFrom n a x n with
  | none =>
    rw [hf] at hg
    have e : (allN n).find? (fun s => beforeI (x : Int) s && isClosedB (n : Int) a s) = none := by
      rw [List.find?_eq_none]
      intro s hs hp
      obtain ⟨s, rfl, hs2⟩ := (allN_mem hn8 s).1 hs
      rw [before_nat (by omega) (by omega), closedB_nat h hs2, Bool.and_eq_true] at hp
      exact hg s hs2 (of_decide_eq_true hp.2) (of_decide_eq_true hp.1)
    rw [e]
  | some c =>
    rw [hf] at hg
    obtain ⟨h1, h2, h3, h4⟩ := hg
    have e : (allN n).find? (fun s => beforeI (x : Int) s && isClosedB (n : Int) a s) = some (c : Int) := by
      refine find_least (allN_sorted n) ((allN_mem hn8 _).2 ⟨c, rfl, h1⟩) ?_ ?_
      · rw [before_nat (by omega) (by omega), closedB_nat h h1, Bool.and_eq_true]
        exact ⟨decide_eq_true h3, decide_eq_true h2⟩
      · intro s hs hp
        obtain ⟨s, rfl, hs2⟩ := (allN_mem hn8 s).1 hs
        rw [before_nat (by omega) (by omega), closedB_nat h hs2, Bool.and_eq_true] at hp
        exact h4 s hs2 (of_decide_eq_true hp.2) (of_decide_eq_true hp.1)
    rw [e]

def conceptOf (a : List Int) (s : Int) : S36 := ⟨((extentN a s.toNat : Nat) : Int), s⟩
/-- The concepts, in the lectic order of their intents. -/
def conceptsL (n : Int) (a : List Int) : List S36 := if ctxB n a then (closedL n.toNat a).map (conceptOf a) else []
theorem closedL_mem {n : Nat} {a : List Int} (h : ctxB (n : Int) a = true) (x : Int) : x ∈ closedL n a ↔ ∃ s : Nat, x = (s : Int) ∧ s < 2 ^ n ∧ closureN n a s = s := by
  have hc := ctxB_out h
  unfold closedL
  rw [List.mem_filter, allN_mem (by omega)]
  constructor
  · rintro ⟨⟨s, rfl, hs⟩, h2⟩
    rw [closedB_nat h hs] at h2
    exact ⟨s, rfl, hs, of_decide_eq_true h2⟩
  · rintro ⟨s, rfl, hs, h2⟩
    exact ⟨⟨s, rfl, hs⟩, by rw [closedB_nat h hs]; exact decide_eq_true h2⟩
theorem closedL_sorted (n : Nat) (a : List Int) : (closedL n a).Pairwise (fun s t => rankI s < rankI t) := (allN_sorted n).filter _
theorem closedL_len (n : Nat) (a : List Int) : (closedL n a).length ≤ 256 := Nat.le_trans (List.length_filter_le _ _) (allN_len n)
theorem conceptsL_len (n : Int) (a : List Int) : (conceptsL n a).length ≤ 256 := by
  unfold conceptsL
  split
  · rw [List.length_map]; exact closedL_len _ _
  · exact Nat.zero_le _
def headOr : List Int → Int × Bool
  | [] => (0, false)
  | d :: _ => (d, true)
theorem next_closedL {n : Nat} {a : List Int} (h : ctxB (n : Int) a = true) {pre rest : List Int} {c : Int} (he : closedL n a = pre ++ c :: rest) : nextI n a c.toNat = headOr rest := by
  have hc := ctxB_out h
  have h8 := pow_le8 (i := n) (by omega)
  have hmem : c ∈ closedL n a := by rw [he]; exact List.mem_append_right _ List.mem_cons_self
  obtain ⟨s, rfl, hs, hcl⟩ := (closedL_mem h c).1 hmem
  rw [Int.toNat_natCast, ← find_next h hs]
  have e1 : (allN n).find? (fun t => beforeI (s : Int) t && isClosedB (n : Int) a t) = (closedL n a).find? (fun t => beforeI (s : Int) t) := by
    unfold closedL
    rw [List.find?_filter]
    congr 1
    funext t
    cases beforeI (s : Int) t <;> cases isClosedB (n : Int) a t <;> rfl
  have hb : ∀ t ∈ closedL n a, beforeI (s : Int) t = decide (rankI (s : Int) < rankI t) := fun t ht => by
    obtain ⟨t, rfl, ht2, _⟩ := (closedL_mem h t).1 ht
    exact before_nat (by omega) (by omega)
  have hsort := closedL_sorted n a
  rw [he, List.pairwise_append, List.pairwise_cons] at hsort
  rw [e1, he, List.find?_append]
  have e2 : pre.find? (fun t => beforeI (s : Int) t) = none := by
    rw [List.find?_eq_none]
    intro t ht
    rw [hb t (by rw [he]; exact List.mem_append_left _ ht)]
    have := hsort.2.2 t ht (s : Int) List.mem_cons_self
    simp; omega
  rw [e2, Option.none_or, List.find?_cons, hb (s : Int) hmem, decide_eq_false (Nat.lt_irrefl _)]
  cases rest with
  | nil => rfl
  | cons d rest =>
    rw [List.find?_cons, hb d (by rw [he]; exact List.mem_append_right _ (List.mem_cons_of_mem _ List.mem_cons_self)), decide_eq_true (hsort.2.1.1 d List.mem_cons_self)]
    rfl
theorem zero_first {n : Nat} {a : List Int} (h : ctxB (n : Int) a = true) : ∃ rest, closedL n a = ((closureN n a 0 : Nat) : Int) :: rest := by
  have hc := ctxB_out h
  have h8 := pow_le8 (i := n) (by omega)
  have hp := Nat.two_pow_pos n
  have hlt : closureN n a 0 < 2 ^ n := closure_lt n a 0
  have hmem : ((closureN n a 0 : Nat) : Int) ∈ closedL n a := (closedL_mem h _).2 ⟨_, rfl, hlt, closure_closure hp⟩
  have hsort := closedL_sorted n a
  cases hL : closedL n a with
  | nil => rw [hL] at hmem; cases hmem
  | cons d rest =>
    have hd : d ∈ closedL n a := by rw [hL]; exact List.mem_cons_self
    obtain ⟨s, rfl, hs, hcl⟩ := (closedL_mem h d).1 hd
    rw [hL] at hmem hsort
    rw [List.pairwise_cons] at hsort
    rw [List.mem_cons] at hmem
    rcases hmem with e | e
    · exact ⟨rest, by rw [e]⟩
    · have h1 := hsort.1 _ e
      unfold rankI at h1
      rw [Int.toNat_natCast, Int.toNat_natCast] at h1
      have h2 : rank (closureN n a 0) ≤ rank s := rank_sub (by omega) (by omega) fun i hi => closure_least hcl (fun m hm => by rw [Nat.zero_testBit] at hm; cases hm) hi
      omega

theorem spec_l2Has_eq {s e : Int} (hs0 : 0 ≤ s) (hs : s < 9223372036854775808) (he0 : 0 ≤ e) (he : e ≤ 63) : spec_l2Has.f s e = some (hasB s e) := by
  unfold spec_l2Has.f
  rw [u64_small he0 (by omega), if_pos he0, bit_int hs0 hs he0 he]

theorem spec_FullSet_eq (n : Int) : spec_FullSet.f n = some (fullSet n) := by
  unfold spec_FullSet.f spec_l1In.f fullSet
  by_cases h0 : 0 ≤ n
  · by_cases h1 : n ≤ 8
    · have hw := u64_small h0 (by omega)
      simp [h0, h1, hw, shl_full h0 h1]
    · simp [h0, h1]
  · simp [h0]

theorem spec_l4Intent_loop (n : Int) (a : List Int) (ha : RowsOk a) (hl : a.length ≤ 8) (s : Nat) (hs : s < 256) : ∀ (d i k acc : Nat), i + d = a.length → d < k → acc < 256 → spec_l4Intent.l0 k (s : Int) (acc : Int) (i : Int) n a = some ((andFrom a s i d acc : Nat) : Int)
  | 0, i, k, acc, hi, hk, _ => by
    obtain ⟨k, rfl⟩ : ∃ m, k = m + 1 := ⟨k - 1, by omega⟩
    simp only [spec_l4Intent.l0, andFrom]; rw [if_neg (by omega)]
  | d + 1, i, k, acc, hi, hk, hacc => by
    obtain ⟨k, rfl⟩ : ∃ m, k = m + 1 := ⟨k - 1, by omega⟩
    have h1 : i < a.length := by omega
    have hr := row_lt ha i
    simp only [spec_l4Intent.l0, andFrom]
    rw [if_pos (by omega), spec_l2Has_eq (by omega) (by omega) (by omega) (by omega), Option.bind_some, show hasB (s : Int) (i : Int) = s.testBit i from rfl, rd_row ha h1, and_nat _ _ (by omega) (by omega), wstep (n := a.length) (by omega) (by omega) (by omega), show (i : Int) + 1 = ((i + 1 : Nat) : Int) from by omega]
    cases hb : s.testBit i with
    | true =>
      rw [if_pos rfl, if_pos (by omega), if_pos rfl]
      exact spec_l4Intent_loop n a ha hl s hs d (i + 1) k _ (by omega) (by omega) (Nat.lt_of_le_of_lt Nat.and_le_left hacc)
    | false =>
      rw [if_neg (by simp), if_neg (by simp)]
      exact spec_l4Intent_loop n a ha hl s hs d (i + 1) k _ (by omega) (by omega) hacc
theorem spec_l4Intent_eq {n : Nat} {a : List Int} (h : ctxB (n : Int) a = true) {s : Nat} (hs : s < 256) {k : Nat} (hk : 9 ≤ k) : spec_l4Intent.f k n a s = some ((intentN n a s : Nat) : Int) := by
  have hc := ctxB_out h
  have hf := full_bd hc.1 (by omega)
  unfold spec_l4Intent.f
  rw [spec_FullSet_eq, Option.bind_some]
  unfold fullSet
  rw [full_nat] at hf
  rw [if_pos (by omega), full_nat]
  exact spec_l4Intent_loop n a (ctx_rows h) hc.2.2.1 s hs a.length 0 k _ (by omega) (by omega) (by omega)

theorem spec_l4Extent_loop (n : Int) (a : List Int) (ha : RowsOk a) (hl : a.length ≤ 8) (t : Nat) (ht : t < 256) : ∀ (d i k acc : Nat), i + d = a.length → d < k → acc < 2 ^ i → spec_l4Extent.l0 k (t : Int) (acc : Int) (i : Int) n a = some ((extFrom a t i d acc : Nat) : Int)
  | 0, i, k, acc, hi, hk, _ => by
    obtain ⟨k, rfl⟩ : ∃ m, k = m + 1 := ⟨k - 1, by omega⟩
    simp only [spec_l4Extent.l0, extFrom]; rw [if_neg (by omega)]
  | d + 1, i, k, acc, hi, hk, hacc => by
    obtain ⟨k, rfl⟩ : ∃ m, k = m + 1 := ⟨k - 1, by omega⟩
    have h1 : i < a.length := by omega
    have hr := row_lt ha i
    have hp := pow_le8 (i := i) (by omega)
    simp only [spec_l4Extent.l0, extFrom]
    rw [if_pos (by omega), if_pos (by omega), rd_row ha h1, and_nat _ _ (by omega) (by omega), u64_small (by omega) (by omega), if_pos (show (0 : Int) ≤ (i : Int) by omega), shl_one (by omega), or_nat _ _ (by omega) (by omega), wstep (n := a.length) (by omega) (by omega) (by omega), show (i : Int) + 1 = ((i + 1 : Nat) : Int) from by omega]
    have h2 : 2 ^ (i + 1) = 2 * 2 ^ i := by rw [Nat.pow_succ]; omega
    by_cases hb : row a i &&& t = t
    · rw [if_pos (by omega), if_pos hb]
      exact spec_l4Extent_loop n a ha hl t ht d (i + 1) k _ (by omega) (by omega) (or_lt (by omega) (by omega))
    · rw [if_neg (by omega), if_neg hb]
      exact spec_l4Extent_loop n a ha hl t ht d (i + 1) k _ (by omega) (by omega) (by omega)
theorem spec_l4Extent_eq {n : Int} {a : List Int} (h : ctxB n a = true) {t : Nat} (ht : t < 256) {k : Nat} (hk : 9 ≤ k) : spec_l4Extent.f k n a t = some ((extentN a t : Nat) : Int) := by
  have hc := ctxB_out h
  unfold spec_l4Extent.f
  exact spec_l4Extent_loop n a (ctx_rows h) hc.2.2.1 t ht a.length 0 k 0 (by omega) (by omega) (by simp)

theorem spec_l4Closure_eq {n : Nat} {a : List Int} (h : ctxB (n : Int) a = true) {t : Nat} (ht : t < 256) {k : Nat} (hk : 9 ≤ k) : spec_l4Closure.f k n a t = some ((closureN n a t : Nat) : Int) := by
  have hc := ctxB_out h
  unfold spec_l4Closure.f
  rw [spec_l4Extent_eq h ht hk, Option.bind_some, spec_l4Intent_eq h (extent_256 hc.2.2.1 t) hk]
  rfl

theorem fullSet_nat {i : Nat} (hi : i ≤ 8) : fullSet (i : Int) = ((2 ^ i - 1 : Nat) : Int) := by unfold fullSet; rw [if_pos (by omega), full_nat]
theorem l5Next_loop {n : Nat} {a : List Int} (h : ctxB (n : Int) a = true) {x : Nat} (hx : x < 2 ^ n) : ∀ (m k : Nat), m ≤ n → m + 20 ≤ k → spec_l5Next.l0 k (x : Int) ((m : Int) - 1) (n : Int) a = some (match nextFrom n a x m with | none => (0, false) | some c => ((c : Int), true))
  | 0, k, hm, hk => by
    obtain ⟨k, rfl⟩ : ∃ m, k = m + 1 := ⟨k - 1, by omega⟩
    simp only [spec_l5Next.l0]; rw [if_neg (by omega)]; rfl
  | m + 1, k, hm, hk => by
    obtain ⟨k, rfl⟩ : ∃ m, k = m + 1 := ⟨k - 1, by omega⟩
    have hc := ctxB_out h
    have hn8 : n ≤ 6 := by omega
    have h8 := pow_le8 (i := n) (by omega)
    have h8m := pow_le8 (i := m) (by omega)
    have hpm := Nat.two_pow_pos m
    have hm8 : m ≤ 8 := by omega
    have ih := l5Next_loop h hx m k (by omega) (by omega)
    have ex : ((m + 1 : Nat) : Int) - 1 = (m : Int) := by omega
    have ew : wrap64 ((m : Int) - 1) = (m : Int) - 1 := w64 (by omega) (by omega)
    have eu : IntKind.u64.wrap (m : Int) = (m : Int) := u64_small (by omega) (by omega)
    simp only [spec_l5Next.l0]
    rw [ex, if_pos (by omega), ew, ih, spec_l2Has_eq (by omega) (by omega) (by omega) (by omega), Option.bind_some]
    simp only [nextFrom]
    unfold stepOk
    rw [show hasB (x : Int) (m : Int) = x.testBit m from rfl]
    cases hb : x.testBit m with
    | true => rw [if_pos rfl]; rfl
    | false =>
      have e1 : Go.bits .and .i64 (x : Int) ((2 ^ m - 1 : Nat) : Int) = ((low x m : Nat) : Int) := and_nat _ _ (by omega) (by omega)
      have hlow : low x m < 256 := Nat.lt_of_le_of_lt Nat.and_le_left (by omega)
      have hpow : 2 ^ m < 2 ^ n := Nat.pow_lt_pow_right (by decide) (by omega)
      have e2 : Go.bits .or .i64 ((low x m : Nat) : Int) ((2 ^ m : Nat) : Int) = ((low x m ||| 2 ^ m : Nat) : Int) := or_nat _ _ (by omega) (by omega)
      have hor := low_or_lt (i := m) hx (by omega)
      have hcl : closureN n a (low x m ||| 2 ^ m) < 2 ^ n := closure_lt n a _
      have e3 : Go.bits .and .i64 ((closureN n a (low x m ||| 2 ^ m) : Nat) : Int) ((2 ^ m - 1 : Nat) : Int) = ((low (stepC n a x m) m : Nat) : Int) := and_nat _ _ (by omega) (by omega)
      rw [if_neg (by decide), spec_FullSet_eq, Option.bind_some, fullSet_nat hm8, eu, if_pos (by omega), e1, shl_one hm8, e2, spec_l4Closure_eq h (by omega) (by omega), Option.bind_some, Option.bind_some, e3]
      by_cases he : low (stepC n a x m) m = low x m
      · rw [if_pos (by rw [he]), he]; simp; rfl
      · have hne : ¬ ((low (stepC n a x m) m : Nat) : Int) = ((low x m : Nat) : Int) := by omega
        rw [if_neg hne]
        have hb2 : (low (stepC n a x m) m == low x m) = false := by simpa using he
        rw [hb2]; rfl
theorem l5Next_eq {n : Nat} {a : List Int} (h : ctxB (n : Int) a = true) {x : Nat} (hx : x < 2 ^ n) {k : Nat} (hk : 30 ≤ k) : spec_l5Next.f k (n : Int) a (x : Int) = some (nextI n a x) := by
  have hc := ctxB_out h
  unfold spec_l5Next.f
  rw [w64 (by omega) (by omega)]
  exact l5Next_loop h hx n k (Nat.le_refl _) (by omega)

theorem spec_l5Concept_eq {n : Nat} {a : List Int} (h : ctxB (n : Int) a = true) {t : Nat} (ht : t < 256) {k : Nat} (hk : 9 ≤ k) : spec_l5Concept.f k n a t = some (((extentN a t : Nat) : Int), ((closureN n a t : Nat) : Int)) := by
  have hc := ctxB_out h
  unfold spec_l5Concept.f
  rw [spec_l4Extent_eq h ht hk, Option.bind_some, spec_l4Intent_eq h (extent_256 hc.2.2.1 t) hk]
  rfl

theorem spec_Concepts_loop {n : Nat} {a : List Int} (h : ctxB (n : Int) a = true) : ∀ (rest pre : List Int) (c : Int) (k : Nat) (out : List S36), closedL n a = pre ++ c :: rest → rest.length + 40 ≤ k → out.length + rest.length ≤ 256 →
    spec_Concepts.l0 k out c (n : Int) a = some (out ++ (c :: rest).map (conceptOf a))
  | rest, pre, c, k, out, he, hk, hl => by
    obtain ⟨k, rfl⟩ : ∃ m, k = m + 1 := ⟨k - 1, by omega⟩
    have hc := ctxB_out h
    have h8 := pow_le8 (i := n) (by omega)
    obtain ⟨s, rfl, hs, hcl⟩ := (closedL_mem h c).1 (by rw [he]; exact List.mem_append_right _ List.mem_cons_self)
    have hnx := next_closedL h he
    rw [Int.toNat_natCast] at hnx
    have hlt : out.length < 8796093022208 := by omega
    simp only [spec_Concepts.l0]
    rw [spec_l5Concept_eq h (by omega) (by omega), Option.bind_some, if_pos hlt, Option.bind_some, l5Next_eq h hs (by omega), Option.bind_some, hnx, hcl]
    have e0 : (⟨((extentN a s : Nat) : Int), (s : Int)⟩ : S36) = conceptOf a (s : Int) := rfl
    cases rest with
    | nil =>
      simp only [headOr, Bool.false_eq_true, if_false]
      rw [e0]; rfl
    | cons d rest =>
      simp only [headOr, if_true]
      rw [e0, spec_Concepts_loop h rest (pre ++ [(s : Int)]) d k _ (by rw [he, List.append_assoc]; rfl) (by rw [List.length_cons] at hk; omega) (by rw [List.length_append, List.length_singleton]; rw [List.length_cons] at hl; omega)]
      rw [List.append_assoc]; rfl
theorem spec_Concepts_eq (n : Int) (a : List Int) (hn : a.length ≤ 281474976710656) {k : Nat} (hk : a.length + 400 ≤ k) : spec_Concepts.f k n a = some (conceptsL n a) := by
  unfold spec_Concepts.f conceptsL
  rw [Option.bind_some, spec_IsContext_eq n a hn (by omega), Option.bind_some]
  cases h : ctxB n a with
  | false => simp
  | true =>
    have hb := ctxB_out h
    obtain ⟨n, rfl⟩ := Int.eq_ofNat_of_zero_le hb.1
    obtain ⟨rest, hr⟩ := zero_first h
    have e0 : spec_l4Closure.f k (n : Int) a 0 = some ((closureN n a 0 : Nat) : Int) := spec_l4Closure_eq h (t := 0) (by decide) (by omega)
    have hlen := closedL_len n a
    rw [hr, List.length_cons] at hlen
    rw [if_pos rfl, if_pos rfl, e0, Option.bind_some, spec_Concepts_loop h rest [] _ k [] hr (by omega) (by rw [List.length_nil]; omega), Int.toNat_natCast, hr]
    rfl

theorem impl_Concepts_loop (n : Int) (a : List Int) (hc : ctxB n a = true) (l : List Int) (hl : l.length ≤ 256) (hs : ∀ s ∈ l, isSetB n s = true) (d : Nat) : ∀ (i k : Nat) (out : List S36), i + d = l.length → d + 40 < k → out.length ≤ i →
    impl_Concepts.l0 k out l (l.length : Int) (i : Int) n a = some (out ++ ((l.drop i).filter (fun s => isClosedB n a s)).map (conceptOf a)) := by
  induction d with
  | zero =>
    intro i k out hi hk ho
    obtain ⟨k, rfl⟩ : ∃ m, k = m + 1 := ⟨k - 1, by omega⟩
    simp only [impl_Concepts.l0]
    rw [if_neg (by omega), List.drop_of_length_le (by omega)]; simp
  | succ d ih =>
    intro i k out hi hk ho
    obtain ⟨k, rfl⟩ : ∃ m, k = m + 1 := ⟨k - 1, by omega⟩
    have h1 : i < l.length := by omega
    have hw : wrap64 ((i : Int) + 1) = ((i + 1 : Nat) : Int) := by rw [w64 (by omega) (by omega)]; omega
    have hlt : out.length < 8796093022208 := by omega
    simp only [impl_Concepts.l0]
    rw [if_pos (by omega), if_pos (by omega), if_pos (by omega), rd_nat l i h1, impl_IsClosed_eq _ _ _ (by omega), Option.bind_some, impl_ExtentOf_eq _ _ _ (by omega), Option.bind_some, if_pos hlt, hw, List.drop_eq_getElem_cons h1, List.filter_cons]
    cases hq : isClosedB n a l[i] with
    | false =>
      simp only [Bool.false_eq_true, if_false]
      exact ih (i + 1) k out (by omega) (by omega) (by omega)
    | true =>
      simp only [if_true]
      have e0 : (⟨extentI n a l[i], l[i]⟩ : S36) = conceptOf a l[i] := by
        unfold extentI conceptOf
        rw [hc, hs _ (List.getElem_mem h1)]; rfl
      rw [e0, ih (i + 1) k _ (by omega) (by omega) (by rw [List.length_append, List.length_singleton]; omega), List.append_assoc]
      rfl
theorem impl_Concepts_eq (n : Int) (a : List Int) {k : Nat} (hk : 400 ≤ k) : impl_Concepts.f k n a = some (conceptsL n a) := by
  unfold impl_Concepts.f conceptsL
  rw [impl_IsContext_eq, Option.bind_some]
  cases h : ctxB n a with
  | false => simp
  | true =>
    have hb := ctxB_out h
    obtain ⟨n, rfl⟩ := Int.eq_ofNat_of_zero_le hb.1
    rw [if_pos rfl, if_pos rfl, allSets_eq (by omega) (by omega), Option.bind_some]
    have hset : ∀ s ∈ allN n, isSetB (n : Int) s = true := fun s hs => by
      obtain ⟨s, rfl, h2⟩ := (allN_mem (by omega) s).1 hs
      exact isSet_mk (by omega) h2
    have e := impl_Concepts_loop (n : Int) a h (allN n) (allN_len n) hset (allN n).length 0 k [] (by omega) (by have := allN_len n; omega) (by simp)
    refine e.trans ?_
    rw [List.drop_zero, List.nil_append]
    rfl


theorem conceptsL_mem {n : Int} {a : List Int} {x : S36} (h : x ∈ conceptsL n a) : ∃ m : Nat, n = (m : Int) ∧ ctxB (m : Int) a = true ∧ ∃ s : Nat, s < 2 ^ m ∧ closureN m a s = s ∧ x = ⟨((extentN a s : Nat) : Int), (s : Int)⟩ := by
  unfold conceptsL at h
  by_cases hc : ctxB n a = true
  · rw [if_pos hc] at h
    have hb := ctxB_out hc
    obtain ⟨m, rfl⟩ := Int.eq_ofNat_of_zero_le hb.1
    obtain ⟨c, hcm, rfl⟩ := List.mem_map.1 h
    obtain ⟨s, rfl, h1, h2⟩ := (closedL_mem hc c).1 hcm
    exact ⟨m, rfl, hc, s, h1, h2, rfl⟩
  · rw [if_neg hc] at h; cases h
def existsB (l : List S36) (a : Int) : Bool := decide (0 ≤ a ∧ a < (l.length : Int))
theorem rdC_mem (l : List S36) {a : Int} (h : existsB l a = true) : rd_T36 l a ∈ l := by
  have h := of_decide_eq_true h
  unfold rd_T36
  rw [List.getD_eq_getElem?_getD, List.getElem?_eq_getElem (by omega)]
  exact List.getElem_mem _
theorem concept_256 {n : Int} {a : List Int} {x : S36} (h : x ∈ conceptsL n a) : ∃ e s : Nat, x = ⟨(e : Int), (s : Int)⟩ ∧ e < 256 ∧ s < 256 := by
  obtain ⟨m, rfl, hc, s, h1, h2, rfl⟩ := conceptsL_mem h
  have hb := ctxB_out hc
  have := pow_le8 (i := m) (by omega)
  exact ⟨_, s, rfl, extent_256 hb.2.2.1 s, by omega⟩
def belowB (l : List S36) (a b : Int) : Bool := dif (rd_T36 l a).f0.toNat (rd_T36 l b).f0.toNat == 0

theorem impl_below_eq {n : Int} {c : List Int} {a b : Int} (ha : existsB (conceptsL n c) a = true) (hb : existsB (conceptsL n c) b = true) : impl_lattice_below.f (conceptsL n c) a b = some (belowB (conceptsL n c) a b) := by
  obtain ⟨e1, s1, h1, h2, _⟩ := concept_256 (rdC_mem _ ha)
  obtain ⟨e2, s2, h3, h4, _⟩ := concept_256 (rdC_mem _ hb)
  have ha := of_decide_eq_true ha
  have hb := of_decide_eq_true hb
  unfold impl_lattice_below.f belowB impl_inSet.f
  rw [if_pos ha.1, if_pos ha.2, if_pos hb.1, if_pos hb.2, Option.bind_some, h1, h3]
  show some (Go.bits .andNot .i64 (e1 : Int) (e2 : Int) == 0) = _
  rw [andNot_nat e1 e2 (by omega) (by omega), Int.toNat_natCast, Int.toNat_natCast]
  by_cases hz : dif e1 e2 = 0
  · rw [hz]; rfl
  · have : ¬ ((dif e1 e2 : Nat) : Int) = 0 := by omega
    rw [beq_eq_false_iff_ne.mpr this, beq_eq_false_iff_ne.mpr hz]

def sortB (l : List S36) (up : Bool) (a b : Int) : Bool := if up then belowB l a b else belowB l b a
/-- k lies not between a and b. -/
def notMid (l : List S36) (up : Bool) (a b k : Int) : Bool := decide (k = a) || (decide (k = b) || (!sortB l up a k || !sortB l up k b))
def midFrom (l : List S36) (up : Bool) (a b : Int) : Nat → Nat → Bool
  | _, 0 => true
  | i, d + 1 => notMid l up a b (i : Int) && midFrom l up a b (i + 1) d
def coverB (l : List S36) (up : Bool) (a b : Int) : Bool := decide (¬ b = a) && (sortB l up a b && midFrom l up a b 0 l.length)
theorem exists_nat {l : List S36} {i : Nat} (h : i < l.length) : existsB l (i : Int) = true := decide_eq_true ⟨by omega, by omega⟩
theorem notMid_swap (l : List S36) (a b k : Int) : notMid l false a b k = notMid l true b a k := by
  unfold notMid sortB
  simp only [if_true, Bool.false_eq_true, if_false]
  cases decide (k = a) <;> cases decide (k = b) <;> cases belowB l k a <;> cases belowB l b k <;> rfl
theorem midFrom_swap (l : List S36) (a b : Int) : ∀ d i, midFrom l false a b i d = midFrom l true b a i d
  | 0, _ => rfl
  | d + 1, i => by simp only [midFrom]; rw [notMid_swap, midFrom_swap l a b d]
theorem coverB_swap (l : List S36) (a b : Int) : coverB l false a b = coverB l true b a := by
  unfold coverB
  rw [midFrom_swap]
  have e1 : sortB l false a b = sortB l true b a := rfl
  have e2 : decide (¬ b = a) = decide (¬ a = b) := decide_eq_decide.mpr ⟨fun h e => h e.symm, fun h e => h e.symm⟩
  rw [e1, e2]
theorem impl_under_eq {n : Int} {c : List Int} {a b : Int} (ha : existsB (conceptsL n c) a = true) (hb : existsB (conceptsL n c) b = true) : impl_lattice_under.f (conceptsL n c) a b = some (decide (¬ a = b) && belowB (conceptsL n c) a b) := by
  unfold impl_lattice_under.f
  by_cases h : a = b
  · rw [if_pos h, decide_eq_false (p := ¬ a = b) (fun hn => hn h)]; rfl
  · rw [if_neg h, impl_below_eq ha hb, Option.bind_some, decide_eq_true h]; rfl
theorem covers_loop {n : Int} {c : List Int} {a b : Int} (ha : existsB (conceptsL n c) a = true) (hb : existsB (conceptsL n c) b = true) (d : Nat) : ∀ (i k : Nat), i + d = (conceptsL n c).length → d < k →
    impl_lattice_covers.l0 k (conceptsL n c) a b ((conceptsL n c).length : Int) (i : Int) = some (midFrom (conceptsL n c) true a b i d) := by
  have hl := conceptsL_len n c
  induction d with
  | zero =>
    intro i k hi hk
    obtain ⟨k, rfl⟩ : ∃ m, k = m + 1 := ⟨k - 1, by omega⟩
    simp only [impl_lattice_covers.l0]
    rw [if_neg (by omega)]; rfl
  | succ d ih =>
    intro i k hi hk
    obtain ⟨k, rfl⟩ : ∃ m, k = m + 1 := ⟨k - 1, by omega⟩
    have hw : wrap64 ((i : Int) + 1) = ((i + 1 : Nat) : Int) := by rw [w64 (by omega) (by omega)]; omega
    have hx := exists_nat (l := conceptsL n c) (i := i) (by omega)
    simp only [impl_lattice_covers.l0]
    rw [if_pos (by omega), impl_under_eq ha hx, Option.bind_some, impl_under_eq hx hb, Option.bind_some, hw, ih (i + 1) k (by omega) (by omega)]
    simp only [midFrom]
    unfold notMid sortB
    simp only [if_true]
    have e1 : decide (¬ a = (i : Int)) = !decide ((i : Int) = a) := by
      by_cases h : (i : Int) = a
      · rw [decide_eq_true h, decide_eq_false (p := ¬ a = (i : Int)) (fun hn => hn h.symm)]; rfl
      · rw [decide_eq_false h, decide_eq_true (p := ¬ a = (i : Int)) (fun e => h e.symm)]; rfl
    have e2 : decide (¬ (i : Int) = b) = !decide ((i : Int) = b) := by
      by_cases h : (i : Int) = b
      · rw [decide_eq_true h, decide_eq_false (p := ¬ (i : Int) = b) (fun hn => hn h)]; rfl
      · rw [decide_eq_false h, decide_eq_true h]; rfl
    rw [e1, e2]
    cases decide ((i : Int) = a) <;> cases decide ((i : Int) = b) <;> cases belowB (conceptsL n c) a (i : Int) <;> cases belowB (conceptsL n c) (i : Int) b <;> simp
theorem impl_covers_eq {n : Int} {c : List Int} {a b : Int} (ha : existsB (conceptsL n c) a = true) (hb : existsB (conceptsL n c) b = true) {k : Nat} (hk : 257 ≤ k) : impl_lattice_covers.f k (conceptsL n c) a b = some (coverB (conceptsL n c) true a b) := by
  have hl := conceptsL_len n c
  have e0 := covers_loop ha hb (conceptsL n c).length 0 k (by omega) (by omega)
  have ez : ((0 : Nat) : Int) = 0 := rfl
  rw [ez] at e0
  unfold impl_lattice_covers.f coverB
  rw [impl_under_eq ha hb, Option.bind_some, e0]
  have e2 : decide (¬ b = a) = decide (¬ a = b) := decide_eq_decide.mpr ⟨fun h e => h e.symm, fun h e => h e.symm⟩
  have e1 : sortB (conceptsL n c) true a b = belowB (conceptsL n c) a b := rfl
  rw [e1, e2]
  cases decide (¬ a = b) <;> cases belowB (conceptsL n c) a b <;> simp
def coversL (l : List S36) (up : Bool) (a : Int) : List Int := chosenTo (coverB l up a) l.length

theorem impl_upper_eq {n : Int} {c : List Int} {a : Int} (ha : existsB (conceptsL n c) a = true) {k : Nat} (hk : 257 ≤ k) : impl_lattice_upper.f k (conceptsL n c) a = some (coversL (conceptsL n c) true a) := by
  have hl := conceptsL_len n c
  have e : ∀ x : Nat, x < (conceptsL n c).length → impl_lattice_covers.f k (conceptsL n c) a (x : Int) = some (coverB (conceptsL n c) true a (x : Int)) := fun x hx => impl_covers_eq ha (exists_nat hx) hk
  unfold impl_lattice_upper.f coversL
  rw [if_pos ⟨by omega, List.all_eq_true.2 fun x hx => by rw [e x (List.mem_range.1 hx)]; rfl⟩]
  congr 1
  refine chosenTo_congr fun x hx => ?_
  rw [e x hx]; rfl

theorem rdC (l : List S36) (i : Nat) (h : i < l.length) : rd_T36 l (i : Int) = l[i] := by unfold rd_T36; rw [Int.toNat_natCast, List.getD_eq_getElem?_getD, List.getElem?_eq_getElem h]; rfl
/-- The first i concepts are marked with the numbers from 1 on. -/
def MarkC (z : List S36) (i : Nat) : Prop := ∀ j, j < i → z.getD j z36 = ⟨1 + 2 * (j : Int), 2 + 2 * (j : Int)⟩
theorem getC_set (z : List S36) (i : Nat) (v : S36) (hi : i < z.length) (j : Nat) : (z.set i v).getD j z36 = if j = i then v else z.getD j z36 := by
  rw [List.getD_eq_getElem?_getD, List.getD_eq_getElem?_getD, List.getElem?_set]
  by_cases h : i = j
  · subst h; simp [hi]
  · have h' : ¬ j = i := fun e => h e.symm
    rw [if_neg h, if_neg h']
def Bn (l : List S36) (a b : Nat) : Bool := belowB l (a : Int) (b : Int)
theorem conc_map {N : Nat} {c : List Int} (h : ctxB (N : Int) c = true) : conceptsL (N : Int) c = (closedL N c).map (conceptOf c) := by
  unfold conceptsL
  rw [if_pos h, Int.toNat_natCast]
theorem conc_len {N : Nat} {c : List Int} (h : ctxB (N : Int) c = true) : (conceptsL (N : Int) c).length = (closedL N c).length := by rw [conc_map h, List.length_map]
theorem conc_f0 {N : Nat} {c : List Int} (h : ctxB (N : Int) c = true) {i : Nat} (hi : i < (closedL N c).length) : (rd_T36 (conceptsL (N : Int) c) (i : Int)).f0 = ((extentN c ((closedL N c)[i]).toNat : Nat) : Int) := by
  have h2 : i < (conceptsL (N : Int) c).length := by rw [conc_len h]; exact hi
  rw [rdC _ i h2]
  simp only [conc_map h, List.getElem_map]; rfl
theorem Bn_iff {N : Nat} {c : List Int} (h : ctxB (N : Int) c = true) {i j : Nat} (hi : i < (closedL N c).length) (hj : j < (closedL N c).length) :
    Bn (conceptsL (N : Int) c) i j = true ↔ ∀ g, (extentN c ((closedL N c)[i]).toNat).testBit g = true → (extentN c ((closedL N c)[j]).toNat).testBit g = true := by
  unfold Bn belowB
  rw [conc_f0 h hi, conc_f0 h hj, Int.toNat_natCast, Int.toNat_natCast, beq_iff_eq]
  exact ⟨fun e g hg => dif_sub e hg, fun e => dif_zero e⟩
theorem Bn_tr {N : Nat} {c : List Int} (h : ctxB (N : Int) c = true) (x y z : Nat) (hx : x < (closedL N c).length) (hy : y < (closedL N c).length) (hz : z < (closedL N c).length) (h1 : Bn (conceptsL (N : Int) c) x y = true) (h2 : Bn (conceptsL (N : Int) c) y z = true) : Bn (conceptsL (N : Int) c) x z = true :=
  (Bn_iff h hx hz).2 fun g hg => (Bn_iff h hy hz).1 h2 g ((Bn_iff h hx hy).1 h1 g hg)
theorem cl_at {N : Nat} {c : List Int} (h : ctxB (N : Int) c = true) {i : Nat} (hi : i < (closedL N c).length) : ∃ s : Nat, (closedL N c)[i] = (s : Int) ∧ s < 2 ^ N ∧ closureN N c s = s := (closedL_mem h _).1 (List.getElem_mem hi)
theorem Bn_dn {N : Nat} {c : List Int} (h : ctxB (N : Int) c = true) (x y : Nat) (hx : x < (closedL N c).length) (hy : y < (closedL N c).length) (h1 : Bn (conceptsL (N : Int) c) x y = true) (hne : x ≠ y) : y < x := by
  apply Decidable.byContradiction
  intro hlt
  have hxy : x < y := by omega
  have hs := (List.pairwise_iff_getElem.1 (closedL_sorted N c)) x y hx hy hxy
  obtain ⟨s, e1, s1, s2⟩ := cl_at h hx
  obtain ⟨t, e2, t1, t2⟩ := cl_at h hy
  have hc := ctxB_out h
  have h8 := pow_le8 (i := N) (by omega)
  have hsub := (Bn_iff h hx hy).1 h1
  rw [e1, e2, Int.toNat_natCast, Int.toNat_natCast] at hsub
  unfold rankI at hs
  rw [e1, e2, Int.toNat_natCast, Int.toNat_natCast] at hs
  have hr : rank t ≤ rank s := rank_sub (by omega) (by omega) fun i hi => by
    rw [← t2] at hi
    have k1 := (intentN_bit N c _ i).1 hi
    rw [← s2]
    exact (intentN_bit N c _ i).2 ⟨k1.1, fun g hg hb => k1.2 g hg (hsub g hb)⟩
  omega
theorem full_closed {N : Nat} {c : List Int} : closureN N c (2 ^ N - 1) = 2 ^ N - 1 := by
  have hF : 2 ^ N - 1 < 2 ^ N := by have := Nat.two_pow_pos N; omega
  refine eq_bits fun i => ⟨fun hi => ?_, fun hi => sub_closure hF hi⟩
  rw [full_bit]
  apply decide_eq_true
  apply Decidable.byContradiction
  intro hn
  rw [lt_bits (closure_lt N c _) (by omega)] at hi
  cases hi
theorem Bn_last {N : Nat} {c : List Int} (h : ctxB (N : Int) c = true) (hm : 0 < (closedL N c).length) (y : Nat) (hy : y < (closedL N c).length) : Bn (conceptsL (N : Int) c) ((closedL N c).length - 1) y = true := by
  have hc := ctxB_out h
  have h8 := pow_le8 (i := N) (by omega)
  have hp := Nat.two_pow_pos N
  have hl : (closedL N c).length - 1 < (closedL N c).length := by omega
  obtain ⟨s, e1, s1, s2⟩ := cl_at h hl
  obtain ⟨j, hj, ej⟩ := List.getElem_of_mem ((closedL_mem h ((2 ^ N - 1 : Nat) : Int)).2 ⟨2 ^ N - 1, rfl, by omega, full_closed⟩)
  have hF : (closedL N c)[(closedL N c).length - 1] = ((2 ^ N - 1 : Nat) : Int) := by
    by_cases e : j = (closedL N c).length - 1
    · subst e; exact ej
    · exfalso
      have hs := (List.pairwise_iff_getElem.1 (closedL_sorted N c)) j ((closedL N c).length - 1) hj hl (by omega)
      unfold rankI at hs
      rw [ej, e1, Int.toNat_natCast, Int.toNat_natCast] at hs
      have hr : rank s ≤ rank (2 ^ N - 1) := rank_sub (by omega) (by omega) fun i hi => by
        rw [full_bit]
        apply decide_eq_true
        apply Decidable.byContradiction
        intro hn
        rw [lt_bits s1 (by omega)] at hi
        cases hi
      omega
  obtain ⟨t, e2, t1, t2⟩ := cl_at h hy
  refine (Bn_iff h hl hy).2 fun g hg => ?_
  rw [hF, Int.toNat_natCast] at hg
  rw [e2, Int.toNat_natCast]
  have k1 := (extentN_bit c _ g).1 hg
  refine (extentN_bit c _ g).2 ⟨k1.1, fun i hi => k1.2 i ?_⟩
  rw [full_bit]
  apply decide_eq_true
  apply Decidable.byContradiction
  intro hn
  rw [lt_bits t1 (by omega)] at hi
  cases hi

theorem spec_l6Under_eq {n : Int} {c : List Int} {a b : Int} (ha : existsB (conceptsL n c) a = true) (hb : existsB (conceptsL n c) b = true) (i1 i2 : Int) : spec_l6Under.f (rd_T36 (conceptsL n c) a).f0 i1 (rd_T36 (conceptsL n c) b).f0 i2 = some (belowB (conceptsL n c) a b) := by
  obtain ⟨e1, s1, h1, h2, _⟩ := concept_256 (rdC_mem _ ha)
  obtain ⟨e2, s2, h3, h4, _⟩ := concept_256 (rdC_mem _ hb)
  unfold spec_l6Under.f belowB
  rw [h1, h3]
  show some (Go.bits .and .i64 (e1 : Int) (e2 : Int) == (e1 : Int)) = some (dif (e1 : Int).toNat (e2 : Int).toNat == 0)
  rw [and_nat e1 e2 (by omega) (by omega), Int.toNat_natCast, Int.toNat_natCast]
  by_cases hz : dif e1 e2 = 0
  · rw [(and_eq_iff_dif e1 e2).2 hz, hz]; simp
  · have h5 : ¬ e1 &&& e2 = e1 := fun h => hz ((and_eq_iff_dif e1 e2).1 h)
    have h6 : ¬ ((e1 &&& e2 : Nat) : Int) = (e1 : Int) := by omega
    rw [beq_eq_false_iff_ne.mpr h6, beq_eq_false_iff_ne.mpr hz]

theorem wrap_small (x : Nat) (h : x ≤ 100000) : wrap64 ((x : Int) + 1) = ((x + 1 : Nat) : Int) := by rw [w64 (by omega) (by omega)]; omega
theorem max_int (a b : Nat) : mx (a : Int) (b : Int) = ((max a b : Nat) : Int) := by unfold mx; split <;> omega
theorem max_spec (a b : Nat) : spec_l1Max.f (a : Int) (b : Int) = some ((max a b : Nat) : Int) := by
  unfold spec_l1Max.f
  split
  · congr 1; omega
  · congr 1; omega
theorem foldM_fm (G : Int → Option Int) (f : Nat → Nat) : ∀ (l : List Nat) (b : Nat), (∀ x ∈ l, G (x : Int) = some ((f x : Nat) : Int) ∧ f x ≤ 1000) → impl_lattice_height.foldM G (b : Int) (l.map (fun x : Nat => (x : Int))) = some ((fm f b l : Nat) : Int)
  | [], b, _ => rfl
  | x :: l, b, h => by
    have h1 := h x (List.mem_cons_self ..)
    rw [List.map_cons]
    simp only [impl_lattice_height.foldM, fm]
    rw [h1.1, Option.bind_some, show (1 : Int) + ((f x : Nat) : Int) = ((f x : Nat) : Int) + 1 from by omega, wrap_small _ (by omega), max_int]
    exact foldM_fm G f l _ (fun y hy => h y (List.mem_cons_of_mem _ hy))
theorem midFrom_all (l : List S36) (a b : Int) : ∀ (d i : Nat), midFrom l true a b i d = true ↔ ∀ k, i ≤ k → k < i + d → notMid l true a b (k : Int) = true
  | 0, i => by
    simp only [midFrom, true_iff]
    intro k h1 h2; omega
  | d + 1, i => by
    simp only [midFrom, Bool.and_eq_true]
    rw [midFrom_all l a b d (i + 1)]
    constructor
    · rintro ⟨h1, h2⟩ k hk1 hk2
      by_cases e : k = i
      · subst e; exact h1
      · exact h2 k (by omega) (by omega)
    · intro h
      exact ⟨h i (Nat.le_refl _) (by omega), fun k h1 h2 => h k (by omega) (by omega)⟩
theorem cover_iff (l : List S36) (a x : Nat) : coverB l true (a : Int) (x : Int) = true ↔ x ≠ a ∧ Bn l a x = true ∧ ∀ k, k < l.length → k = a ∨ k = x ∨ ¬ (Bn l a k = true ∧ Bn l k x = true) := by
  unfold coverB
  rw [Bool.and_eq_true, Bool.and_eq_true, decide_eq_true_eq, midFrom_all]
  have e1 : (¬ (x : Int) = (a : Int)) ↔ x ≠ a := by omega
  have e2 : sortB l true (a : Int) (x : Int) = Bn l a x := rfl
  rw [e1, e2]
  refine and_congr Iff.rfl (and_congr Iff.rfl ?_)
  constructor
  · intro h k hk
    have := h k (Nat.zero_le _) (by omega)
    unfold notMid at this
    simp only [Bool.or_eq_true, decide_eq_true_eq, Bool.not_eq_true'] at this
    rcases this with h1 | h1 | h1 | h1
    · left; omega
    · right; left; omega
    · right; right; rintro ⟨h2, _⟩
      have h1' : Bn l a k = false := h1
      rw [h1'] at h2; cases h2
    · right; right; rintro ⟨_, h2⟩
      have h1' : Bn l k x = false := h1
      rw [h1'] at h2; cases h2
  · intro h k _ hk
    unfold notMid
    simp only [Bool.or_eq_true, decide_eq_true_eq, Bool.not_eq_true']
    rcases h k (by omega) with h1 | h1 | h1
    · left; omega
    · right; left; omega
    · cases h2 : Bn l a k with
      | false => right; right; left; exact h2
      | true =>
        cases h3 : Bn l k x with
        | false => right; right; right; exact h3
        | true => exact absurd ⟨h2, h3⟩ h1
def coverN (l : List S36) (a : Nat) : List Nat := (List.range l.length).filter (fun x => coverB l true (a : Int) ((x : Nat) : Int))
theorem coversN (l : List S36) (a : Nat) : coversL l true (a : Int) = (coverN l a).map (fun x : Nat => (x : Int)) := by
  unfold coversL chosenTo coverN
  rw [List.filter_map]; rfl
theorem impl_height_eq {N : Nat} {c : List Int} (h : ctxB (N : Int) c = true) {k : Nat} (hk : 257 ≤ k) (a : Nat) : a < (closedL N c).length → impl_lattice_height.h k (conceptsL (N : Int) c) (a + 1) (a : Int) = some ((H (Bn (conceptsL (N : Int) c)) a : Nat) : Int) := by
  have hlen := conc_len h
  have hl := conceptsL_len (N : Int) c
  induction a using Nat.strongRecOn with
  | _ a ih =>
    intro ha
    simp only [impl_lattice_height.h]
    rw [if_pos ⟨by omega, by omega⟩, impl_upper_eq (exists_nat (by omega)) hk, Option.bind_some, coversN]
    have hC : ∀ x, x ∈ coverN (conceptsL (N : Int) c) a ↔ x < (closedL N c).length ∧ x ≠ a ∧ Bn (conceptsL (N : Int) c) a x = true ∧ ∀ q, q < (closedL N c).length → q = a ∨ q = x ∨ ¬ (Bn (conceptsL (N : Int) c) a q = true ∧ Bn (conceptsL (N : Int) c) q x = true) := fun x => by
      unfold coverN
      rw [List.mem_filter, List.mem_range, cover_iff, hlen]
    have key := foldM_fm (impl_lattice_height.h k (conceptsL (N : Int) c) a) (H (Bn (conceptsL (N : Int) c))) (coverN (conceptsL (N : Int) c) a) 0 (fun x hx => by
      have hx2 := (hC x).1 hx
      have hxa := Bn_dn h a x ha hx2.1 hx2.2.2.1 (fun e => hx2.2.1 e.symm)
      have hle := H_le (Bn (conceptsL (N : Int) c)) x
      exact ⟨impl_lattice_height.h_le k _ (by omega) (ih x hxa hx2.1), by omega⟩)
    rw [H_covers (Bn_tr h) (Bn_dn h) ha _ hC] at key
    exact key
/-- The far list, while row i is being filled. -/
theorem height_l1 {N : Nat} {c : List Int} (h : ctxB (N : Int) c = true) (best : Int) (i : Nat) (hi : i < (closedL N c).length) (k : Nat) (d : Nat) : ∀ (j cur : Nat), j + d = i → cur ≤ 1000 →
    spec_HeightOf.l1 (k + (d + 1)) (conceptsL (N : Int) c) ((List.range i).map (fun x : Nat => ((H (Bn (conceptsL (N : Int) c)) x : Nat) : Int)) ++ [(cur : Int)]) best (i : Int) (j : Int) =
      (spec_l1Max.f best ((fm (H (Bn (conceptsL (N : Int) c))) cur ((List.range' j d).filter (Bn (conceptsL (N : Int) c) i)) : Nat) : Int)).bind fun t => spec_HeightOf.l0 k (conceptsL (N : Int) c) ((List.range i).map (fun x : Nat => ((H (Bn (conceptsL (N : Int) c)) x : Nat) : Int)) ++ [((fm (H (Bn (conceptsL (N : Int) c))) cur ((List.range' j d).filter (Bn (conceptsL (N : Int) c) i)) : Nat) : Int)]) t ((i + 1 : Nat) : Int) := by
  have hlen := conc_len h
  have hl := conceptsL_len (N : Int) c
  induction d with
  | zero =>
    intro j cur hj hcur
    have hlen2 : ((List.range i).map (fun x : Nat => ((H (Bn (conceptsL (N : Int) c)) x : Nat) : Int)) ++ [(cur : Int)]).length = i + 1 := by simp
    have hr : rd ((List.range i).map (fun x : Nat => ((H (Bn (conceptsL (N : Int) c)) x : Nat) : Int)) ++ [(cur : Int)]) (i : Int) = (cur : Int) := by
      unfold rd
      rw [Int.toNat_natCast, List.getD_eq_getElem?_getD, List.getElem?_append_right (by simp), List.length_map, List.length_range, Nat.sub_self]; rfl
    simp only [spec_HeightOf.l1]
    rw [if_neg (by omega), if_pos (by omega), hlen2, if_pos (by omega), hr, wrap_small i (by omega)]
    rfl
  | succ d ih =>
    intro j cur hj hcur
    have hlen2 : ((List.range i).map (fun x : Nat => ((H (Bn (conceptsL (N : Int) c)) x : Nat) : Int)) ++ [(cur : Int)]).length = i + 1 := by simp
    have hu := spec_l6Under_eq (n := (N : Int)) (c := c) (a := (i : Int)) (b := (j : Int)) (exists_nat (by omega)) (exists_nat (by omega)) ((rd_T36 (conceptsL (N : Int) c) (i : Int)).f1) ((rd_T36 (conceptsL (N : Int) c) (j : Int)).f1)
    have hb : belowB (conceptsL (N : Int) c) (i : Int) (j : Int) = Bn (conceptsL (N : Int) c) i j := rfl
    rw [show k + (d + 1 + 1) = (k + (d + 1)) + 1 from rfl, List.range'_succ]
    simp only [spec_HeightOf.l1]
    rw [if_pos (by omega), if_pos (by omega), if_pos (by omega), if_pos (by omega), if_pos (by omega), hu, Option.bind_some, hb, wrap_small j (by omega)]
    cases hB : Bn (conceptsL (N : Int) c) i j with
    | false =>
      rw [if_neg (by decide), List.filter_cons_of_neg (by rw [hB]; decide)]
      exact ih (j + 1) cur (by omega) hcur
    | true =>
      have hr1 : rd ((List.range i).map (fun x : Nat => ((H (Bn (conceptsL (N : Int) c)) x : Nat) : Int)) ++ [(cur : Int)]) (i : Int) = (cur : Int) := by
        unfold rd
        rw [Int.toNat_natCast, List.getD_eq_getElem?_getD, List.getElem?_append_right (by simp), List.length_map, List.length_range, Nat.sub_self]; rfl
      have hr2 : rd ((List.range i).map (fun x : Nat => ((H (Bn (conceptsL (N : Int) c)) x : Nat) : Int)) ++ [(cur : Int)]) (j : Int) = ((H (Bn (conceptsL (N : Int) c)) j : Nat) : Int) := by
        unfold rd
        rw [Int.toNat_natCast, List.getD_eq_getElem?_getD, List.getElem?_append_left (by simp; omega), List.getElem?_map, List.getElem?_range (by omega)]; rfl
      have hle := H_le (Bn (conceptsL (N : Int) c)) j
      have hset : ((List.range i).map (fun x : Nat => ((H (Bn (conceptsL (N : Int) c)) x : Nat) : Int)) ++ [(cur : Int)]).set i ((max cur (H (Bn (conceptsL (N : Int) c)) j + 1) : Nat) : Int) = (List.range i).map (fun x : Nat => ((H (Bn (conceptsL (N : Int) c)) x : Nat) : Int)) ++ [((max cur (H (Bn (conceptsL (N : Int) c)) j + 1) : Nat) : Int)] := by
        rw [List.set_append, if_neg (by simp), List.length_map, List.length_range, Nat.sub_self]; rfl
      rw [if_pos rfl, hlen2, if_pos (by omega), if_pos (by omega), hr1, hr2, wrap_small _ (by omega), max_spec, Option.bind_some, Int.toNat_natCast, hset, List.filter_cons_of_pos (by rw [hB])]
      exact ih (j + 1) (max cur (H (Bn (conceptsL (N : Int) c)) j + 1)) (by omega) (by omega)
def bestOf (B : Nat → Nat → Bool) : Nat → Int
  | 0 => -1
  | i + 1 => if bestOf B i > ((H B i : Nat) : Int) then bestOf B i else ((H B i : Nat) : Int)
theorem hl_split {d i k m : Nat} (hil : i < m) (hm : m ≤ 256) (hk : (d + 1) * 300 + 1 ≤ k) : k = (k - (i + 2)) + (i + 1) + 1 ∧ d * 300 + 1 ≤ k - (i + 2) := by omega
theorem height_l0 {N : Nat} {c : List Int} (h : ctxB (N : Int) c = true) (m : Nat) (hmeq : (closedL N c).length = m) (d : Nat) : ∀ (i k : Nat), i + d = m → d * 300 + 1 ≤ k →
    spec_HeightOf.l0 k (conceptsL (N : Int) c) ((List.range i).map (fun x : Nat => ((H (Bn (conceptsL (N : Int) c)) x : Nat) : Int))) (bestOf (Bn (conceptsL (N : Int) c)) i) (i : Int) = some (bestOf (Bn (conceptsL (N : Int) c)) m) := by
  have hm : (conceptsL (N : Int) c).length = m := (conc_len h).trans hmeq
  have hm256 : m ≤ 256 := hm ▸ conceptsL_len (N : Int) c
  induction d with
  | zero =>
    intro i k hi hk
    have him : i = m := by omega
    obtain ⟨k, rfl⟩ : ∃ q, k = q + 1 := ⟨k - 1, by omega⟩
    simp only [spec_HeightOf.l0]
    rw [hm, if_neg (by omega), him]
  | succ d ih =>
    intro i k hi hk
    have hil : i < m := by omega
    have hk34 := hl_split hil hm256 hk
    have hk3 := hk34.1
    have hk4 := hk34.2
    have hi2 : i + 1 + d = m := by omega
    generalize k - (i + 2) = k' at hk3 hk4
    subst hk3
    have hll : ((List.range i).map (fun x : Nat => ((H (Bn (conceptsL (N : Int) c)) x : Nat) : Int))).length = i := by simp
    have e1 := height_l1 h (bestOf (Bn (conceptsL (N : Int) c)) i) i (hmeq ▸ hil) k' i 0 0 (Nat.zero_add i) (Nat.zero_le _)
    have eH : fm (H (Bn (conceptsL (N : Int) c))) 0 ((List.range' 0 i).filter (Bn (conceptsL (N : Int) c) i)) = H (Bn (conceptsL (N : Int) c)) i := by
      rw [← List.range_eq_range']; exact (H_eq _ i).symm
    rw [eH] at e1
    have e2 : spec_l1Max.f (bestOf (Bn (conceptsL (N : Int) c)) i) ((H (Bn (conceptsL (N : Int) c)) i : Nat) : Int) = some (bestOf (Bn (conceptsL (N : Int) c)) (i + 1)) := by
      unfold spec_l1Max.f
      simp only [bestOf]
      split <;> rfl
    rw [e2, Option.bind_some] at e1
    have e3 : (List.range i).map (fun x : Nat => ((H (Bn (conceptsL (N : Int) c)) x : Nat) : Int)) ++ [((H (Bn (conceptsL (N : Int) c)) i : Nat) : Int)] = (List.range (i + 1)).map (fun x : Nat => ((H (Bn (conceptsL (N : Int) c)) x : Nat) : Int)) := by
      rw [List.range_succ, List.map_append]; rfl
    have g1 : (i : Int) < (m : Int) := by omega
    have g2 : i < 17592186044416 := by omega
    simp only [spec_HeightOf.l0]
    rw [hm, if_pos g1, hll, if_pos g2]
    have e4 : ((0 : Nat) : Int) = 0 := rfl
    rw [e4] at e1
    rw [e1, e3]
    exact ih (i + 1) k' hi2 hk4
theorem best_last {B : Nat → Nat → Bool} (m : Nat) (top : ∀ i, i < m → H B i ≤ H B (m - 1)) : ∀ i, i ≤ m → (i = m → 0 < m → bestOf B i = ((H B (m - 1) : Nat) : Int)) ∧ (0 < m → bestOf B i ≤ ((H B (m - 1) : Nat) : Int))
  | 0, _ => ⟨fun e h => by omega, fun _ => by simp only [bestOf]; omega⟩
  | i + 1, h => by
    have ih := best_last m top i (by omega)
    have ht := top i (by omega)
    constructor
    · intro e hm
      have h1 := ih.2 hm
      have h2 : m - 1 = i := by omega
      rw [h2] at h1 ⊢
      simp only [bestOf]
      rw [if_neg (by omega)]
    · intro hm
      have h1 := ih.2 hm
      simp only [bestOf]
      split
      · exact h1
      · omega
theorem height_same (n : Int) (c : List Int) (hc : c.length ≤ 281474976710656) {k : Nat} (hk : c.length + 90000 ≤ k) : ∃ v, spec_HeightOf.f k n c = some v ∧ impl_HeightOf.f k n c = some v := by
  have hl := conceptsL_len n c
  unfold spec_HeightOf.f impl_HeightOf.f
  rw [spec_Concepts_eq n c hc (by omega), impl_Concepts_eq n c (by omega), Option.bind_some, Option.bind_some]
  by_cases hctx : ctxB n c = true
  · obtain ⟨N, rfl⟩ := Int.eq_ofNat_of_zero_le (ctxB_out hctx).1
    have hlen := conc_len hctx
    have e1 := height_l0 hctx (closedL N c).length rfl (closedL N c).length 0 k (Nat.zero_add _) (by have := hlen ▸ hl; omega)
    by_cases h0 : (closedL N c).length = 0
    · refine ⟨-1, ?_, by rw [if_pos (by omega)]⟩
      rw [h0] at e1
      exact e1
    · have hm : 0 < (closedL N c).length := by omega
      have top : ∀ i, i < (closedL N c).length → H (Bn (conceptsL (N : Int) c)) i ≤ H (Bn (conceptsL (N : Int) c)) ((closedL N c).length - 1) := fun i hi => by
        by_cases e : i = (closedL N c).length - 1
        · rw [e]; exact Nat.le_refl _
        · exact Nat.le_of_lt (H_ge (by omega) (Bn_last hctx hm i hi))
      have e2 := (best_last _ top (closedL N c).length (Nat.le_refl _)).1 rfl hm
      rw [e2] at e1
      refine ⟨_, e1, ?_⟩
      have e3 := impl_height_eq hctx (k := k) (by omega) ((closedL N c).length - 1) (by omega)
      have e4 : wrap64 (((conceptsL (N : Int) c).length : Int) - 1) = (((closedL N c).length - 1 : Nat) : Int) := by rw [hlen, w64 (by omega) (by omega)]; omega
      rw [if_neg (by omega), if_pos (by omega), e4]
      exact impl_lattice_height.h_le k _ (by omega) e3
  · have e : conceptsL n c = [] := by unfold conceptsL; rw [if_neg hctx]
    rw [e]
    refine ⟨-1, ?_, by simp⟩
    cases k with
    | zero => omega
    | succ k => simp [spec_HeightOf.l0]
theorem FnExactHeightOf : laws_FnExactHeightOf.Pure := by
  intro n c hn hm hw
  refine ⟨c.length + 90000, ?_⟩
  unfold laws_FnExactHeightOf.f
  rw [szContext_eq n c hm, Option.bind_some]
  by_cases h : c.length ≤ 1048576
  · rw [if_pos h, if_neg (by omega)]
    have T := toContext_eq n c h (k := c.length + 90000) (by omega)
    have E : laws_eqContext.f (c.length + 90000) n c n c = some true := by rw [eqContext_eq n c n c (by omega) (by omega)]; simp
    obtain ⟨v, e1, e2⟩ := height_same n c (by omega) (Nat.le_refl _)
    simp [T, E, e1, e2]
  · rw [if_neg h]; simp

end Go.Proofs.YtelaihbbfgjnpaaDoor.Pure
