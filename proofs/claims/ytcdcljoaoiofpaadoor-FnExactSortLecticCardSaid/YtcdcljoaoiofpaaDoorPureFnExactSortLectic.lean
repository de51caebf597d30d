/- For every input the law answers true. No condition. -/
import Derived.Test.YtcdcljoaoiofpaaDoorPFnExactSortLecticx5
set_option linter.unusedVariables false
set_option linter.unusedSimpArgs false
namespace Go.Proofs.YtcdcljoaoiofpaaDoor.Pure
open Go.RowKit Go.Proofs.YtcdcljoaoiofpaaDoor.PFnExactSortLectic Go.Proofs.YtcdcljoaoiofpaaDoorW.PrintWords Go.Proofs.YtcdcljoaoiofpaaDoorW.PrintLast Go.Proofs.YtcdcljoaoiofpaaDoor.PFnExactSortLectic.Lec
theorem spec_IsSet_eq (n s : Int) : spec_IsSet.f n s = some (isSetB n s) := by
  unfold spec_IsSet.f spec_l1In.f isSetB
  by_cases h0 : 0 ≤ n
  · by_cases h1 : n ≤ 8
    · have hw := u64_small h0 (by omega)
      rw [hw, shl_full h0 h1]
      by_cases h2 : 0 ≤ s <;> simp [h0, h1, h2]
    · simp [h0, h1]
  · simp [h0]

theorem spec_BeforeSet_eq (s t : Int) : spec_BeforeSet.f s t = some (beforeI s t) := by
  unfold spec_BeforeSet.f beforeI
  rw [spec_IsSet_eq, spec_IsSet_eq]
  cases h : isSetB 8 s with
  | false => simp
  | true =>
    cases h' : isSetB 8 t with
    | false => simp
    | true =>
      have h1 := isSetB_bd h
      have h2 := isSetB_bd h'
      obtain ⟨a, rfl⟩ := Int.eq_ofNat_of_zero_le h1.2.2.1
      obtain ⟨b, rfl⟩ := Int.eq_ofNat_of_zero_le h2.2.2.1
      simp only [Option.bind_some, if_true, Bool.true_and, Int.toNat_natCast]
      unfold beforeB
      by_cases e : a = b
      · subst e; rw [if_pos rfl]; simp
      · rw [if_neg (by omega), xor_nat _ _ (by omega) (by omega)]
        have hx := xor_256 (a := a) (b := b) (by omega) (by omega)
        rcases low_bit ⟨a ^^^ b, hx⟩ with h0 | ⟨h3, h4⟩
        · exact absurd h0 (xor_ne e)
        · dsimp only at h3 h4
          have hp : 2 ^ tzN (a ^^^ b) < 2 ^ 8 := Nat.pow_lt_pow_right (by decide) h3
          rw [h4, and_nat _ _ (by omega) (by omega), ← and_pow_ne]
          have e1 : (a != b) = true := by simp [e]
          have e2 : ((((b &&& 2 ^ tzN (a ^^^ b) : Nat)) : Int) != 0) = ((b &&& 2 ^ tzN (a ^^^ b)) != 0) := by
            rw [Bool.eq_iff_iff, bne_iff_ne, bne_iff_ne]; omega
          rw [e1, e2, Bool.true_and]

theorem l2Sets_loop (l : List Int) (hn : l.length ≤ 281474976710656) : ∀ (d i k : Nat), i + d = l.length → d < k → spec_l2Sets.l0 k l (i : Int) = some ((l.drop i).all (isSetB 8))
  | 0, i, k, hi, hk => by
    obtain ⟨k, rfl⟩ : ∃ m, k = m + 1 := ⟨k - 1, by omega⟩
    simp only [spec_l2Sets.l0]; rw [if_neg (by omega), List.drop_of_length_le (by omega)]; rfl
  | d + 1, i, k, hi, hk => by
    obtain ⟨k, rfl⟩ : ∃ m, k = m + 1 := ⟨k - 1, by omega⟩
    have h1 : i < l.length := by omega
    have ih := l2Sets_loop l hn d (i + 1) k (by omega) (by omega)
    simp only [spec_l2Sets.l0]
    rw [if_pos (by omega), if_pos (by omega), rd_nat l i h1, spec_IsSet_eq, Option.bind_some, wstep (n := l.length) (by omega) (by omega) (by omega), show (i : Int) + 1 = ((i + 1 : Nat) : Int) from by omega, ih, List.drop_eq_getElem_cons h1, List.all_cons]
    cases isSetB 8 l[i] <;> simp
theorem l2Sets_eq (l : List Int) (hn : l.length ≤ 281474976710656) {k : Nat} (hk : l.length < k) : spec_l2Sets.f k l = some (l.all (isSetB 8)) := by
  unfold spec_l2Sets.f
  have := l2Sets_loop l hn l.length 0 k (by omega) hk
  simpa using this
theorem l2In_loop (l : List Int) (x : Int) (hn : l.length ≤ 281474976710656) : ∀ (d i k : Nat), i + d = l.length → d < k → spec_l2In.l0 k l x (i : Int) = some (decide (x ∈ l.drop i))
  | 0, i, k, hi, hk => by
    obtain ⟨k, rfl⟩ : ∃ m, k = m + 1 := ⟨k - 1, by omega⟩
    simp only [spec_l2In.l0]; rw [if_neg (by omega), List.drop_of_length_le (by omega)]; simp
  | d + 1, i, k, hi, hk => by
    obtain ⟨k, rfl⟩ : ∃ m, k = m + 1 := ⟨k - 1, by omega⟩
    have h1 : i < l.length := by omega
    have ih := l2In_loop l x hn d (i + 1) k (by omega) (by omega)
    simp only [spec_l2In.l0]
    rw [if_pos (by omega), if_pos (by omega), rd_nat l i h1, wstep (n := l.length) (by omega) (by omega) (by omega), show (i : Int) + 1 = ((i + 1 : Nat) : Int) from by omega, ih, List.drop_eq_getElem_cons h1]
    by_cases h : l[i] = x
    · rw [if_pos h, h]; simp
    · rw [if_neg h]
      have h' : ¬ x = l[i] := fun e => h e.symm
      have e : (x ∈ l[i] :: l.drop (i + 1)) ↔ x ∈ l.drop (i + 1) := by rw [List.mem_cons]; exact ⟨fun hh => hh.resolve_left h', Or.inr⟩
      rw [decide_eq_decide.mpr e]
theorem l2In_eq (l : List Int) (x : Int) (hn : l.length ≤ 281474976710656) {k : Nat} (hk : l.length < k) : spec_l2In.f k l x = some (decide (x ∈ l)) := by
  unfold spec_l2In.f
  have := l2In_loop l x hn l.length 0 k (by omega) hk
  simpa using this
theorem lecticOf_congr {l l' : List Int} (h : ∀ x, 0 ≤ x ∧ x ≤ 255 → (x ∈ l ↔ x ∈ l')) : lecticOf l = lecticOf l' :=
  rising_eq _ _ (lecticOf_sorted l) (lecticOf_sorted l') fun x => by
    rw [lecticOf_mem, lecticOf_mem]
    exact ⟨fun hh => ⟨hh.1, (h x hh.1).1 hh.2⟩, fun hh => ⟨hh.1, (h x hh.1).2 hh.2⟩⟩
theorem lecticOf_len (l : List Int) : (lecticOf l).length ≤ 256 := by
  have h : lecticAll.length = 256 := by decide +kernel
  unfold lecticOf
  exact Nat.le_trans (List.length_filter_le _ _) (by omega)
theorem insert_eq {out : List Int} {x : Int} {a : Nat} (hr : out.Pairwise (fun s t => rankI s < rankI t)) (hm : ∀ y ∈ out, 0 ≤ y ∧ y ≤ 255) (hx : 0 ≤ x ∧ x ≤ 255)
    (h1 : ∀ y ∈ out.take a, rankI y < rankI x) (h2 : ∀ y ∈ out.drop a, rankI x < rankI y) : out.take a ++ [x] ++ out.drop a = lecticOf (x :: out) := by
  have e : out.take a ++ out.drop a = out := List.take_append_drop a out
  have hr' := hr
  rw [← e, List.pairwise_append] at hr'
  refine rising_eq _ _ ?_ (lecticOf_sorted _) fun y => ?_
  · rw [List.append_assoc, List.pairwise_append]
    refine ⟨hr'.1, ?_, ?_⟩
    · show List.Pairwise _ (x :: out.drop a)
      rw [List.pairwise_cons]
      exact ⟨h2, hr'.2.1⟩
    · intro y hy z hz
      rw [List.singleton_append, List.mem_cons] at hz
      rcases hz with rfl | hz
      · exact h1 y hy
      · exact hr'.2.2 y hy z hz
  · rw [lecticOf_mem, List.mem_cons]
    have hy : y ∈ out ↔ y ∈ out.take a ∨ y ∈ out.drop a := by rw [← List.mem_append, e]
    constructor
    · intro h
      have h : y = x ∨ y ∈ out := by
        rw [List.append_assoc, List.mem_append, List.singleton_append, List.mem_cons] at h
        rcases h with h | h | h
        · exact Or.inr (hy.2 (Or.inl h))
        · exact Or.inl h
        · exact Or.inr (hy.2 (Or.inr h))
      refine ⟨?_, h⟩
      rcases h with rfl | h
      · exact hx
      · exact hm y h
    · rintro ⟨_, h⟩
      rw [List.append_assoc, List.mem_append, List.singleton_append, List.mem_cons]
      rcases h with h | h
      · exact Or.inr (Or.inl h)
      · rcases hy.1 h with h | h
        · exact Or.inl h
        · exact Or.inr (Or.inr h)
theorem ins_loop (l out : List Int) (i : Nat) (hi : i < l.length) (hl : l.length ≤ 281474976710656) (hr : out.Pairwise (fun s t => rankI s < rankI t)) (hm : ∀ y ∈ out, 0 ≤ y ∧ y ≤ 255) (hx : 0 ≤ l[i] ∧ l[i] ≤ 255) (hn : l[i] ∉ out) (hlen : out.length ≤ 256) :
    ∀ (d a k : Nat), a + d = out.length → (∀ y ∈ out.take a, rankI y < rankI l[i]) → d < k → ∃ k', k ≤ k' + d + 1 ∧ spec_SortLectic.l1 k l out (i : Int) (a : Int) = spec_SortLectic.l0 k' l (lecticOf (l[i] :: out)) ((i + 1 : Nat) : Int)
  | 0, a, k, ha, hb, hk => by
    obtain ⟨k, rfl⟩ : ∃ m, k = m + 1 := ⟨k - 1, by omega⟩
    have hw : wrap64 ((i : Int) + 1) = ((i + 1 : Nat) : Int) := by rw [wstep (n := l.length) (by omega) (by omega) (by omega)]; omega
    have ei := insert_eq (a := a) hr hm hx hb (fun y hy => by rw [List.drop_of_length_le (by omega)] at hy; cases hy)
    have hdl : (out.drop a).length = 0 := by rw [List.length_drop]; omega
    have htl : (out.take a).length ≤ 256 := by rw [List.length_take]; omega
    refine ⟨k, by omega, ?_⟩
    simp only [spec_SortLectic.l1]
    rw [if_neg (by omega)]
    simp only [Option.bind_some, Int.toNat_natCast, List.nil_append]
    rw [if_pos (by omega), if_pos (by omega), if_pos (by simp only [List.length_nil]; omega), if_pos (by omega), if_pos (by omega), if_pos (by omega), if_pos (by rw [List.length_append, List.length_singleton]; omega), rd_nat l i hi, hw, ei]
  | d + 1, a, k, ha, hb, hk => by
    obtain ⟨k, rfl⟩ : ∃ m, k = m + 1 := ⟨k - 1, by omega⟩
    have hw : wrap64 ((i : Int) + 1) = ((i + 1 : Nat) : Int) := by rw [wstep (n := l.length) (by omega) (by omega) (by omega)]; omega
    have hal : a < out.length := by omega
    have hoa : out[a] ∈ out := List.getElem_mem hal
    have hbv : spec_BeforeSet.f out[a] l[i] = some (decide (rankI out[a] < rankI l[i])) := by
      rw [spec_BeforeSet_eq]
      unfold beforeI
      have s1 : isSetB 8 out[a] = true := by rw [isSetB8]; exact decide_eq_true (hm _ hoa)
      have s2 : isSetB 8 l[i] = true := by rw [isSetB8]; exact decide_eq_true hx
      rw [s1, s2, before_rank (by have := hm _ hoa; omega) (by omega)]; rfl
    simp only [spec_SortLectic.l1]
    rw [if_pos (by omega), if_pos (by omega), if_pos (by omega), if_pos (by omega), rd_nat l i hi, rd_nat out a hal, hbv, Option.bind_some]
    by_cases hlt : rankI out[a] < rankI l[i]
    · rw [decide_eq_true hlt, if_pos rfl]
      have hw2 : wrap64 ((a : Int) + 1) = ((a + 1 : Nat) : Int) := by rw [wstep (n := out.length) (by omega) (by omega) (by omega)]; omega
      rw [hw2]
      obtain ⟨k', hk', e⟩ := ins_loop l out i hi hl hr hm hx hn hlen d (a + 1) k (by omega) (fun y hy => by
        rw [List.take_succ_eq_append_getElem hal, List.mem_append, List.mem_singleton] at hy
        rcases hy with hy | rfl
        · exact hb y hy
        · exact hlt) (by omega)
      exact ⟨k', by omega, e⟩
    · rw [decide_eq_false hlt, if_neg (by decide)]
      have hne : out[a] ≠ l[i] := fun e => hn (by rw [← e]; exact hoa)
      have hgt : rankI l[i] < rankI out[a] := by
        rcases Nat.lt_or_ge (rankI l[i]) (rankI out[a]) with h | h
        · exact h
        · exact absurd (rankI_inj (hm _ hoa) hx (by omega)) hne
      have ei := insert_eq (a := a) hr hm hx hb (fun y hy => by
        rw [List.drop_eq_getElem_cons hal, List.mem_cons] at hy
        rcases hy with rfl | hy
        · exact hgt
        · have h0 : (out.drop a).Pairwise (fun s t => rankI s < rankI t) := by
            have hr' := hr
            rw [← List.take_append_drop a out, List.pairwise_append] at hr'
            exact hr'.2.1
          rw [List.drop_eq_getElem_cons hal, List.pairwise_cons] at h0
          exact Nat.lt_trans hgt (h0.1 y hy))
      have hdl : (out.drop a).length ≤ 256 := by rw [List.length_drop]; omega
      have htl : (out.take a).length ≤ 256 := by rw [List.length_take]; omega
      refine ⟨k, by omega, ?_⟩
      simp only [Option.bind_some, Int.toNat_natCast, List.nil_append]
      rw [if_pos (by omega), if_pos (by simp only [List.length_nil]; omega), if_pos (by omega), if_pos (by rw [List.length_append, List.length_singleton]; omega), hw, ei]
theorem sort_loop (l : List Int) (hl : l.length ≤ 281474976710656) (hs : ∀ x ∈ l, isSetB 8 x = true) (d : Nat) : ∀ (i k : Nat), i + d = l.length → d * 300 + 300 ≤ k → spec_SortLectic.l0 k l (lecticOf (l.take i)) (i : Int) = some (lecticOf l) := by
  induction d with
  | zero =>
    intro i k hi hk
    obtain ⟨k, rfl⟩ : ∃ m, k = m + 1 := ⟨k - 1, by omega⟩
    simp only [spec_SortLectic.l0]
    rw [if_neg (by omega), List.take_of_length_le (by omega)]
  | succ d ih =>
    intro i k hi hk
    rw [Nat.succ_mul] at hk
    generalize d * 300 = D at hk ih
    obtain ⟨k, rfl⟩ : ∃ m, k = m + 1 := ⟨k - 1, by omega⟩
    have h1 : i < l.length := by omega
    have hlen := lecticOf_len (l.take i)
    have hx : 0 ≤ l[i] ∧ l[i] ≤ 255 := by
      have := hs _ (List.getElem_mem h1)
      rw [isSetB8] at this
      exact of_decide_eq_true this
    have hw : wrap64 ((i : Int) + 1) = ((i + 1 : Nat) : Int) := by rw [wstep (n := l.length) (by omega) (by omega) (by omega)]; omega
    have et : l.take (i + 1) = l.take i ++ [l[i]] := List.take_succ_eq_append_getElem h1
    simp only [spec_SortLectic.l0]
    rw [if_pos (by omega), if_pos (by omega), rd_nat l i h1, l2In_eq _ _ (by omega) (by omega), Option.bind_some]
    by_cases hin : l[i] ∈ lecticOf (l.take i)
    · rw [decide_eq_true hin, if_pos rfl, hw]
      have e : lecticOf (l.take i) = lecticOf (l.take (i + 1)) := lecticOf_congr fun x _ => by
        rw [et, List.mem_append, List.mem_singleton]
        constructor
        · exact Or.inl
        · rintro (h | rfl)
          · exact h
          · exact ((lecticOf_mem _ _).1 hin).2
      rw [e]
      exact ih (i + 1) k (by omega) (by omega)
    · rw [decide_eq_false hin, if_neg (by decide)]
      obtain ⟨k', hk', e⟩ := ins_loop l (lecticOf (l.take i)) i h1 hl (lecticOf_sorted _) (fun y hy => ((lecticOf_mem _ _).1 hy).1) hx hin hlen (lecticOf (l.take i)).length 0 k (by omega) (fun y hy => by simp at hy) (by omega)
      have e0 : ((0 : Nat) : Int) = 0 := rfl
      rw [e0] at e
      rw [e]
      have e2 : lecticOf (l[i] :: lecticOf (l.take i)) = lecticOf (l.take (i + 1)) := lecticOf_congr fun x hx0 => by
        rw [et, List.mem_append, List.mem_singleton, List.mem_cons, lecticOf_mem]
        constructor
        · rintro (h | h)
          · exact Or.inr h
          · exact Or.inl h.2
        · rintro (h | h)
          · exact Or.inr ⟨hx0, h⟩
          · exact Or.inl h
      rw [e2]
      exact ih (i + 1) k' (by omega) (by omega)
def sortL (l : List Int) : List Int := if l.all (isSetB 8) then lecticOf l else []
theorem spec_SortLectic_eq (l : List Int) (hl : l.length ≤ 281474976710656) {k : Nat} (hk : l.length * 300 + 300 ≤ k) : spec_SortLectic.f k l = some (sortL l) := by
  unfold spec_SortLectic.f sortL
  rw [Option.bind_some, l2Sets_eq l hl (by omega), Option.bind_some]
  cases h : l.all (isSetB 8) with
  | false => simp
  | true =>
    rw [if_pos rfl, if_pos rfl]
    have hz : lecticOf [] = [] := by decide +kernel
    have := sort_loop l hl (List.all_eq_true.1 h) l.length 0 k (by omega) (by omega)
    rw [List.take_zero, hz] at this
    exact this
theorem impl_SortLectic_eq (l : List Int) (hl : l.length ≤ 17592186044416) : impl_SortLectic.f l = some (sortL l) := by
  unfold impl_SortLectic.f sortL
  rw [if_pos hl]
  have e : l.any (fun x => !isSetB 8 x) = !l.all (isSetB 8) := by rw [List.all_eq_not_any_not, Bool.not_not]
  rw [e]
  cases l.all (isSetB 8) <;> simp
theorem sortL_len (l : List Int) : (sortL l).length ≤ 256 := by
  unfold sortL
  cases l.all (isSetB 8)
  · simp
  · exact lecticOf_len l

theorem eqIntS_loop (a b : List Int) (hl : a.length = b.length) (hn : a.length ≤ 281474976710656) : ∀ (d i k : Nat), i + d = a.length → d < k → laws_eqIntS.l0 k a b (i : Int) = some (decide (a.drop i = b.drop i))
  | 0, i, k, hi, hk => by
    obtain ⟨k, rfl⟩ : ∃ m, k = m + 1 := ⟨k - 1, by omega⟩
    simp only [laws_eqIntS.l0]; rw [if_neg (by omega), List.drop_eq_nil_of_le (by omega), List.drop_eq_nil_of_le (by omega)]; simp
  | d + 1, i, k, hi, hk => by
    obtain ⟨k, rfl⟩ : ∃ m, k = m + 1 := ⟨k - 1, by omega⟩
    have h1 : i < a.length := by omega
    have h2 : i < b.length := by omega
    have ih := eqIntS_loop a b hl hn d (i + 1) k (by omega) (by omega)
    simp only [laws_eqIntS.l0]
    rw [if_pos (by omega), if_pos (by omega), if_pos (by omega), wstep (n := a.length) (by omega) (by omega) hn]
    have ra : rd a (i : Int) = a[i] := by unfold rd; rw [Int.toNat_natCast, List.getD_eq_getElem?_getD, List.getElem?_eq_getElem h1]; rfl
    have rb : rd b (i : Int) = b[i] := by unfold rd; rw [Int.toNat_natCast, List.getD_eq_getElem?_getD, List.getElem?_eq_getElem h2]; rfl
    rw [ra, rb, List.drop_eq_getElem_cons h1, List.drop_eq_getElem_cons h2]
    by_cases e : a[i] = b[i]
    · rw [if_pos e, e]
      have : ((i : Int) + 1) = ((i + 1 : Nat) : Int) := by omega
      rw [this, ih]; simp only [List.cons.injEq, true_and]
    · rw [if_neg e]; simp only [List.cons.injEq, e, false_and, decide_false]
theorem eqIntS_eq (a b : List Int) (hn : a.length ≤ 281474976710656) {k : Nat} (hk : a.length < k) : laws_eqIntS.f k a b = some (decide (a = b)) := by
  unfold laws_eqIntS.f
  by_cases hl : a.length = b.length
  · rw [if_pos (by omega)]
    have := eqIntS_loop a b hl hn a.length 0 k (by omega) hk
    simpa using this
  · rw [if_neg (by omega)]
    have : a ≠ b := fun h => hl (by rw [h])
    simp [this]

/-- n numbers from m on. -/
def marked (m : Int) : Nat → List Int
  | 0 => []
  | n + 1 => m :: marked (m + 1) n
theorem marked_len (m : Int) (n : Nat) : (marked m n).length = n := by induction n generalizing m with
  | zero => rfl
  | succ n ih => simp [marked, ih]
theorem marked_get (m : Int) (n i : Nat) (h : i < n) : (marked m n).getD i 0 = m + i := by induction n generalizing m i with
  | zero => omega
  | succ n ih =>
    cases i with
    | zero => simp [marked]
    | succ i => simp only [marked, List.getD_cons_succ]; rw [ih (m + 1) i (by omega)]; omega
theorem marked_snoc (m : Int) (n : Nat) : marked m (n + 1) = marked m n ++ [m + n] := by induction n generalizing m with
  | zero => simp [marked]
  | succ n ih => rw [marked, ih (m + 1)]; simp only [marked, List.cons_append]; congr 3; omega
theorem mark_loop (a : List Int) (m : Int) (hm0 : 0 ≤ m) (hn : m + a.length ≤ 4611686018427387904) : ∀ (d i k : Nat), i + d = a.length → d < k → laws_markIntS.l0 k (marked m i ++ a.drop i) (m + i) (i : Int) = some (m + a.length, marked m a.length)
  | 0, i, k, hi, hk => by
    obtain ⟨k, rfl⟩ : ∃ m, k = m + 1 := ⟨k - 1, by omega⟩
    have hl : (marked m i ++ a.drop i).length = a.length := by rw [List.length_append, marked_len, List.length_drop]; omega
    simp only [laws_markIntS.l0]; rw [if_neg (by omega), List.drop_eq_nil_of_le (by omega), List.append_nil]
    have : i = a.length := by omega
    rw [this]
  | d + 1, i, k, hi, hk => by
    obtain ⟨k, rfl⟩ : ∃ m, k = m + 1 := ⟨k - 1, by omega⟩
    have hl : (marked m i ++ a.drop i).length = a.length := by rw [List.length_append, marked_len, List.length_drop]; omega
    have h1 : i < a.length := by omega
    have ih := mark_loop a m hm0 hn d (i + 1) k (by omega) (by omega)
    simp only [laws_markIntS.l0]
    rw [if_pos (by omega), if_pos (by omega), w64 (by omega) (by omega), w64 (by omega) (by omega)]
    have e : (marked m i ++ a.drop i).set ((i : Int)).toNat (m + i) = marked m (i + 1) ++ a.drop (i + 1) := by
      rw [Int.toNat_natCast, List.set_append_right _ _ (by rw [marked_len]; omega), marked_len, Nat.sub_self, List.drop_eq_getElem_cons h1, List.set_cons_zero, marked_snoc]; simp
    rw [e, show m + (i : Int) + 1 = m + ((i + 1 : Nat) : Int) from by omega, show (i : Int) + 1 = ((i + 1 : Nat) : Int) from by omega]
    exact ih
theorem markIntS_eq (a : List Int) (m : Int) (hm0 : 0 ≤ m) (hn : m + a.length ≤ 4611686018427387904) {k : Nat} (hk : a.length < k) : laws_markIntS.f k a m = some (m + a.length, marked m a.length) := by
  have := mark_loop a m hm0 hn a.length 0 k (by omega) hk
  unfold laws_markIntS.f
  simpa [marked] using this
theorem held_loop (n : Nat) (m : Int) (hm0 : 0 ≤ m) (hn : m + n ≤ 4611686018427387904) : ∀ (d i k : Nat), i + d = n → d < k → laws_heldIntS.l0 k (marked m n) (m + i) (i : Int) = some (m + n)
  | 0, i, k, hi, hk => by
    obtain ⟨k, rfl⟩ : ∃ m, k = m + 1 := ⟨k - 1, by omega⟩
    simp only [laws_heldIntS.l0]; rw [marked_len, if_neg (by omega)]; congr 1; omega
  | d + 1, i, k, hi, hk => by
    obtain ⟨k, rfl⟩ : ∃ m, k = m + 1 := ⟨k - 1, by omega⟩
    have ih := held_loop n m hm0 hn d (i + 1) k (by omega) (by omega)
    simp only [laws_heldIntS.l0]; rw [marked_len, if_pos (by omega), if_pos (by omega), w64 (by omega) (by omega), w64 (by omega) (by omega)]
    have : rd (marked m n) (i : Int) = m + i := by unfold rd; rw [Int.toNat_natCast, marked_get m n i (by omega)]
    rw [if_pos this, show m + (i : Int) + 1 = m + ((i + 1 : Nat) : Int) from by omega, show (i : Int) + 1 = ((i + 1 : Nat) : Int) from by omega]
    exact ih
theorem heldIntS_eq (n : Nat) (m : Int) (hm0 : 0 ≤ m) (hn : m + n ≤ 4611686018427387904) {k : Nat} (hk : n < k) : laws_heldIntS.f k (marked m n) m = some (m + n) := by
  have := held_loop n m hm0 hn n 0 k (by omega) hk
  unfold laws_heldIntS.f
  simpa using this

theorem toIntS_loop (a : List Int) (hn : a.length ≤ 35184372088832) : ∀ (d i k : Nat), i + d = a.length → d < k → laws_toIntS.l0 k a (a.take i ++ List.replicate d 0) (i : Int) = some a
  | 0, i, k, hi, hk => by
    obtain ⟨k, rfl⟩ : ∃ m, k = m + 1 := ⟨k - 1, by omega⟩
    simp only [laws_toIntS.l0]; rw [if_neg (by omega), List.take_of_length_le (by omega)]; simp
  | d + 1, i, k, hi, hk => by
    obtain ⟨k, rfl⟩ : ∃ m, k = m + 1 := ⟨k - 1, by omega⟩
    have h1 : i < a.length := by omega
    have ih := toIntS_loop a hn d (i + 1) k (by omega) (by omega)
    have hl : (a.take i ++ List.replicate (d + 1) 0).length = a.length := by rw [List.length_append, List.length_take, List.length_replicate]; omega
    simp only [laws_toIntS.l0]
    have e : (a.take i ++ List.replicate (d + 1) 0).set ((i : Int)).toNat (rd a (i : Int)) = a.take (i + 1) ++ List.replicate d 0 := by
      rw [Int.toNat_natCast, rd_nat a i h1, List.set_append_right _ _ (by rw [List.length_take]; omega), List.length_take, Nat.min_eq_left (by omega), Nat.sub_self, List.replicate_succ, List.set_cons_zero, List.take_succ_eq_append_getElem h1, List.append_assoc]
      rfl
    rw [if_pos (by omega), if_pos (by omega), if_pos (by rw [hl]; omega), e, wstep (n := a.length) (by omega) (by omega) (by omega), show (i : Int) + 1 = ((i + 1 : Nat) : Int) from by omega]
    exact ih
theorem toIntS_eq (a : List Int) (hn : a.length ≤ 35184372088832) {k : Nat} (hk : a.length < k) : laws_toIntS.f k a = some a := by
  unfold laws_toIntS.f
  rw [if_pos (by omega), if_pos (by omega), Int.toNat_natCast]
  have := toIntS_loop a hn a.length 0 k (by omega) hk
  simpa using this

theorem FnExactSortLectic : laws_FnExactSortLectic.Pure := by
  intro l hm hw
  refine ⟨l.length * 300 + 600, ?_⟩
  unfold laws_FnExactSortLectic.f
  by_cases hbig : (l.length : Int) > 1048576
  · rw [if_pos hbig]
  have hl : l.length ≤ 1048576 := by omega
  rw [if_neg hbig]
  have T (k : Nat) (hk : l.length < k) : laws_toIntS.f k l = some l := toIntS_eq l (by omega) hk
  have S := spec_SortLectic_eq l (by omega) (k := l.length * 300 + 600) (by omega)
  have I := impl_SortLectic_eq l (by omega)
  have hs := sortL_len l
  generalize sortL l = z at S I hs
  have E (k : Nat) (hk : 256 < k) : laws_eqIntS.f k z z = some true := by rw [eqIntS_eq z z (by omega) (by omega)]; simp
  have EL (k : Nat) (hk : l.length < k) : laws_eqIntS.f k l l = some true := by rw [eqIntS_eq l l (by omega) (by omega)]; simp
  have ML (k : Nat) (hk : l.length < k) := markIntS_eq l 1 (by omega) (by omega) (k := k) hk
  have M (k : Nat) (hk : 256 < k) := markIntS_eq z 1 (by omega) (by omega) (k := k) (by omega)
  have H (k : Nat) (hk : 256 < k) := heldIntS_eq z.length 1 (by omega) (by omega) (k := k) (by omega)
  have g1 : ¬ ((1 : Int) + (l.length : Int) < 0) := by omega
  have g2 : ¬ ((1 : Int) + (z.length : Int) < 0) := by omega
  obtain ⟨k, hk⟩ : ∃ k, l.length * 300 + 600 = k + 1 := ⟨l.length * 300 + 599, rfl⟩
  rw [hk] at S ⊢
  have a1 : l.length < k + 1 := by omega
  have a2 : l.length < k := by omega
  have a3 : 256 < k + 1 := by omega
  have a4 : 256 < k := by omega
  simp only [laws_FnExactSortLectic.j0, T _ a1, T _ a2, S, I, E _ a3, E _ a4, EL _ a1, ML _ a1, M _ a4, H _ a4, Option.bind_some, if_true, if_neg g1, if_neg g2, Bool.not_true, Bool.false_eq_true, if_false]

end Go.Proofs.YtcdcljoaoiofpaaDoor.Pure
