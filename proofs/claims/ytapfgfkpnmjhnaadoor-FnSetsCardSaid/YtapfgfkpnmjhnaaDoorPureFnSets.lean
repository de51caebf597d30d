/- For every input the law answers true. No condition. -/
import Derived.Test.YtapfgfkpnmjhnaaDoorPFnSetsx9
set_option linter.unusedVariables false
set_option linter.unusedSimpArgs false
namespace Go.Proofs.YtapfgfkpnmjhnaaDoor.Pure
open Go.RowKit Go.Proofs.YtapfgfkpnmjhnaaDoor.PFnSets Go.Proofs.YtapfgfkpnmjhnaaDoorW.PrintWords Go.Proofs.YtapfgfkpnmjhnaaDoorW.PrintLast Go.Proofs.YtapfgfkpnmjhnaaDoor.PFnSets.Lec
theorem spec_IsSet_eq (n s : Int) : spec_IsSet.f n s = some (isSetB n s) := by
  unfold spec_IsSet.f spec_l1In.f isSetB
  by_cases h0 : 0 ≤ n
  · by_cases h1 : n ≤ 8
    · have hw := u64_small h0 (by omega)
      rw [hw, shl_full h0 h1]
      by_cases h2 : 0 ≤ s <;> simp [h0, h1, h2]
    · simp [h0, h1]
  · simp [h0]

theorem spec_l2Has_eq {s e : Int} (hs0 : 0 ≤ s) (hs : s < 9223372036854775808) (he0 : 0 ≤ e) (he : e ≤ 63) : spec_l2Has.f s e = some (hasB s e) := by
  unfold spec_l2Has.f
  rw [u64_small he0 (by omega), if_pos he0, bit_int hs0 hs he0 he]

theorem spec_HasElement_eq (s e : Int) : spec_HasElement.f s e = some (isSetB 8 s && (decide (0 ≤ e ∧ e ≤ 7) && hasB s e)) := by
  unfold spec_HasElement.f spec_l1In.f
  rw [spec_IsSet_eq]
  by_cases h : isSetB 8 s = true
  · have := isSetB_bd h
    by_cases h0 : 0 ≤ e
    · by_cases h1 : e ≤ 7
      · have h2 := spec_l2Has_eq (s := s) (e := e) (by omega) (by omega) h0 (by omega)
        simp [h, h0, h1, h2]
      · simp [h, h0, h1]
    · simp [h, h0]
  · simp [h]

/-- The elements of s, from 0 on. -/
def elems (s : Int) : List Int := ((List.range 8).filter (fun e => s.toNat.testBit e)).map (fun e : Nat => (e : Int))
theorem spec_ElementsOf_set {s : Int} (hs : isSetB 8 s = true) : spec_ElementsOf.f 9 s = some (elems s) :=
  all256 (P := fun s => spec_ElementsOf.f 9 s = some (elems s)) (by decide +kernel) hs
theorem spec_ElementsOf_no {s : Int} (hs : isSetB 8 s = false) : spec_ElementsOf.f 9 s = some [] := by
  have h (e : Int) : spec_HasElement.f s e = some false := by rw [spec_HasElement_eq, hs]; rfl
  unfold spec_ElementsOf.f
  simp [spec_ElementsOf.l0, h, wrap64]
theorem elems_len : ∀ s : Int, (elems s).length ≤ 8 := by
  intro s; unfold elems; rw [List.length_map]; exact List.length_filter_le _ (List.range 8)

theorem impl_ElementsOf_set {s : Int} (hs : isSetB 8 s = true) : impl_ElementsOf.f 9 s = some (elems s) :=
  all256 (P := fun s => impl_ElementsOf.f 9 s = some (elems s)) (by decide +kernel) hs
theorem impl_ElementsOf_no {s : Int} (hs : isSetB 8 s = false) : impl_ElementsOf.f 9 s = some [] := by
  have h (e : Int) : impl_HasElement.f s e = some false := by rw [impl_HasElement_eq, hs]; rfl
  unfold impl_ElementsOf.f
  simp [impl_ElementsOf.l0, h, wrap64]

/-- The letters of s. -/
def letters (s : Int) : List UInt8 := if s = 0 then [45] else ((List.range 8).filter (fun e => s.toNat.testBit e)).map (fun e : Nat => (97 + e).toUInt8)
/-- SetText. -/
def setText (s : Int) : List UInt8 := if isSetB 8 s then letters s else []
theorem map_some {α β : Type} {o : Option α} {f : α → β} {y : β} (h : o.map f = some y) : ∃ x, o = some x ∧ f x = y := by
  cases o with
  | none => cases h
  | some x => exact ⟨x, rfl, Option.some.inj h⟩
theorem spec_SetText_eq (s : Int) : ∃ b, spec_SetText.f 10 s = some b ∧ b.data.toList = setText s := by
  apply map_some (f := fun b : ByteArray => b.data.toList)
  cases hs : isSetB 8 s with
  | true => exact all256 (P := fun s => (spec_SetText.f 10 s).map (fun b : ByteArray => b.data.toList) = some (setText s)) (by decide +kernel) hs
  | false => unfold spec_SetText.f setText; rw [spec_IsSet_eq, hs]; rfl
theorem impl_SetText_eq (s : Int) : ∃ b, impl_SetText.f 10 s = some b ∧ b.data.toList = setText s := by
  apply map_some (f := fun b : ByteArray => b.data.toList)
  cases hs : isSetB 8 s with
  | true => exact all256 (P := fun s => (impl_SetText.f 10 s).map (fun b : ByteArray => b.data.toList) = some (setText s)) (by decide +kernel) hs
  | false => unfold impl_SetText.f setText; rw [impl_isAnySet_eq, hs]; rfl

theorem rdS (l : List ByteArray) (i : Nat) (h : i < l.length) : rdOf ByteArray.empty l (i : Int) = l[i] := by unfold rdOf; rw [Int.toNat_natCast, List.getD_eq_getElem?_getD, List.getElem?_eq_getElem h]; rfl
def sumSz (l : List ByteArray) : Nat := (l.map (·.size)).sum
theorem sumSz_take (l : List ByteArray) (i : Nat) (h : i < l.length) : sumSz (l.take (i + 1)) = sumSz (l.take i) + l[i].size := by
  unfold sumSz; rw [List.take_succ_eq_append_getElem h, List.map_append, List.sum_append_nat, List.map_singleton, List.sum_singleton]
theorem sumSz_drop (l : List ByteArray) (i : Nat) (h : i < l.length) : sumSz (l.drop i) = l[i].size + sumSz (l.drop (i + 1)) := by
  unfold sumSz; rw [List.drop_eq_getElem_cons h, List.map_cons, List.sum_cons]
theorem sumSz_le (l : List ByteArray) (i : Nat) : sumSz (l.take i) + sumSz (l.drop i) = sumSz l := by
  unfold sumSz
  rw [← List.sum_append_nat, ← List.map_append, List.take_append_drop]

/-- Bytes, as numbers. -/
def nums (b : List UInt8) : List Int := b.map fun x => (x.toNat : Int)
theorem bytesOf_nums (s : ByteArray) : bytesOf s = nums s.data.toList := rfl
theorem nums_len (b : List UInt8) : (nums b).length = b.length := List.length_map _
theorem nums_app (a b : List UInt8) : nums a ++ nums b = nums (a ++ b) := (List.map_append).symm
theorem strOfNums_nums (b : List UInt8) : strOfNums (nums b) = ⟨b.toArray⟩ := by
  unfold strOfNums nums
  rw [List.map_map]
  have e : ((fun n : Int => UInt8.ofNat n.toNat) ∘ fun x : UInt8 => (x.toNat : Int)) = id := by
    funext x
    show UInt8.ofNat ((x.toNat : Int)).toNat = x
    rw [Int.toNat_natCast, UInt8.ofNat_toNat]
  rw [e, List.map_id]
theorem dlen (s : ByteArray) : s.data.toList.length = s.size := by rw [Array.length_toList]; rfl
theorem join_snoc (l : List ByteArray) (s x : ByteArray) : joinB (l ++ [x]) s = if l = [] then x.data.toList else joinB l s ++ s.data.toList ++ x.data.toList := by
  cases l with
  | nil => rw [if_pos rfl]; exact Go.Lib.join_one _ _
  | cons y r =>
    rw [if_neg (by simp)]
    unfold joinB
    rw [List.cons_append, List.map_cons, List.map_cons, Go.Lib.join_cons, Go.Lib.join_cons, List.map_append]
    unfold Go.Lib.joinTail
    rw [List.map_append, List.flatten_append]
    simp
theorem join_take (l : List ByteArray) (s : ByteArray) (i : Nat) (h : i < l.length) : joinB (l.take (i + 1)) s = if i = 0 then l[i].data.toList else joinB (l.take i) s ++ s.data.toList ++ l[i].data.toList := by
  rw [List.take_succ_eq_append_getElem h, join_snoc]
  by_cases h0 : i = 0
  · subst h0; rfl
  · rw [if_neg h0, if_neg (fun e => h0 (by have := congrArg List.length e; rw [List.length_take, List.length_nil] at this; omega))]
theorem join_len (l : List ByteArray) (s : ByteArray) : ∀ i, i ≤ l.length → (joinB (l.take i) s).length = (i - 1) * s.size + sumSz (l.take i)
  | 0, _ => by
    rw [List.take_zero]
    show 0 = (0 - 1) * s.size + 0
    rw [Nat.zero_sub, Nat.zero_mul]
  | i + 1, h => by
    have ih := join_len l s i (by omega)
    rw [join_take l s i (by omega), sumSz_take l i (by omega)]
    by_cases h0 : i = 0
    · rw [if_pos h0, dlen]; subst h0; show _ = 0 * s.size + (0 + _); omega
    · rw [if_neg h0, List.length_append, List.length_append, ih, dlen, dlen]
      obtain ⟨j, rfl⟩ : ∃ j, i = j + 1 := ⟨i - 1, by omega⟩
      have e1 : j + 1 - 1 = j := rfl
      have e2 : j + 1 + 1 - 1 = j + 1 := rfl
      rw [e1, e2, Nat.add_mul, Nat.one_mul]
      omega
theorem join_mono (l : List ByteArray) (s : ByteArray) {i : Nat} (h : i ≤ l.length) : (joinB (l.take i) s).length ≤ (joinB l s).length := by
  have e := join_len l s l.length (Nat.le_refl _)
  rw [List.take_length] at e
  rw [join_len l s i h, e]
  have h1 := sumSz_le l i
  have h2 : (i - 1) * s.size ≤ (l.length - 1) * s.size := Nat.mul_le_mul_right _ (by omega)
  omega
/-- What Join answers. -/
def joinR (l : List ByteArray) (s : ByteArray) : ByteArray := if (joinB l s).length ≤ 1048576 then ⟨(joinB l s).toArray⟩ else ⟨#[]⟩

theorem spec_Join_loop (l : List ByteArray) (s : ByteArray) (hl : l.length ≤ 1048576) (hs : s.size ≤ 1048576) (hx : ∀ x ∈ l, x.size ≤ 1048576) (d : Nat) : ∀ (i k : Nat), i + d = l.length → d < k → (joinB (l.take i) s).length ≤ 1048576 →
    spec_Join.l0 k l s (nums (joinB (l.take i) s)) (i : Int) = some (joinR l s) := by
  induction d with
  | zero =>
    intro i k hi hk hp
    obtain ⟨k, rfl⟩ : ∃ m, k = m + 1 := ⟨k - 1, by omega⟩
    rw [List.take_of_length_le (by omega)] at hp ⊢
    simp only [spec_Join.l0]
    rw [if_neg (by omega), strOfNums_nums]
    unfold joinR
    rw [if_pos hp]
  | succ d ih =>
    intro i k hi hk hp
    obtain ⟨k, rfl⟩ : ∃ m, k = m + 1 := ⟨k - 1, by omega⟩
    have h1 : i < l.length := by omega
    have hw : wrap64 ((i : Int) + 1) = ((i + 1 : Nat) : Int) := by rw [wstep (n := l.length) (by omega) (by omega) (by omega)]; omega
    have hxi := hx _ (List.getElem_mem h1)
    have ht := join_take l s i h1
    have hmono := join_mono l s (i := i + 1) (by omega)
    have ih' := ih (i + 1) k (by omega) (by omega)
    have hbig : ¬ (joinB (l.take (i + 1)) s).length ≤ 1048576 → joinR l s = (⟨#[]⟩ : ByteArray) := fun h => by unfold joinR; rw [if_neg (by omega)]
    simp only [spec_Join.l0]
    rw [if_pos (by omega), rdS l i h1, hw]
    by_cases h0 : i = 0
    · rw [if_pos h0] at ht
      have hnil : nums (joinB (l.take i) s) = [] := by rw [h0]; rfl
      rw [if_neg (by omega), if_pos (by omega), hnil, if_pos (by simp only [List.length_nil]; omega), Option.bind_some, List.nil_append, bytesOf_nums, ← ht]
      by_cases hb : (joinB (l.take (i + 1)) s).length ≤ 1048576
      · rw [if_neg (by rw [nums_len]; omega)]; exact ih' hb
      · rw [if_pos (by rw [nums_len]; omega), hbig hb]
    · rw [if_neg h0] at ht
      have hlt : (nums (joinB (l.take i) s)).length + s.size < 140737488355328 := by rw [nums_len]; omega
      have hlt2 : (nums (joinB (l.take i) s ++ s.data.toList)).length + l[i].size < 140737488355328 := by rw [nums_len, List.length_append, dlen]; omega
      rw [if_pos (by omega), if_pos hlt, Option.bind_some, if_pos (by omega), bytesOf_nums, nums_app, if_pos hlt2, Option.bind_some, bytesOf_nums, nums_app, ← ht]
      by_cases hb : (joinB (l.take (i + 1)) s).length ≤ 1048576
      · rw [if_neg (by rw [nums_len]; omega)]; exact ih' hb
      · rw [if_pos (by rw [nums_len]; omega), hbig hb]
theorem spec_Join_eq (l : List ByteArray) (s : ByteArray) (hl : l.length ≤ 1048576) (hs : s.size ≤ 1048576) (hx : ∀ x ∈ l, x.size ≤ 1048576) {k : Nat} (hk : l.length < k) : spec_Join.f k l s = some (joinR l s) := by
  unfold spec_Join.f
  exact spec_Join_loop l s hl hs hx l.length 0 k (by omega) (by omega) (by show 0 ≤ _; omega)

theorem impl_Join_loop (l : List ByteArray) (s : ByteArray) (hl : l.length ≤ 1048576) (hs : s.size ≤ 1048576) (hsz : sumSz l ≤ 1099511627776) (d : Nat) : ∀ (i k : Nat), i + d = l.length → d < k →
    impl_Join.l0 k l s (((l.length - 1) * s.size + sumSz (l.take i) : Nat) : Int) l (l.length : Int) (i : Int) = some (joinR l s) := by
  have hm : (l.length - 1) * s.size ≤ 1048576 * 1048576 := Nat.mul_le_mul (by omega) hs
  have he := join_len l s l.length (Nat.le_refl _)
  rw [List.take_length] at he
  induction d with
  | zero =>
    intro i k hi hk
    obtain ⟨k, rfl⟩ : ∃ m, k = m + 1 := ⟨k - 1, by omega⟩
    rw [List.take_of_length_le (by omega), ← he]
    simp only [impl_Join.l0]
    rw [if_neg (by omega)]
    unfold joinR
    by_cases hb : (joinB l s).length ≤ 1048576
    · rw [if_neg (by omega), if_pos hb]
      unfold strings_Join.f
      rw [if_pos ⟨by omega, by omega⟩]; rfl
    · rw [if_pos (by omega), if_neg hb]
  | succ d ih =>
    intro i k hi hk
    obtain ⟨k, rfl⟩ : ∃ m, k = m + 1 := ⟨k - 1, by omega⟩
    have h1 : i < l.length := by omega
    have hw : wrap64 ((i : Int) + 1) = ((i + 1 : Nat) : Int) := by rw [wstep (n := l.length) (by omega) (by omega) (by omega)]; omega
    have hst := sumSz_take l i h1
    have hle := sumSz_le l (i + 1)
    have hs2 : wrap64 ((((l.length - 1) * s.size + sumSz (l.take i) : Nat) : Int) + (l[i].size : Int)) = (((l.length - 1) * s.size + sumSz (l.take (i + 1)) : Nat) : Int) := by
      generalize (l.length - 1) * s.size = M at hm ⊢
      rw [w64 (by omega) (by omega)]; omega
    simp only [impl_Join.l0]
    rw [if_pos (by omega), if_pos (by omega), if_pos (by omega), rdS l i h1, hw, hs2]
    exact ih (i + 1) k (by omega) (by omega)
theorem impl_Join_eq (l : List ByteArray) (s : ByteArray) (hl : l.length ≤ 1048576) (hs : s.size ≤ 1048576) (hsz : sumSz l ≤ 1099511627776) {k : Nat} (hk : l.length < k) : impl_Join.f k l s = some (joinR l s) := by
  have hm : (l.length - 1) * s.size ≤ 1048576 * 1048576 := Nat.mul_le_mul (by omega) hs
  have e : wrap64 ((mx (wrap64 ((l.length : Int) - 1)) 0) * (s.size : Int)) = (((l.length - 1) * s.size + sumSz (l.take 0) : Nat) : Int) := by
    have e1 : mx (wrap64 ((l.length : Int) - 1)) 0 = ((l.length - 1 : Nat) : Int) := by
      rw [w64 (by omega) (by omega)]
      unfold mx
      by_cases h : (l.length : Int) - 1 < 0
      · rw [if_pos h]; omega
      · rw [if_neg h]; omega
    have e2 : sumSz (l.take 0) = 0 := rfl
    rw [e1, e2, ← Int.natCast_mul, w64 (by omega) (by omega)]; rfl
  unfold impl_Join.f
  rw [e]
  exact impl_Join_loop l s hl hs hsz l.length 0 k (by omega) hk

theorem l2Sets_loop (l : List Int) (hn : l.length ≤ 281474976710656) : ∀ (d i k : Nat), i + d = l.length → d < k → spec_l2Sets.l0 k l (i : Int) = some ((l.drop i).all (isSetB 8))
  | 0, i, k, hi, hk => by
    obtain ⟨k, rfl⟩ : ∃ m, k = m + 1 := ⟨k - 1, by omega⟩
    simp only [spec_l2Sets.l0]; rw [if_neg (by omega), List.drop_of_length_le (by omega)]; rfl
  | d + 1, i, k, hi, hk => by
    obtain ⟨k, rfl⟩ : ∃ m, k = m + 1 := ⟨k - 1, by omega⟩
    have h1 : i < l.length := by omega
    have ih := l2Sets_loop l hn d (i + 1) k (by omega) (by omega)
    simp only [spec_l2Sets.l0]
    rw [if_pos (by omega), if_pos (by omega), rd_nat l i h1, spec_IsSet_eq, Option.bind_some, wstep (n := l.length) (by omega) (by omega) (by omega), show (i : Int) + 1 = ((i + 1 : Nat) : Int) from by omega, ih, List.drop_eq_getElem_cons h1, List.all_cons]
    cases isSetB 8 l[i] <;> simp
theorem l2Sets_eq (l : List Int) (hn : l.length ≤ 281474976710656) {k : Nat} (hk : l.length < k) : spec_l2Sets.f k l = some (l.all (isSetB 8)) := by
  unfold spec_l2Sets.f
  have := l2Sets_loop l hn l.length 0 k (by omega) hk
  simpa using this

def txt (s : Int) : ByteArray := ⟨(setText s).toArray⟩
theorem txt_of {b : ByteArray} {s : Int} (h : b.data.toList = setText s) : b = txt s := by
  obtain ⟨d⟩ := b
  unfold txt
  rw [← h]
theorem spec_txt (s : Int) (d : Nat) : spec_SetText.f (10 + d) s = some (txt s) := by
  induction d with
  | zero => obtain ⟨b, h1, h2⟩ := spec_SetText_eq s; rw [← txt_of h2]; exact h1
  | succ d ih => exact spec_SetText.mono s (10 + d) _ ih
theorem impl_txt (s : Int) (d : Nat) : impl_SetText.f (10 + d) s = some (txt s) := by
  induction d with
  | zero => obtain ⟨b, h1, h2⟩ := impl_SetText_eq s; rw [← txt_of h2]; exact h1
  | succ d ih => exact impl_SetText.mono s (10 + d) _ ih
theorem txt_size (s : Int) : (txt s).size ≤ 8 := by
  show (setText s).toArray.size ≤ 8
  rw [List.size_toArray]
  unfold setText letters
  split
  · split
    · decide
    · rw [List.length_map]
      refine Nat.le_trans (List.length_filter_le _ _) ?_
      rw [List.length_range]; exact Nat.le_refl _
  · exact Nat.zero_le _
def comma : ByteArray := ⟨#[44]⟩
theorem txt_sum (l : List Int) : sumSz (l.map txt) ≤ 8 * l.length := by
  unfold sumSz
  induction l with
  | nil => exact Nat.le_refl _
  | cons x l ih =>
    have := txt_size x
    rw [List.map_cons, List.map_cons, List.sum_cons, List.length_cons]
    omega
theorem spec_texts_loop (l : List Int) (hl : l.length ≤ 1048576) (d : Nat) : ∀ (i k : Nat), i + d = l.length → d + 1048600 ≤ k → spec_SetsText.l0 k l ((l.take i).map txt) (i : Int) = some (joinR (l.map txt) comma) := by
  induction d with
  | zero =>
    intro i k hi hk
    obtain ⟨k, rfl⟩ : ∃ m, k = m + 1 := ⟨k - 1, by omega⟩
    have hj := spec_Join_eq (l.map txt) comma (by rw [List.length_map]; exact hl) (by decide) (fun x hx => by obtain ⟨s, _, rfl⟩ := List.mem_map.1 hx; have := txt_size s; omega) (k := k) (by rw [List.length_map]; omega)
    simp only [spec_SetsText.l0]
    rw [if_neg (by omega), List.take_of_length_le (by omega)]
    exact congrArg (fun o : Option ByteArray => o.bind fun t => some t) hj
  | succ d ih =>
    intro i k hi hk
    obtain ⟨k, rfl⟩ : ∃ m, k = m + 1 := ⟨k - 1, by omega⟩
    have h1 : i < l.length := by omega
    have hw : wrap64 ((i : Int) + 1) = ((i + 1 : Nat) : Int) := by rw [wstep (n := l.length) (by omega) (by omega) (by omega)]; omega
    have hlt : ((l.take i).map txt).length < 8796093022208 := by rw [List.length_map, List.length_take]; omega
    have ht : (l.take i).map txt ++ [txt l[i]] = (l.take (i + 1)).map txt := by rw [List.take_succ_eq_append_getElem h1, List.map_append]; rfl
    have hk2 : k = 10 + (k - 10) := by omega
    have es := spec_txt l[i] (k - 10)
    rw [← hk2] at es
    simp only [spec_SetsText.l0]
    rw [if_pos (by omega), if_pos (by omega), rd_nat l i h1, es, Option.bind_some, if_pos hlt, ht, hw]
    exact ih (i + 1) k (by omega) (by omega)
theorem impl_texts_loop (l : List Int) (hl : l.length ≤ 1048576) (d : Nat) : ∀ (i k : Nat), i + d = l.length → d + 1048600 ≤ k → impl_SetsText.l0 k ((l.take i).map txt) l (l.length : Int) (i : Int) = some (if (l.drop i).all (isSetB 8) then joinR (l.map txt) comma else ⟨#[]⟩) := by
  induction d with
  | zero =>
    intro i k hi hk
    obtain ⟨k, rfl⟩ : ∃ m, k = m + 1 := ⟨k - 1, by omega⟩
    have hj := impl_Join_eq (l.map txt) comma (by rw [List.length_map]; exact hl) (by decide) (by have := txt_sum l; omega) (k := k) (by rw [List.length_map]; omega)
    simp only [impl_SetsText.l0]
    rw [if_neg (by omega), List.take_of_length_le (by omega), List.drop_of_length_le (by omega)]
    exact congrArg (fun o : Option ByteArray => o.bind fun t => some t) hj
  | succ d ih =>
    intro i k hi hk
    obtain ⟨k, rfl⟩ : ∃ m, k = m + 1 := ⟨k - 1, by omega⟩
    have h1 : i < l.length := by omega
    have hw : wrap64 ((i : Int) + 1) = ((i + 1 : Nat) : Int) := by rw [wstep (n := l.length) (by omega) (by omega) (by omega)]; omega
    have hlt : ((l.take i).map txt).length < 8796093022208 := by rw [List.length_map, List.length_take]; omega
    have ht : (l.take i).map txt ++ [txt l[i]] = (l.take (i + 1)).map txt := by rw [List.take_succ_eq_append_getElem h1, List.map_append]; rfl
    have hk2 : k = 10 + (k - 10) := by omega
    have es := impl_txt l[i] (k - 10)
    rw [← hk2] at es
    simp only [impl_SetsText.l0]
    rw [if_pos (by omega), if_pos (by omega), if_pos (by omega), rd_nat l i h1, impl_isAnySet_eq, Option.bind_some, List.drop_eq_getElem_cons h1, List.all_cons]
    cases hs : isSetB 8 l[i] with
    | false => rw [if_neg (by decide)]; rfl
    | true =>
      rw [if_pos rfl, es, Option.bind_some, if_pos hlt, ht, hw, Bool.true_and]
      exact ih (i + 1) k (by omega) (by omega)
theorem SetsText_both (l : List Int) (hl : l.length ≤ 1048576) : ∃ v, spec_SetsText.f 3000000 l = some v ∧ impl_SetsText.f 3000000 l = some v := by
  unfold spec_SetsText.f impl_SetsText.f
  rw [l2Sets_eq l (by omega) (by omega), Option.bind_some]
  have ez : ((0 : Nat) : Int) = 0 := rfl
  have es := spec_texts_loop l hl l.length 0 3000000 (by omega) (by omega)
  have ei := impl_texts_loop l hl l.length 0 3000000 (by omega) (by omega)
  rw [ez, List.take_zero] at es ei
  rw [List.drop_zero] at ei
  by_cases h0 : (l.length : Int) = 0
  · have hn : l = [] := List.eq_nil_of_length_eq_zero (by omega)
    subst hn
    exact ⟨_, rfl, rfl⟩
  · rw [if_neg h0, if_neg h0]
    cases ha : l.all (isSetB 8) with
    | true =>
      rw [ha] at ei
      rw [if_pos rfl]
      exact ⟨_, es, ei⟩
    | false =>
      rw [ha] at ei
      rw [if_neg (by decide)]
      exact ⟨_, rfl, ei⟩

theorem bt_list (s : ByteArray) (i : Nat) (h : i < s.size) : bt s (i : Int) = ((s.data.toList[i]'(by rw [Array.length_toList]; exact h)).toNat : Int) := by
  unfold bt
  rw [dif_pos (by rw [Int.toNat_natCast]; exact h)]
  simp only [Int.toNat_natCast]
  rfl
theorem size_list (s : ByteArray) : s.data.toList.length = s.size := by rw [Array.length_toList]; rfl

def foldP : Nat → List UInt8 → Option Nat
  | acc, [] => some acc
  | acc, c :: l => if 97 ≤ c.toNat ∧ c.toNat ≤ 104 then foldP (acc ||| 2 ^ (c.toNat - 97)) l else none
theorem foldP_lt : ∀ (l : List UInt8) (acc s : Nat), acc < 256 → foldP acc l = some s → s < 256
  | [], acc, s, h, e => by simp only [foldP, Option.some.injEq] at e; omega
  | c :: l, acc, s, h, e => by
    simp only [foldP] at e
    by_cases hc : 97 ≤ c.toNat ∧ c.toNat ≤ 104
    · rw [if_pos hc] at e
      refine foldP_lt l _ s (Nat.or_lt_two_pow (n := 8) h ?_) e
      exact Nat.pow_lt_pow_right (by decide) (by omega)
    · rw [if_neg hc] at e; cases e
/-- ParseSet: the first set whose text it is. -/
def parseR (T : List UInt8) : Int × Bool := match (List.range 256).find? (fun s => letters (s : Nat) = T) with
  | some s => ((s : Int), true)
  | none => (0, false)
theorem letters_facts : ∀ s : Fin 256, (s.val = 0 ∧ letters ((s.val : Nat) : Int) = [45]) ∨ (s.val ≠ 0 ∧ letters ((s.val : Nat) : Int) ≠ [45] ∧ foldP 0 (letters ((s.val : Nat) : Int)) = some s.val) := by decide +kernel
theorem setText_nat {s : Nat} (h : s < 256) : setText (s : Int) = letters (s : Int) := by
  unfold setText
  rw [isSetB8, decide_eq_true (by omega : (0 : Int) ≤ (s : Int) ∧ (s : Int) ≤ 255), if_pos rfl]
theorem parseR_yes {T : List UInt8} {s : Nat} (hs : s < 256) (h : letters (s : Int) = T) : parseR T = ((s : Int), true) := by
  unfold parseR
  cases e : (List.range 256).find? (fun s => letters ((s : Nat) : Int) = T) with
  | none =>
    have := List.find?_eq_none.1 e s (List.mem_range.2 hs)
    simp [h] at this
  | some t =>
    have h1 : letters (t : Int) = T := by simpa using List.find?_some e
    have h2 : t < 256 := List.mem_range.1 (List.mem_of_find?_eq_some e)
    have a := letters_facts ⟨s, hs⟩
    have b := letters_facts ⟨t, h2⟩
    simp only at a b
    rw [h] at a
    rw [h1] at b
    have : s = t := by
      rcases a with ⟨a1, a2⟩ | ⟨a1, a2, a3⟩ <;> rcases b with ⟨b1, b2⟩ | ⟨b1, b2, b3⟩
      · omega
      · exact absurd a2 b2
      · exact absurd b2 a2
      · exact Option.some.inj (a3.symm.trans b3)
    rw [this]
theorem parseR_no {T : List UInt8} (h : ∀ s : Nat, s < 256 → letters (s : Int) ≠ T) : parseR T = (0, false) := by
  unfold parseR
  cases e : (List.range 256).find? (fun s => letters ((s : Nat) : Int) = T) with
  | none => rfl
  | some t => exact absurd (by simpa using List.find?_some e) (h t (List.mem_range.1 (List.mem_of_find?_eq_some e)))

theorem letters_ne : ∀ s : Fin 256, letters ((s.val : Nat) : Int) ≠ [] := by decide +kernel
theorem txt_list (s : Int) : (txt s).data.toList = setText s := rfl
theorem parse_text (s : Int) : (isSetB 8 s = true ∧ setText s ≠ [] ∧ parseR (setText s) = (s, true)) ∨ (setText s = [] ∧ parseR (setText s) = (0, false)) := by
  cases h : isSetB 8 s with
  | true =>
    have hb := isSetB_bd h
    obtain ⟨a, rfl⟩ := Int.eq_ofNat_of_zero_le hb.2.2.1
    have ha : a < 256 := by omega
    left
    rw [setText_nat ha]
    exact ⟨rfl, letters_ne ⟨a, ha⟩, parseR_yes ha rfl⟩
  | false =>
    right
    have e : setText s = [] := by unfold setText; rw [h]; rfl
    rw [e]
    exact ⟨rfl, parseR_no fun t ht => letters_ne ⟨t, ht⟩⟩

theorem and255_bd (n : Int) : 0 ≤ Go.bits .and .i64 n 255 ∧ Go.bits .and .i64 n 255 ≤ 255 := by
  have h : (BitVec.ofInt 64 255).toNat = 2 ^ 8 - 1 := by decide
  have key : (BitVec.ofInt 64 n &&& BitVec.ofInt 64 255).toNat = (n % ((2 ^ 64 : Nat) : Int)).toNat % 2 ^ 8 := by
    rw [BitVec.toNat_and, BitVec.toNat_ofInt, h, Nat.and_two_pow_sub_one_eq_mod]
  have e : Go.bits .and .i64 n 255 = n % 256 := by
    show IntKind.i64.wrap ((BitVec.ofInt 64 n &&& BitVec.ofInt 64 255).toNat : Nat) = n % 256
    rw [key, IntKind.wrap_i64]
    omega
  omega
theorem l1New_loop (l : List Int) (hm : l.length ≤ maxLen) : ∀ (d i k : Nat) (s : Int), i + d = 4000 → d < k → ∃ s', spec_l1New.l0 k l s (i : Int) = some (l, 0, s')
  | 0, i, k, s, hi, hk => by
    obtain ⟨k, rfl⟩ : ∃ m, k = m + 1 := ⟨k - 1, by omega⟩
    simp only [spec_l1New.l0]
    by_cases h : (i : Int) < (l.length : Int)
    · rw [if_pos h, if_neg (by omega)]; exact ⟨_, rfl⟩
    · rw [if_neg h]; exact ⟨_, rfl⟩
  | d + 1, i, k, s, hi, hk => by
    obtain ⟨k, rfl⟩ : ∃ m, k = m + 1 := ⟨k - 1, by omega⟩
    simp only [spec_l1New.l0]
    by_cases h : (i : Int) < (l.length : Int)
    · rw [if_pos h, if_pos (by omega), if_pos (by omega), show wrap64 ((i : Int) + 1) = ((i + 1 : Nat) : Int) from by rw [w64 (by omega) (by omega)]; omega]
      exact l1New_loop l hm d (i + 1) k _ (by omega) (by omega)
    · rw [if_neg h]; exact ⟨_, rfl⟩
theorem l1New_ok (l : List Int) (hm : l.length ≤ maxLen) {k : Nat} (hk : 4001 ≤ k) : ∃ s, spec_l1New.f k l = some (l, 0, s) := by
  unfold spec_l1New.f
  exact l1New_loop l hm 4000 0 k _ (by omega) (by omega)
theorem l1Byte_ok (l : List Int) (hm : l.length ≤ maxLen) (i s : Int) (hi : 0 ≤ i) : ∃ b i' s', spec_l1Byte.f l i s = some (b, i', s') ∧ 0 ≤ i' ∧ 0 ≤ b ∧ b ≤ 255 := by
  unfold spec_l1Byte.f
  unfold maxLen at hm
  by_cases h : i < (l.length : Int)
  · rw [if_pos h, if_pos hi]
    exact ⟨_, _, _, rfl, by rw [w64 (by omega) (by omega)]; omega, (and255_bd _).1, (and255_bd _).2⟩
  · rw [if_neg h]
    exact ⟨_, _, _, rfl, hi, (and255_bd _).1, (and255_bd _).2⟩
theorem l1Below_ok (l : List Int) (hm : l.length ≤ maxLen) (i s a : Int) (hi : 0 ≤ i) : ∃ r i' s', spec_l1Below.f l i s a = some (r, i', s') ∧ 0 ≤ i' ∧ (0 < a → a ≤ 256 → 0 ≤ r ∧ r < a) := by
  unfold spec_l1Below.f
  by_cases h0 : a ≤ 0
  · rw [if_pos h0]; exact ⟨_, _, _, rfl, hi, fun h => absurd h (by omega)⟩
  · rw [if_neg h0]
    obtain ⟨b, i1, s1, e, h1, h2, h3⟩ := l1Byte_ok l hm i s hi
    by_cases h4 : a ≤ 256
    · rw [if_pos h4, e, Option.bind_some, if_neg (by omega)]
      refine ⟨_, _, _, rfl, h1, fun _ _ => ?_⟩
      rw [Int.tmod_eq_emod_of_nonneg h2]
      exact ⟨Int.emod_nonneg _ (by omega), Int.emod_lt_of_pos _ (by omega)⟩
    · obtain ⟨b2, i2, s2, e2, h12, _, _⟩ := l1Byte_ok l hm i1 s1 h1
      obtain ⟨b3, i3, s3, e3, h13, _, _⟩ := l1Byte_ok l hm i2 s2 h12
      obtain ⟨b4, i4, s4, e4, h14, _, _⟩ := l1Byte_ok l hm i3 s3 h13
      rw [if_neg h4, e]; simp only [Option.bind_some]
      rw [e2]; simp only [Option.bind_some]
      rw [e3]; simp only [Option.bind_some]
      rw [e4]; simp only [Option.bind_some]
      rw [if_neg (by omega)]
      exact ⟨_, _, _, rfl, h14, fun _ h => absurd h h4⟩
theorem l1PickInt_ok (l : List Int) (hm : l.length ≤ maxLen) (i s : Int) (z : List Int) (hi : 0 ≤ i) (hz : 0 < z.length) (hz2 : z.length ≤ 256) : ∃ r i' s', spec_l1PickInt.f l i s z = some (r, i', s') ∧ 0 ≤ i' := by
  unfold spec_l1PickInt.f
  obtain ⟨b, i1, s1, e, h1, h2⟩ := l1Below_ok l hm i s (z.length : Int) hi
  have := h2 (by omega) (by omega)
  rw [e]; simp only [Option.bind_some]
  rw [if_pos this.1, if_pos this.2]; exact ⟨_, _, _, rfl, h1⟩

theorem l1Once_ok (l : List Int) (hm : l.length ≤ maxLen) (i s a : Int) (hi : 0 ≤ i) : ∃ r i' s', spec_l1Once.f l i s a = some (r, i', s') ∧ 0 ≤ i' := by
  unfold spec_l1Once.f
  obtain ⟨b, i1, s1, e, h1, _⟩ := l1Below_ok l hm i s a hi
  rw [e]; exact ⟨_, _, _, rfl, h1⟩

theorem l2Bent_ok (l : List Int) (hm : l.length ≤ maxLen) (i s : Int) (hi : 0 ≤ i) : ∃ r i' s', spec_l2Bent.f l i s = some (r, i', s') ∧ 0 ≤ i' := by
  unfold spec_l2Bent.f
  obtain ⟨b, i1, s1, e, h1⟩ := l1Once_ok l hm i s 8 hi
  rw [e]; simp only [Option.bind_some]
  by_cases hb : b = true
  · rw [if_pos hb]
    obtain ⟨r, i2, s2, e2, h2⟩ := l1PickInt_ok l hm i1 s1 [(-1), 256, 1000, (-9223372036854775808)] h1 (by decide) (by decide)
    rw [e2]; exact ⟨_, _, _, rfl, h2⟩
  · rw [if_neg hb]
    obtain ⟨r, i2, s2, e2, h2, _⟩ := l1Below_ok l hm i1 s1 256 h1
    rw [e2]; exact ⟨_, _, _, rfl, h2⟩

theorem DrawElementsOf_ok (l : List Int) (hm : l.length ≤ maxLen) {k : Nat} (hk : 4001 ≤ k) : ∃ s, spec_DrawElementsOf.f k l = some s := by
  unfold spec_DrawElementsOf.f
  obtain ⟨s0, e0⟩ := l1New_ok l hm hk
  rw [e0]; simp only [Option.bind_some]
  obtain ⟨r, i1, s1, e1, h1⟩ := l2Bent_ok l hm 0 s0 (by decide)
  rw [e1]; exact ⟨_, rfl⟩
theorem DrawHasElement_ok (l : List Int) (hm : l.length ≤ maxLen) {k : Nat} (hk : 4001 ≤ k) : ∃ s e, spec_DrawHasElement.f k l = some (s, e) := by
  unfold spec_DrawHasElement.f
  obtain ⟨s0, e0⟩ := l1New_ok l hm hk
  rw [e0]; simp only [Option.bind_some]
  obtain ⟨r, i1, s1, e1, h1⟩ := l2Bent_ok l hm 0 s0 (by decide)
  rw [e1]; simp only [Option.bind_some]
  obtain ⟨r2, i2, s2, e2, h2, _⟩ := l1Below_ok l hm i1 s1 10 h1
  rw [e2]; exact ⟨_, _, rfl⟩
theorem DrawIsSet_ok (l : List Int) (hm : l.length ≤ maxLen) {k : Nat} (hk : 4001 ≤ k) : ∃ s e, spec_DrawIsSet.f k l = some (s, e) := by
  unfold spec_DrawIsSet.f
  obtain ⟨s0, e0⟩ := l1New_ok l hm hk
  rw [e0]; simp only [Option.bind_some]
  obtain ⟨r, i1, s1, e1, h1, _⟩ := l1Below_ok l hm 0 s0 11 (by decide)
  rw [e1]; simp only [Option.bind_some]
  obtain ⟨r2, i2, s2, e2, h2, _⟩ := l1Below_ok l hm i1 s1 300 h1
  rw [e2]; exact ⟨_, _, rfl⟩
theorem DrawFullSet_ok (l : List Int) (hm : l.length ≤ maxLen) {k : Nat} (hk : 4001 ≤ k) : ∃ s, spec_DrawFullSet.f k l = some s := by
  unfold spec_DrawFullSet.f
  obtain ⟨s0, e0⟩ := l1New_ok l hm hk
  rw [e0]; simp only [Option.bind_some]
  obtain ⟨r, i1, s1, e1, h1, _⟩ := l1Below_ok l hm 0 s0 11 (by decide)
  rw [e1]; exact ⟨_, rfl⟩
theorem DrawBeforeSet_ok (l : List Int) (hm : l.length ≤ maxLen) {k : Nat} (hk : 4001 ≤ k) : ∃ s e, spec_DrawBeforeSet.f k l = some (s, e) := by
  unfold spec_DrawBeforeSet.f spec_DrawIsSubset.f
  obtain ⟨s0, e0⟩ := l1New_ok l hm hk
  rw [e0]; simp only [Option.bind_some]
  obtain ⟨r, i1, s1, e1, h1⟩ := l2Bent_ok l hm 0 s0 (by decide)
  rw [e1]; simp only [Option.bind_some]
  obtain ⟨b, i2, s2, e2, h2⟩ := l1Once_ok l hm i1 s1 3 h1
  rw [e2]; simp only [Option.bind_some]
  cases b with
  | true =>
    obtain ⟨r3, i3, s3, e3, h3, _⟩ := l1Below_ok l hm i2 s2 256 h2
    simp only [if_true, e3, Option.bind_some]; exact ⟨_, _, rfl⟩
  | false =>
    obtain ⟨r3, i3, s3, e3, h3⟩ := l2Bent_ok l hm i2 s2 h2
    simp only [Bool.false_eq_true, if_false, e3, Option.bind_some]; exact ⟨_, _, rfl⟩
theorem l2List_loop (l : List Int) (hm : l.length ≤ maxLen) (m : Int) (hm2 : m ≤ 200) (d : Nat) : ∀ (x k : Nat) (i s : Int) (out : List Int), (x : Int) + d = m → d < k → 0 ≤ i → out.length = x →
    ∃ r i' s', spec_l2List.l0 k out m (x : Int) l i s = some (r, i', s') ∧ 0 ≤ i' ∧ r.length ≤ 201 := by
  induction d with
  | zero =>
    intro x k i s out hy hk hi hl
    obtain ⟨k, rfl⟩ : ∃ m, k = m + 1 := ⟨k - 1, by omega⟩
    have h0 : ¬ (x : Int) < m := by omega
    have hlt : out.length < 17592186044416 := by omega
    have hlo : out.length ≤ 200 := by omega
    obtain ⟨c, i1, s1, e1, h1⟩ := l1Once_ok l hm i s 10 hi
    simp only [spec_l2List.l0]
    rw [if_neg h0, e1]; simp only [Option.bind_some]
    cases c with
    | true =>
      obtain ⟨r2, i2, s2, e2, h2⟩ := l2Bent_ok l hm i1 s1 h1
      simp only [if_true, e2, Option.bind_some, if_pos hlt]
      exact ⟨_, _, _, rfl, h2, by rw [List.length_append, List.length_singleton]; omega⟩
    | false =>
      simp only [Bool.false_eq_true, if_false]
      exact ⟨_, _, _, rfl, h1, by show out.length ≤ 201; omega⟩
  | succ d ih =>
    intro x k i s out hy hk hi hl
    obtain ⟨k, rfl⟩ : ∃ m, k = m + 1 := ⟨k - 1, by omega⟩
    have h0 : (x : Int) < m := by omega
    have hlt : out.length < 17592186044416 := by omega
    have hy' : ((x + 1 : Nat) : Int) + d = m := by omega
    have hk' : d < k := by omega
    have ex : wrap64 ((x : Int) + 1) = ((x + 1 : Nat) : Int) := by clear hm ih; rw [w64 (by omega) (by omega)]; omega
    obtain ⟨c, i1, s1, e1, h1, _⟩ := l1Below_ok l hm i s 16 hi
    simp only [spec_l2List.l0]
    rw [if_pos h0, e1]; simp only [Option.bind_some, if_pos hlt, ex]
    exact ih (x + 1) k i1 s1 _ hy' hk' h1 (by rw [List.length_append, hl]; rfl)
theorem DrawSortLectic_ok (l : List Int) (hm : l.length ≤ maxLen) {k : Nat} (hk : 4001 ≤ k) : ∃ z : List Int, spec_DrawSortLectic.f k l = some z ∧ z.length ≤ 201 := by
  unfold spec_DrawSortLectic.f spec_l2List.f
  obtain ⟨s0, e0⟩ := l1New_ok l hm hk
  rw [e0]; simp only [Option.bind_some]
  obtain ⟨m, i1, s1, e1, h1, hb⟩ := l1Below_ok l hm 0 s0 6 (by decide)
  have hb2 := hb (by decide) (by decide)
  rw [e1]; simp only [Option.bind_some]
  obtain ⟨r, i2, s2, e2, h2, h3⟩ := l2List_loop l hm m (by omega) m.toNat 0 k i1 s1 [] (by omega) (by omega) h1 rfl
  have ez : ((0 : Nat) : Int) = 0 := rfl
  rw [ez] at e2
  rw [e2]; exact ⟨_, rfl, h3⟩

theorem l1Pick_ok (l : List Int) (hm : l.length ≤ maxLen) (i s : Int) (z : List ByteArray) (hi : 0 ≤ i) (hz : 0 < z.length) (hz2 : z.length ≤ 256) (B : Nat) (hB : ∀ x ∈ z, x.size ≤ B) : ∃ r i' s', spec_l1Pick.f l i s z = some (r, i', s') ∧ 0 ≤ i' ∧ r.size ≤ B := by
  unfold spec_l1Pick.f
  obtain ⟨b, i1, s1, e, h1, h2⟩ := l1Below_ok l hm i s (z.length : Int) hi
  have h3 := h2 (by omega) (by omega)
  rw [e]; simp only [Option.bind_some]
  rw [if_pos h3.1, if_pos h3.2]
  refine ⟨_, _, _, rfl, h1, ?_⟩
  unfold rdOf
  have hl : b.toNat < z.length := by omega
  rw [List.getD_eq_getElem?_getD, List.getElem?_eq_getElem hl]
  exact hB _ (List.getElem_mem hl)

theorem l1Turned_ok (l : List Int) (hm : l.length ≤ maxLen) (i s : Int) (a : ByteArray) (z : List ByteArray) (hi : 0 ≤ i) (ha : a.size ≤ 255) (hz : 0 < z.length) (hz2 : z.length ≤ 256) (B : Nat) (hB : ∀ x ∈ z, x.size ≤ B) (hB2 : B ≤ 1000000) :
    ∃ r i' s', spec_l1Turned.f l i s a z = some (r, i', s') ∧ 0 ≤ i' ∧ r.size ≤ a.size + B := by
  unfold spec_l1Turned.f
  have ew : wrap64 ((a.size : Int) + 1) = ((a.size + 1 : Nat) : Int) := by rw [w64 (by omega) (by omega)]; omega
  rw [ew]
  obtain ⟨p, i1, s1, e1, h1, hp⟩ := l1Below_ok l hm i s ((a.size + 1 : Nat) : Int) hi
  have hp2 := hp (by omega) (by omega)
  rw [e1]; simp only [Option.bind_some]
  obtain ⟨q, i2, s2, e2, h2, _⟩ := l1Below_ok l hm i1 s1 6 h1
  rw [e2]; simp only [Option.bind_some]
  by_cases c0 : q = 0
  · obtain ⟨t, i3, s3, e3, h3, ht⟩ := l1Pick_ok l hm i2 s2 z h2 hz hz2 B hB
    rw [if_pos c0, if_pos hp2.1, if_pos (by omega), e3]; simp only [Option.bind_some]
    have z1 : (a.extract 0 p.toNat).size = p.toNat := by rw [ByteArray.size_extract]; omega
    have z2 : (a.extract p.toNat a.size).size = a.size - p.toNat := by rw [ByteArray.size_extract]; omega
    rw [if_pos (by omega), if_pos (by omega)]
    refine ⟨_, _, _, rfl, h3, ?_⟩
    rw [ByteArray.size_append, ByteArray.size_append]; omega
  · rw [if_neg c0]
    by_cases c1 : q = 1
    · rw [if_pos c1, if_pos hp2.1, if_pos (by omega)]
      refine ⟨_, _, _, rfl, h2, ?_⟩
      rw [ByteArray.size_extract]; omega
    · rw [if_neg c1]
      exact ⟨_, _, _, rfl, h2, by omega⟩

theorem spec_SetText_at {s : Int} {k : Nat} (hk : 10 ≤ k) : ∃ b, spec_SetText.f k s = some b ∧ b.data.toList = setText s := by
  obtain ⟨b, h, e⟩ := spec_SetText_eq s
  exact ⟨b, at_rounds (fun k => spec_SetText.mono s k) hk h, e⟩
def specEnd (T : List UInt8) : Option Nat → Int × Bool
  | none => (0, false)
  | some s => if setText (s : Int) = T then ((s : Int), true) else (0, false)
theorem specEnd_some (T : List UInt8) (s : Nat) : specEnd T (some s) = if setText (s : Int) = T then ((s : Int), true) else (0, false) := rfl
theorem spec_ParseSet_end (x : ByteArray) (acc : Nat) (i : Int) (k : Nat) (hk : 11 ≤ k) : spec_ParseSet.j1 k x (acc : Int) i false = some (specEnd x.data.toList (some acc)) := by
  obtain ⟨k, rfl⟩ : ∃ m, k = m + 1 := ⟨k - 1, by omega⟩
  simp only [spec_ParseSet.j1, specEnd]
  obtain ⟨b, h, e⟩ := spec_SetText_at (s := (acc : Int)) (k := k) (by omega)
  rw [if_neg (by decide), h, Option.bind_some, ByteArray.toList_eq, ByteArray.toList_eq, e]
  split <;> rfl
theorem spec_ParseSet_loop (x : ByteArray) (hT : x.data.toList ≠ [45]) (hn : x.size ≤ 281474976710656) : ∀ (d i k acc : Nat), i + d = x.size → 2 * d + 12 < k → acc < 256 → spec_ParseSet.l0 k x (acc : Int) (i : Int) = some (specEnd x.data.toList (foldP acc (x.data.toList.drop i)))
  | 0, i, k, acc, hi, hk, _ => by
    obtain ⟨k, rfl⟩ : ∃ m, k = m + 1 := ⟨k - 1, by omega⟩
    have hl := size_list x
    simp only [spec_ParseSet.l0]
    rw [if_neg (by omega), List.drop_eq_nil_of_le (by omega), spec_ParseSet_end x acc _ k (by omega)]
    rfl
  | d + 1, i, k, acc, hi, hk, hacc => by
    obtain ⟨k, rfl⟩ : ∃ m, k = m + 1 + 1 := ⟨k - 2, by omega⟩
    have hl := size_list x
    have h1 : i < x.data.toList.length := by omega
    have e0 : (x.toList != ([45] : List UInt8)) = true := by rw [ByteArray.toList_eq]; simp [hT]
    simp only [spec_ParseSet.l0]
    rw [if_pos (by omega), e0, List.drop_eq_getElem_cons h1]
    simp only [spec_ParseSet.j1, foldP]
    have eb := bt_list x i (by omega)
    rw [if_pos True.intro, if_pos (by omega), if_pos (by omega), eb]
    generalize (x.data.toList[i]) = c
    by_cases g1 : 97 ≤ c.toNat
    · by_cases g2 : c.toNat ≤ 104
      · have hp : 2 ^ (c.toNat - 97) < 2 ^ 8 := Nat.pow_lt_pow_right (by decide) (by omega)
        have e1 : ((c.toNat : Int) - 97) % 256 = ((c.toNat - 97 : Nat) : Int) := by omega
        rw [if_neg (by omega), if_neg (by omega), if_pos ⟨g1, g2⟩, e1, shl_one (by omega), or_nat _ _ (by omega) (by omega), wstep (n := x.size) (by omega) (by omega) hn, show (i : Int) + 1 = ((i + 1 : Nat) : Int) from by omega]
        exact spec_ParseSet_loop x hT hn d (i + 1) k _ (by omega) (by omega) (Nat.or_lt_two_pow (n := 8) hacc hp)
      · rw [if_neg (by omega), if_pos (by omega), if_neg (by omega)]; rfl
    · rw [if_pos (by omega), if_neg (by omega)]; rfl
theorem spec_ParseSet_eq (x : ByteArray) (hn : x.size ≤ 281474976710656) {k : Nat} (hk : 2 * x.size + 20 ≤ k) : spec_ParseSet.f k x = some (parseR x.data.toList) := by
  unfold spec_ParseSet.f
  by_cases hT : x.data.toList = [45]
  · obtain ⟨k, rfl⟩ : ∃ m, k = m + 1 := ⟨k - 1, by omega⟩
    have e0 : (x.toList != ([45] : List UInt8)) = false := by rw [ByteArray.toList_eq, hT]; decide
    have e1 : parseR x.data.toList = (0, true) := parseR_yes (s := 0) (by decide) (by rw [hT]; rfl)
    have e2 : specEnd x.data.toList (some 0) = (0, true) := by
      rw [specEnd_some, hT, if_pos (by decide +kernel)]; rfl
    have hl := size_list x
    rw [hT] at hl
    have hz : x.size = 1 := by rw [← hl]; rfl
    simp only [spec_ParseSet.l0]
    rw [if_pos (by omega), e0, e1, ← e2]
    exact spec_ParseSet_end x 0 _ k (by omega)
  · have := spec_ParseSet_loop x hT hn x.size 0 k 0 (by omega) (by omega) (by omega)
    rw [List.drop_zero] at this
    rw [show (0 : Int) = ((0 : Nat) : Int) from rfl, this]
    congr 1
    by_cases hh : ∃ s : Nat, s < 256 ∧ letters (s : Int) = x.data.toList
    · obtain ⟨s, hs, h⟩ := hh
      rw [parseR_yes hs h]
      rcases letters_facts ⟨s, hs⟩ with ⟨_, h2⟩ | ⟨_, _, h2⟩
      · exact absurd (h.symm.trans h2) hT
      · rw [h] at h2
        rw [h2]
        show specEnd _ (some s) = _
        rw [specEnd_some, setText_nat hs, h, if_pos rfl]
    · rw [parseR_no (fun s hs h => hh ⟨s, hs, h⟩)]
      cases e : foldP 0 x.data.toList with
      | none => rfl
      | some s =>
        have hs := foldP_lt _ 0 s (by decide) e
        rw [specEnd_some, setText_nat hs, if_neg (fun h => hh ⟨s, hs, h⟩)]

theorem DrawParseSet_ok (l : List Int) (hm : l.length ≤ maxLen) {k : Nat} (hk : 4001 ≤ k) : ∃ s : ByteArray, spec_DrawParseSet.f k l = some s ∧ s.size ≤ 10 := by
  unfold spec_DrawParseSet.f
  obtain ⟨s0, e0⟩ := l1New_ok l hm hk
  rw [e0]; simp only [Option.bind_some]
  obtain ⟨r, i1, s1, e1, h1, _⟩ := l1Below_ok l hm 0 s0 256 (by decide)
  rw [e1]; simp only [Option.bind_some]
  have e2 := spec_txt r (k - 10)
  rw [show 10 + (k - 10) = k from by omega] at e2
  obtain ⟨b, hb, h8⟩ : ∃ b : ByteArray, spec_SetText.f k r = some b ∧ b.size ≤ 8 := ⟨txt r, e2, txt_size r⟩
  clear e2
  rw [hb, Option.bind_some]
  obtain ⟨t, i2, s2, e3, h2, h3⟩ := l1Turned_ok l hm i1 s1 b [(⟨#[97]⟩ : ByteArray), (⟨#[45]⟩ : ByteArray), (⟨#[104]⟩ : ByteArray), (⟨#[105]⟩ : ByteArray), (⟨#[98, 97]⟩ : ByteArray)] h1 (by omega) (by decide) (by decide) 2 (by
    intro x hx
    simp only [List.mem_cons, List.not_mem_nil, or_false] at hx
    rcases hx with rfl | rfl | rfl | rfl | rfl <;> decide) (by decide)
  rw [e3]; exact ⟨_, rfl, by show t.size ≤ 10; omega⟩

theorem lecticOf_congr {l l' : List Int} (h : ∀ x, 0 ≤ x ∧ x ≤ 255 → (x ∈ l ↔ x ∈ l')) : lecticOf l = lecticOf l' :=
  rising_eq _ _ (lecticOf_sorted l) (lecticOf_sorted l') fun x => by
    rw [lecticOf_mem, lecticOf_mem]
    exact ⟨fun hh => ⟨hh.1, (h x hh.1).1 hh.2⟩, fun hh => ⟨hh.1, (h x hh.1).2 hh.2⟩⟩
theorem lecticOf_len (l : List Int) : (lecticOf l).length ≤ 256 := by
  have h : lecticAll.length = 256 := by decide +kernel
  unfold lecticOf
  exact Nat.le_trans (List.length_filter_le _ _) (by omega)
def sortL (l : List Int) : List Int := if l.all (isSetB 8) then lecticOf l else []
theorem impl_SortLectic_eq (l : List Int) (hl : l.length ≤ 17592186044416) : impl_SortLectic.f l = some (sortL l) := by
  unfold impl_SortLectic.f sortL
  rw [if_pos hl]
  have e : l.any (fun x => !isSetB 8 x) = !l.all (isSetB 8) := by rw [List.all_eq_not_any_not, Bool.not_not]
  rw [e]
  cases l.all (isSetB 8) <;> simp
theorem sortL_len (l : List Int) : (sortL l).length ≤ 256 := by
  unfold sortL
  cases l.all (isSetB 8)
  · simp
  · exact lecticOf_len l

theorem spec_BeforeSet_eq (s t : Int) : spec_BeforeSet.f s t = some (beforeI s t) := by
  unfold spec_BeforeSet.f beforeI
  rw [spec_IsSet_eq, spec_IsSet_eq]
  cases h : isSetB 8 s with
  | false => simp
  | true =>
    cases h' : isSetB 8 t with
    | false => simp
    | true =>
      have h1 := isSetB_bd h
      have h2 := isSetB_bd h'
      obtain ⟨a, rfl⟩ := Int.eq_ofNat_of_zero_le h1.2.2.1
      obtain ⟨b, rfl⟩ := Int.eq_ofNat_of_zero_le h2.2.2.1
      simp only [Option.bind_some, if_true, Bool.true_and, Int.toNat_natCast]
      unfold beforeB
      by_cases e : a = b
      · subst e; rw [if_pos rfl]; simp
      · rw [if_neg (by omega), xor_nat _ _ (by omega) (by omega)]
        have hx := xor_256 (a := a) (b := b) (by omega) (by omega)
        rcases low_bit ⟨a ^^^ b, hx⟩ with h0 | ⟨h3, h4⟩
        · exact absurd h0 (xor_ne e)
        · dsimp only at h3 h4
          have hp : 2 ^ tzN (a ^^^ b) < 2 ^ 8 := Nat.pow_lt_pow_right (by decide) h3
          rw [h4, and_nat _ _ (by omega) (by omega), ← and_pow_ne]
          have e1 : (a != b) = true := by simp [e]
          have e2 : ((((b &&& 2 ^ tzN (a ^^^ b) : Nat)) : Int) != 0) = ((b &&& 2 ^ tzN (a ^^^ b)) != 0) := by
            rw [Bool.eq_iff_iff, bne_iff_ne, bne_iff_ne]; omega
          rw [e1, e2, Bool.true_and]

theorem l2In_loop (l : List Int) (x : Int) (hn : l.length ≤ 281474976710656) : ∀ (d i k : Nat), i + d = l.length → d < k → spec_l2In.l0 k l x (i : Int) = some (decide (x ∈ l.drop i))
  | 0, i, k, hi, hk => by
    obtain ⟨k, rfl⟩ : ∃ m, k = m + 1 := ⟨k - 1, by omega⟩
    simp only [spec_l2In.l0]; rw [if_neg (by omega), List.drop_of_length_le (by omega)]; simp
  | d + 1, i, k, hi, hk => by
    obtain ⟨k, rfl⟩ : ∃ m, k = m + 1 := ⟨k - 1, by omega⟩
    have h1 : i < l.length := by omega
    have ih := l2In_loop l x hn d (i + 1) k (by omega) (by omega)
    simp only [spec_l2In.l0]
    rw [if_pos (by omega), if_pos (by omega), rd_nat l i h1, wstep (n := l.length) (by omega) (by omega) (by omega), show (i : Int) + 1 = ((i + 1 : Nat) : Int) from by omega, ih, List.drop_eq_getElem_cons h1]
    by_cases h : l[i] = x
    · rw [if_pos h, h]; simp
    · rw [if_neg h]
      have h' : ¬ x = l[i] := fun e => h e.symm
      have e : (x ∈ l[i] :: l.drop (i + 1)) ↔ x ∈ l.drop (i + 1) := by rw [List.mem_cons]; exact ⟨fun hh => hh.resolve_left h', Or.inr⟩
      rw [decide_eq_decide.mpr e]
theorem l2In_eq (l : List Int) (x : Int) (hn : l.length ≤ 281474976710656) {k : Nat} (hk : l.length < k) : spec_l2In.f k l x = some (decide (x ∈ l)) := by
  unfold spec_l2In.f
  have := l2In_loop l x hn l.length 0 k (by omega) hk
  simpa using this
theorem insert_eq {out : List Int} {x : Int} {a : Nat} (hr : out.Pairwise (fun s t => rankI s < rankI t)) (hm : ∀ y ∈ out, 0 ≤ y ∧ y ≤ 255) (hx : 0 ≤ x ∧ x ≤ 255)
    (h1 : ∀ y ∈ out.take a, rankI y < rankI x) (h2 : ∀ y ∈ out.drop a, rankI x < rankI y) : out.take a ++ [x] ++ out.drop a = lecticOf (x :: out) := by
  have e : out.take a ++ out.drop a = out := List.take_append_drop a out
  have hr' := hr
  rw [← e, List.pairwise_append] at hr'
  refine rising_eq _ _ ?_ (lecticOf_sorted _) fun y => ?_
  · rw [List.append_assoc, List.pairwise_append]
    refine ⟨hr'.1, ?_, ?_⟩
    · show List.Pairwise _ (x :: out.drop a)
      rw [List.pairwise_cons]
      exact ⟨h2, hr'.2.1⟩
    · intro y hy z hz
      rw [List.singleton_append, List.mem_cons] at hz
      rcases hz with rfl | hz
      · exact h1 y hy
      · exact hr'.2.2 y hy z hz
  · rw [lecticOf_mem, List.mem_cons]
    have hy : y ∈ out ↔ y ∈ out.take a ∨ y ∈ out.drop a := by rw [← List.mem_append, e]
    constructor
    · intro h
      have h : y = x ∨ y ∈ out := by
        rw [List.append_assoc, List.mem_append, List.singleton_append, List.mem_cons] at h
        rcases h with h | h | h
        · exact Or.inr (hy.2 (Or.inl h))
        · exact Or.inl h
        · exact Or.inr (hy.2 (Or.inr h))
      refine ⟨?_, h⟩
      rcases h with rfl | h
      · exact hx
      · exact hm y h
    · rintro ⟨_, h⟩
      rw [List.append_assoc, List.mem_append, List.singleton_append, List.mem_cons]
      rcases h with h | h
      · exact Or.inr (Or.inl h)
      · rcases hy.1 h with h | h
        · exact Or.inl h
        · exact Or.inr (Or.inr h)
theorem ins_loop (l out : List Int) (i : Nat) (hi : i < l.length) (hl : l.length ≤ 281474976710656) (hr : out.Pairwise (fun s t => rankI s < rankI t)) (hm : ∀ y ∈ out, 0 ≤ y ∧ y ≤ 255) (hx : 0 ≤ l[i] ∧ l[i] ≤ 255) (hn : l[i] ∉ out) (hlen : out.length ≤ 256) :
    ∀ (d a k : Nat), a + d = out.length → (∀ y ∈ out.take a, rankI y < rankI l[i]) → d < k → ∃ k', k ≤ k' + d + 1 ∧ spec_SortLectic.l1 k l out (i : Int) (a : Int) = spec_SortLectic.l0 k' l (lecticOf (l[i] :: out)) ((i + 1 : Nat) : Int)
  | 0, a, k, ha, hb, hk => by
    obtain ⟨k, rfl⟩ : ∃ m, k = m + 1 := ⟨k - 1, by omega⟩
    have hw : wrap64 ((i : Int) + 1) = ((i + 1 : Nat) : Int) := by rw [wstep (n := l.length) (by omega) (by omega) (by omega)]; omega
    have ei := insert_eq (a := a) hr hm hx hb (fun y hy => by rw [List.drop_of_length_le (by omega)] at hy; cases hy)
    have hdl : (out.drop a).length = 0 := by rw [List.length_drop]; omega
    have htl : (out.take a).length ≤ 256 := by rw [List.length_take]; omega
    refine ⟨k, by omega, ?_⟩
    simp only [spec_SortLectic.l1]
    rw [if_neg (by omega)]
    simp only [Option.bind_some, Int.toNat_natCast, List.nil_append]
    rw [if_pos (by omega), if_pos (by omega), if_pos (by simp only [List.length_nil]; omega), if_pos (by omega), if_pos (by omega), if_pos (by omega), if_pos (by rw [List.length_append, List.length_singleton]; omega), rd_nat l i hi, hw, ei]
  | d + 1, a, k, ha, hb, hk => by
    obtain ⟨k, rfl⟩ : ∃ m, k = m + 1 := ⟨k - 1, by omega⟩
    have hw : wrap64 ((i : Int) + 1) = ((i + 1 : Nat) : Int) := by rw [wstep (n := l.length) (by omega) (by omega) (by omega)]; omega
    have hal : a < out.length := by omega
    have hoa : out[a] ∈ out := List.getElem_mem hal
    have hbv : spec_BeforeSet.f out[a] l[i] = some (decide (rankI out[a] < rankI l[i])) := by
      rw [spec_BeforeSet_eq]
      unfold beforeI
      have s1 : isSetB 8 out[a] = true := by rw [isSetB8]; exact decide_eq_true (hm _ hoa)
      have s2 : isSetB 8 l[i] = true := by rw [isSetB8]; exact decide_eq_true hx
      rw [s1, s2, before_rank (by have := hm _ hoa; omega) (by omega)]; rfl
    simp only [spec_SortLectic.l1]
    rw [if_pos (by omega), if_pos (by omega), if_pos (by omega), if_pos (by omega), rd_nat l i hi, rd_nat out a hal, hbv, Option.bind_some]
    by_cases hlt : rankI out[a] < rankI l[i]
    · rw [decide_eq_true hlt, if_pos rfl]
      have hw2 : wrap64 ((a : Int) + 1) = ((a + 1 : Nat) : Int) := by rw [wstep (n := out.length) (by omega) (by omega) (by omega)]; omega
      rw [hw2]
      obtain ⟨k', hk', e⟩ := ins_loop l out i hi hl hr hm hx hn hlen d (a + 1) k (by omega) (fun y hy => by
        rw [List.take_succ_eq_append_getElem hal, List.mem_append, List.mem_singleton] at hy
        rcases hy with hy | rfl
        · exact hb y hy
        · exact hlt) (by omega)
      exact ⟨k', by omega, e⟩
    · rw [decide_eq_false hlt, if_neg (by decide)]
      have hne : out[a] ≠ l[i] := fun e => hn (by rw [← e]; exact hoa)
      have hgt : rankI l[i] < rankI out[a] := by
        rcases Nat.lt_or_ge (rankI l[i]) (rankI out[a]) with h | h
        · exact h
        · exact absurd (rankI_inj (hm _ hoa) hx (by omega)) hne
      have ei := insert_eq (a := a) hr hm hx hb (fun y hy => by
        rw [List.drop_eq_getElem_cons hal, List.mem_cons] at hy
        rcases hy with rfl | hy
        · exact hgt
        · have h0 : (out.drop a).Pairwise (fun s t => rankI s < rankI t) := by
            have hr' := hr
            rw [← List.take_append_drop a out, List.pairwise_append] at hr'
            exact hr'.2.1
          rw [List.drop_eq_getElem_cons hal, List.pairwise_cons] at h0
          exact Nat.lt_trans hgt (h0.1 y hy))
      have hdl : (out.drop a).length ≤ 256 := by rw [List.length_drop]; omega
      have htl : (out.take a).length ≤ 256 := by rw [List.length_take]; omega
      refine ⟨k, by omega, ?_⟩
      simp only [Option.bind_some, Int.toNat_natCast, List.nil_append]
      rw [if_pos (by omega), if_pos (by simp only [List.length_nil]; omega), if_pos (by omega), if_pos (by rw [List.length_append, List.length_singleton]; omega), hw, ei]
theorem sort_loop (l : List Int) (hl : l.length ≤ 281474976710656) (hs : ∀ x ∈ l, isSetB 8 x = true) (d : Nat) : ∀ (i k : Nat), i + d = l.length → d * 300 + 300 ≤ k → spec_SortLectic.l0 k l (lecticOf (l.take i)) (i : Int) = some (lecticOf l) := by
  induction d with
  | zero =>
    intro i k hi hk
    obtain ⟨k, rfl⟩ : ∃ m, k = m + 1 := ⟨k - 1, by omega⟩
    simp only [spec_SortLectic.l0]
    rw [if_neg (by omega), List.take_of_length_le (by omega)]
  | succ d ih =>
    intro i k hi hk
    rw [Nat.succ_mul] at hk
    generalize d * 300 = D at hk ih
    obtain ⟨k, rfl⟩ : ∃ m, k = m + 1 := ⟨k - 1, by omega⟩
    have h1 : i < l.length := by omega
    have hlen := lecticOf_len (l.take i)
    have hx : 0 ≤ l[i] ∧ l[i] ≤ 255 := by
      have := hs _ (List.getElem_mem h1)
      rw [isSetB8] at this
      exact of_decide_eq_true this
    have hw : wrap64 ((i : Int) + 1) = ((i + 1 : Nat) : Int) := by rw [wstep (n := l.length) (by omega) (by omega) (by omega)]; omega
    have et : l.take (i + 1) = l.take i ++ [l[i]] := List.take_succ_eq_append_getElem h1
    simp only [spec_SortLectic.l0]
    rw [if_pos (by omega), if_pos (by omega), rd_nat l i h1, l2In_eq _ _ (by omega) (by omega), Option.bind_some]
    by_cases hin : l[i] ∈ lecticOf (l.take i)
    · rw [decide_eq_true hin, if_pos rfl, hw]
      have e : lecticOf (l.take i) = lecticOf (l.take (i + 1)) := lecticOf_congr fun x _ => by
        rw [et, List.mem_append, List.mem_singleton]
        constructor
        · exact Or.inl
        · rintro (h | rfl)
          · exact h
          · exact ((lecticOf_mem _ _).1 hin).2
      rw [e]
      exact ih (i + 1) k (by omega) (by omega)
    · rw [decide_eq_false hin, if_neg (by decide)]
      obtain ⟨k', hk', e⟩ := ins_loop l (lecticOf (l.take i)) i h1 hl (lecticOf_sorted _) (fun y hy => ((lecticOf_mem _ _).1 hy).1) hx hin hlen (lecticOf (l.take i)).length 0 k (by omega) (fun y hy => by simp at hy) (by omega)
      have e0 : ((0 : Nat) : Int) = 0 := rfl
      rw [e0] at e
      rw [e]
      have e2 : lecticOf (l[i] :: lecticOf (l.take i)) = lecticOf (l.take (i + 1)) := lecticOf_congr fun x hx0 => by
        rw [et, List.mem_append, List.mem_singleton, List.mem_cons, lecticOf_mem]
        constructor
        · rintro (h | h)
          · exact Or.inr h
          · exact Or.inl h.2
        · rintro (h | h)
          · exact Or.inr ⟨hx0, h⟩
          · exact Or.inl h
      rw [e2]
      exact ih (i + 1) k' (by omega) (by omega)
theorem spec_SortLectic_eq (l : List Int) (hl : l.length ≤ 281474976710656) {k : Nat} (hk : l.length * 300 + 300 ≤ k) : spec_SortLectic.f k l = some (sortL l) := by
  unfold spec_SortLectic.f sortL
  rw [Option.bind_some, l2Sets_eq l hl (by omega), Option.bind_some]
  cases h : l.all (isSetB 8) with
  | false => simp
  | true =>
    rw [if_pos rfl, if_pos rfl]
    have hz : lecticOf [] = [] := by decide +kernel
    have := sort_loop l hl (List.all_eq_true.1 h) l.length 0 k (by omega) (by omega)
    rw [List.take_zero, hz] at this
    exact this

theorem impl_inSet_eq {s t : Int} (h1 : isSetB 8 s = true) (h2 : isSetB 8 t = true) : impl_inSet.f s t = some (dif s.toNat t.toNat == 0) := by
  have h1 := isSetB_bd h1
  have h2 := isSetB_bd h2
  obtain ⟨a, rfl⟩ := Int.eq_ofNat_of_zero_le h1.2.2.1
  obtain ⟨b, rfl⟩ := Int.eq_ofNat_of_zero_le h2.2.2.1
  unfold impl_inSet.f
  rw [show Go.bits .andNot .i64 (a : Int) (b : Int) = _ from andNot_nat a b (by omega) (by omega)]
  simp only [Int.toNat_natCast, Option.some.injEq]
  rw [Bool.eq_iff_iff]; simp
theorem impl_IsSubset_eq (s t : Int) : impl_IsSubset.f s t = some (isSetB 8 s && (isSetB 8 t && (dif s.toNat t.toNat == 0))) := by
  unfold impl_IsSubset.f
  rw [impl_isAnySet_eq, impl_isAnySet_eq]
  by_cases h : isSetB 8 s = true
  · by_cases h' : isSetB 8 t = true
    · simp [h, h', impl_inSet_eq h h']
    · simp [h, h']
  · simp [h]

theorem spec_IsSubset_eq (s t : Int) : spec_IsSubset.f s t = some (isSetB 8 s && (isSetB 8 t && (dif s.toNat t.toNat == 0))) := by
  unfold spec_IsSubset.f
  rw [spec_IsSet_eq, spec_IsSet_eq]
  by_cases h : isSetB 8 s = true
  · by_cases h' : isSetB 8 t = true
    · have h1 := isSetB_bd h
      have h2 := isSetB_bd h'
      obtain ⟨a, rfl⟩ := Int.eq_ofNat_of_zero_le h1.2.2.1
      obtain ⟨b, rfl⟩ := Int.eq_ofNat_of_zero_le h2.2.2.1
      have e := and_eq_iff_dif a b
      simp only [h, h', Option.bind_some, if_true, Int.toNat_natCast, Bool.true_and, Option.some.injEq]
      rw [show Go.bits .and .i64 (a : Int) (b : Int) = _ from and_nat a b (by omega) (by omega), Bool.eq_iff_iff]
      simp only [beq_iff_eq]
      rw [← e]; omega
    · simp [h, h']
  · simp [h]

def fullSet (n : Int) : Int := if 0 ≤ n ∧ n ≤ 8 then full n else 0

theorem spec_FullSet_eq (n : Int) : spec_FullSet.f n = some (fullSet n) := by
  unfold spec_FullSet.f spec_l1In.f fullSet
  by_cases h0 : 0 ≤ n
  · by_cases h1 : n ≤ 8
    · have hw := u64_small h0 (by omega)
      simp [h0, h1, hw, shl_full h0 h1]
    · simp [h0, h1]
  · simp [h0]

theorem impl_FullSet_eq (n : Int) : impl_FullSet.f n = some (fullSet n) := by
  unfold impl_FullSet.f impl_within.f fullSet
  by_cases h0 : 0 ≤ n
  · by_cases h1 : n ≤ 8
    · simp [h0, h1, shl_full h0 h1]
    · simp [h0, h1]
  · simp [h0]

theorem impl_SetText_at {s : Int} {k : Nat} (hk : 10 ≤ k) : ∃ b, impl_SetText.f k s = some b ∧ b.data.toList = setText s := by
  obtain ⟨b, h, e⟩ := impl_SetText_eq s
  exact ⟨b, at_rounds (fun k => impl_SetText.mono s k) hk h, e⟩
theorem impl_ParseSet_loop (x : ByteArray) : ∀ (d i k : Nat), i + d = 256 → d + 12 < k → (∀ s : Nat, s < i → letters (s : Int) ≠ x.data.toList) → impl_ParseSet.l0 k x (i : Int) = some (parseR x.data.toList)
  | 0, i, k, hi, hk, hno => by
    obtain ⟨k, rfl⟩ : ∃ m, k = m + 1 := ⟨k - 1, by omega⟩
    simp only [impl_ParseSet.l0]
    rw [if_neg (by omega), parseR_no (fun s hs => hno s (by omega))]
  | d + 1, i, k, hi, hk, hno => by
    obtain ⟨k, rfl⟩ : ∃ m, k = m + 1 := ⟨k - 1, by omega⟩
    obtain ⟨b, h, e⟩ := impl_SetText_at (s := (i : Int)) (k := k) (by omega)
    simp only [impl_ParseSet.l0]
    rw [if_pos (by omega), h, Option.bind_some, ByteArray.toList_eq, ByteArray.toList_eq, e, setText_nat (by omega)]
    by_cases hh : letters (i : Int) = x.data.toList
    · rw [if_pos hh, parseR_yes (by omega) hh]
    · rw [if_neg hh, w64 (by omega) (by omega), show (i : Int) + 1 = ((i + 1 : Nat) : Int) from by omega]
      refine impl_ParseSet_loop x d (i + 1) k (by omega) (by omega) (fun s hs => ?_)
      by_cases e : s = i
      · subst e; exact hh
      · exact hno s (by omega)
theorem impl_ParseSet_eq (x : ByteArray) {k : Nat} (hk : 270 ≤ k) : impl_ParseSet.f k x = some (parseR x.data.toList) := by
  unfold impl_ParseSet.f
  exact impl_ParseSet_loop x 256 0 k (by omega) (by omega) (fun s hs => absurd hs (Nat.not_lt_zero _))

theorem sameInts_loop (a : List Int) (hn : a.length ≤ 281474976710656) (d : Nat) : ∀ (i k : Nat), i + d = a.length → d < k → laws_sameInts.l0 k a a (i : Int) = some true := by
  induction d with
  | zero =>
    intro i k hi hk
    obtain ⟨k, rfl⟩ : ∃ m, k = m + 1 := ⟨k - 1, by omega⟩
    simp only [laws_sameInts.l0]; rw [if_neg (by omega)]
  | succ d ih =>
    intro i k hi hk
    obtain ⟨k, rfl⟩ : ∃ m, k = m + 1 := ⟨k - 1, by omega⟩
    simp only [laws_sameInts.l0]
    rw [if_pos (by omega), if_pos (by omega), if_pos (by omega), if_pos trivial, wstep (n := a.length) (by omega) (by omega) hn, show (i : Int) + 1 = ((i + 1 : Nat) : Int) from by omega]
    exact ih (i + 1) k (by omega) (by omega)
theorem sameInts_self (a : List Int) (hn : a.length ≤ 281474976710656) {k : Nat} (hk : a.length < k) : laws_sameInts.f k a a = some true := by
  unfold laws_sameInts.f
  rw [if_pos rfl]
  exact sameInts_loop a hn a.length 0 k (by omega) hk
theorem before_two {a b : Nat} (ha : a < 256) (hb : b < 256) (h : a ≠ b) : (beforeB a b == beforeB b a) = false ∧ (dif a b = 0 → beforeB a b = true) := by
  obtain ⟨_, h2, _⟩ := tzN_spec (xor_ne h) (xor_256 ha hb)
  rw [Nat.testBit_xor] at h2
  have e1 : (a != b) = true := by simp [h]
  have e2 : (b != a) = true := bne_iff_ne.mpr (fun e => h e.symm)
  unfold beforeB
  rw [Nat.xor_comm b a, e1, e2, Bool.true_and, Bool.true_and]
  have hd := dif_bit a b (tzN (a ^^^ b))
  generalize tzN (a ^^^ b) = t at *
  cases ha2 : a.testBit t <;> cases hb2 : b.testBit t <;> rw [ha2, hb2] at h2 hd
  · cases h2
  · exact ⟨rfl, fun _ => rfl⟩
  · refine ⟨rfl, fun e => ?_⟩
    rw [e, Nat.zero_testBit] at hd; cases hd
  · cases h2
theorem sets_j1 (l : List Int) (hm : l.length ≤ maxLen) (s : Int) {k : Nat} (hk : 5000 ≤ k) : laws_FnSets.j1 k l s false = some true := by
  obtain ⟨k, rfl⟩ : ∃ m, k = m + 1 := ⟨k - 1, by omega⟩
  simp only [laws_FnSets.j1]
  have e1 := impl_txt s (k - 10)
  have e2 := spec_txt s (k - 10)
  rw [show 10 + (k - 10) = k from by omega] at e1 e2
  obtain ⟨q, e3, hq⟩ := DrawParseSet_ok l hm (k := k) (by omega)
  have e4 := impl_ParseSet_eq (txt s) (k := k) (by omega)
  have e5 := impl_ParseSet_eq q (k := k) (by omega)
  have e6 := spec_ParseSet_eq q (by omega) (k := k) (by omega)
  rw [if_neg (by decide), e1]; simp only [Option.bind_some]
  rw [e4]; simp only [Option.bind_some]
  rw [e3]; simp only [Option.bind_some]
  rw [e5]; simp only [Option.bind_some]
  rw [e6]; simp only [Option.bind_some]
  rw [e2]; simp only [Option.bind_some]
  rw [if_pos trivial, ByteArray.toList_eq, txt_list]
  rcases parse_text s with ⟨_, h2, h3⟩ | ⟨h2, h3⟩
  · rw [h3]
    have e7 : (setText s != ([] : List UInt8)) = true := by simp [h2]
    rw [e7]
    simp
  · rw [h3, h2]
    simp
theorem sets_j0 (l : List Int) (hm : l.length ≤ maxLen) (s x y : Int) {k : Nat} (hk : 5010 ≤ k) : laws_FnSets.j0 k l s x y false = some true := by
  obtain ⟨k, rfl⟩ : ∃ m, k = m + 1 := ⟨k - 1, by omega⟩
  have J := sets_j1 l hm s (k := k) (by omega)
  have hk1 : 1 ≤ k := by omega
  simp only [laws_FnSets.j0]
  rw [if_neg (by decide), spec_IsSet_eq]; simp only [Option.bind_some]
  cases hx : isSetB 8 x with
  | false => rw [if_neg (by decide)]; exact J
  | true =>
    rw [if_pos rfl, spec_IsSet_eq]; simp only [Option.bind_some]
    cases hy : isSetB 8 y with
    | false => rw [if_neg (by decide)]; exact J
    | true =>
      rw [if_pos rfl]
      by_cases e : x = y
      · rw [if_pos e]; exact J
      · have b1 := isSetB_bd hx
        have b2 := isSetB_bd hy
        have e3 := impl_IsSubset_eq x y
        have e1 := impl_BeforeSet_eq x y hk1
        have e2 := impl_BeforeSet_eq y x hk1
        unfold beforeI at e1 e2
        rw [hx, hy, Bool.true_and, Bool.true_and] at e1 e2 e3
        have T := before_two (a := x.toNat) (b := y.toNat) (by omega) (by omega) (by omega)
        rw [if_neg e, e1]; simp only [Option.bind_some]
        rw [e2]; simp only [Option.bind_some]
        rw [T.1, if_neg (by decide), e3]; simp only [Option.bind_some]
        cases hd : (dif x.toNat y.toNat == 0) with
        | false => rw [if_neg (by decide)]; exact J
        | true =>
          rw [if_pos rfl, T.2 (by simpa using hd)]
          exact J
theorem count_elems (s : Int) : ∃ l : List Int, spec_ElementsOf.f 9 s = some l ∧ impl_ElementsOf.f 9 s = some l ∧ impl_CountOf.f s = some (l.length : Int) ∧ l.length ≤ 8 := by
  cases hs : isSetB 8 s with
  | true => exact ⟨_, spec_ElementsOf_set hs, impl_ElementsOf_set hs, all256 (P := fun s => impl_CountOf.f s = some ((elems s).length : Int)) (by decide +kernel) hs, elems_len _⟩
  | false => exact ⟨_, spec_ElementsOf_no hs, impl_ElementsOf_no hs, by unfold impl_CountOf.f; rw [impl_isAnySet_eq, hs]; rfl, by simp⟩
theorem FnSets : laws_FnSets.Pure := by
  intro l hm hw
  refine ⟨3000000, ?_⟩
  obtain ⟨K, hK⟩ : ∃ K, K = 3000000 := ⟨_, rfl⟩
  unfold laws_FnSets.f laws_big.f
  simp only [Option.bind_some]
  by_cases hbig : (l.length : Int) > 1048576
  · rw [decide_eq_true hbig, if_pos rfl]
  rw [decide_eq_false hbig, if_neg (by decide)]
  obtain ⟨d1, a1⟩ := DrawElementsOf_ok l hm (k := 3000000) (by decide)
  obtain ⟨d2, d3, a2⟩ := DrawHasElement_ok l hm (k := 3000000) (by decide)
  obtain ⟨d4, d5, a3⟩ := DrawIsSet_ok l hm (k := 3000000) (by decide)
  obtain ⟨d6, a4⟩ := DrawFullSet_ok l hm (k := 3000000) (by decide)
  obtain ⟨d7, d8, a5⟩ := DrawBeforeSet_ok l hm (k := 3000000) (by decide)
  obtain ⟨z, a6, hz⟩ := DrawSortLectic_ok l hm (k := 3000000) (by decide)
  obtain ⟨es, c1, c2, c3, hes⟩ := count_elems d1
  have c1' := at_rounds (fun k => spec_ElementsOf.mono d1 k) (show 9 ≤ 3000000 by decide) c1
  have c2' := at_rounds (fun k => impl_ElementsOf.mono d1 k) (show 9 ≤ 3000000 by decide) c2
  have c4 := sameInts_self es (by omega) (k := 3000000) (by omega)
  have c5 := impl_BeforeSet_eq d7 d8 (show 1 ≤ 3000000 by decide)
  have c6 := impl_SortLectic_eq z (by omega)
  have c7 := spec_SortLectic_eq z (by omega) (k := 3000000) (by omega)
  have hs := sortL_len z
  have c8 := sameInts_self (sortL z) (by omega) (k := 3000000) (by omega)
  obtain ⟨v, c9, c10⟩ := SetsText_both z (by omega)
  have c11 := sets_j0 l hm d1 d7 d8 (k := 3000000) (by decide)
  rw [← hK] at *
  clear hK
  rw [a1]; simp only [Option.bind_some]
  rw [a2]; simp only [Option.bind_some]
  rw [a3]; simp only [Option.bind_some]
  rw [a4]; simp only [Option.bind_some]
  rw [a5]; simp only [Option.bind_some]
  rw [a6]; simp only [Option.bind_some]
  rw [c2']; simp only [Option.bind_some]
  rw [c1']; simp only [Option.bind_some]
  rw [c4]; simp only [Option.bind_some]
  try simp only [if_true, eq_self]
  rw [c3]; simp only [Option.bind_some]
  try simp only [if_true, eq_self]
  rw [impl_HasElement_eq, spec_HasElement_eq]; simp only [Option.bind_some]
  rw [bne_self_eq_false, if_neg (by decide), impl_IsSet_eq, spec_IsSet_eq]; simp only [Option.bind_some]
  rw [bne_self_eq_false, if_neg (by decide), impl_FullSet_eq, spec_FullSet_eq]; simp only [Option.bind_some]
  try simp only [if_true, eq_self]
  rw [impl_IsSubset_eq, spec_IsSubset_eq]; simp only [Option.bind_some]
  rw [bne_self_eq_false, if_neg (by decide), c5, spec_BeforeSet_eq]; simp only [Option.bind_some]
  rw [bne_self_eq_false, if_neg (by decide), c6]; simp only [Option.bind_some]
  rw [c7]; simp only [Option.bind_some]
  rw [c8]; simp only [Option.bind_some]
  try simp only [if_true, eq_self]
  rw [c10]; simp only [Option.bind_some]
  rw [c9]; simp only [Option.bind_some]
  rw [bne_self_eq_false]
  exact c11

end Go.Proofs.YtapfgfkpnmjhnaaDoor.Pure
