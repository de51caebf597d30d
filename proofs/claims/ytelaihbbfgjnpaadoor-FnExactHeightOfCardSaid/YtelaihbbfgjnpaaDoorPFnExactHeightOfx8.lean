-- Written by a program of this session (wip/myprint.py), which runs the kit's print with contracts proved by hand; not the kit's own print. Lean checks it.
import Derived.Test.YtelaihbbfgjnpaaDoorPFnExactHeightOfx0
import Derived.Test.YtelaihbbfgjnpaaDoorPFnExactHeightOfx4
import Derived.Test.YtelaihbbfgjnpaaDoorPFnExactHeightOfx7
namespace Go.Proofs.YtelaihbbfgjnpaaDoor.PFnExactHeightOf
open Go.RowKit Go.Proofs.YtelaihbbfgjnpaaDoorW.PrintWords Go.Proofs.YtelaihbbfgjnpaaDoorW.PrintLast Go.Proofs.YtelaihbbfgjnpaaDoorW.PrintMore
attribute [local go_sem] max2_int min2_int max_two min_two max_three min_three max_four min_four   -- for this text's walks alone
set_option linter.unusedVariables false
set_option linter.unusedSimpArgs false

/-! ### impl_lattice_height: function 15: the height, over a map of what is known -/
def impl_lattice_height.foldM (H : Int → Option Int) : Int → List Int → Option Int
  | best, [] => some best
  | best, x :: xs => (H x).bind fun v => impl_lattice_height.foldM H (mx best (wrap64 (1 + v))) xs
def impl_lattice_height.h (k : Nat) (l : List S36) : Nat → Int → Option Int
  | 0, _ => none
  | n + 1, a => if 0 ≤ a ∧ a < (l.length : Int) then (impl_lattice_upper.f k l a).bind fun xs => impl_lattice_height.foldM (impl_lattice_height.h k l n) 0 xs else none
theorem impl_lattice_height.foldM_mono {H H' : Int → Option Int} (hH : ∀ x v, H x = some v → H' x = some v) : ∀ (xs : List Int) (best v : Int), impl_lattice_height.foldM H best xs = some v → impl_lattice_height.foldM H' best xs = some v
  | [], best, v, h => h
  | x :: xs, best, v, h => by
    simp only [impl_lattice_height.foldM] at h ⊢
    obtain ⟨u, h1, h2⟩ := Option.bind_eq_some_iff.mp h
    rw [hH x u h1, Option.bind_some]
    exact impl_lattice_height.foldM_mono hH xs _ v h2
theorem impl_lattice_height.h_succ (k : Nat) (l : List S36) : ∀ (n : Nat) (a v : Int), impl_lattice_height.h k l n a = some v → impl_lattice_height.h k l (n + 1) a = some v
  | 0, a, v, h => by cases h
  | n + 1, a, v, h => by
    have ih := impl_lattice_height.h_succ k l n
    unfold impl_lattice_height.h at h ⊢
    by_cases c : 0 ≤ a ∧ a < (l.length : Int)
    · rw [if_pos c] at h ⊢
      obtain ⟨xs, h1, h2⟩ := Option.bind_eq_some_iff.mp h
      rw [h1, Option.bind_some]
      exact impl_lattice_height.foldM_mono ih xs 0 v h2
    · rw [if_neg c] at h; cases h
theorem impl_lattice_height.h_le (k : Nat) (l : List S36) {n m : Nat} (hnm : n ≤ m) {a v : Int} (h : impl_lattice_height.h k l n a = some v) : impl_lattice_height.h k l m a = some v := by
  induction hnm with
  | refl => exact h
  | step _ ih => exact impl_lattice_height.h_succ k l _ a v ih
theorem impl_lattice_height.h_det (k : Nat) (l : List S36) {n m : Nat} {a v u : Int} (h1 : impl_lattice_height.h k l n a = some v) (h2 : impl_lattice_height.h k l m a = some u) : u = v := by
  have e1 := impl_lattice_height.h_le k l (Nat.le_max_left n m) h1
  have e2 := impl_lattice_height.h_le k l (Nat.le_max_right n m) h2
  rw [e1] at e2
  exact (Option.some.inj e2).symm
theorem impl_lattice_height.h_mono (k : Nat) (l : List S36) : ∀ (n : Nat) (a v : Int), impl_lattice_height.h k l n a = some v → impl_lattice_height.h (k + 1) l n a = some v
  | 0, a, v, h => by cases h
  | n + 1, a, v, h => by
    have ih := impl_lattice_height.h_mono k l n
    unfold impl_lattice_height.h at h ⊢
    by_cases c : 0 ≤ a ∧ a < (l.length : Int)
    · rw [if_pos c] at h ⊢
      obtain ⟨xs, h1, h2⟩ := Option.bind_eq_some_iff.mp h
      rw [impl_lattice_upper.mono _ _ _ xs h1, Option.bind_some]
      exact impl_lattice_height.foldM_mono ih xs 0 v h2
    · rw [if_neg c] at h; cases h
/-- What the map holds: each entry is the height of its key, and no key stands twice. -/
def Memo (k : Nat) (l : List S36) (es : List (Lit × DataW Unit)) : Prop :=
  es.Pairwise (fun p q => p.1 ≠ q.1) ∧ ∀ p ∈ es, ∃ (a v : Int) (n : Nat), p.1 = .int .i64 a ∧ p.2 = .lit (.int .i64 v) ∧ 0 ≤ a ∧ a < (l.length : Int) ∧ impl_lattice_height.h k l n a = some v
theorem memo_nil (k : Nat) (l : List S36) : Memo k l [] := ⟨List.Pairwise.nil, fun p hp => by cases hp⟩
theorem filter_ne_len (c : Int) : ∀ xs : List Int, xs.Pairwise (· ≠ ·) → xs.length ≤ (xs.filter (fun x => x != c)).length + 1
  | [], _ => Nat.zero_le _
  | x :: xs, h => by
    rw [List.pairwise_cons] at h
    by_cases e : x = c
    · subst e
      have : xs.filter (fun y => y != x) = xs := List.filter_eq_self.2 fun y hy => by simpa using (h.1 y hy).symm
      rw [List.filter_cons_of_neg (by simp), this]; exact Nat.le_refl _
    · have ih := filter_ne_len c xs h.2
      rw [List.filter_cons_of_pos (by simpa using e), List.length_cons, List.length_cons]; omega
theorem nodup_len : ∀ (L : Nat) (xs : List Int), xs.Pairwise (· ≠ ·) → (∀ x ∈ xs, 0 ≤ x ∧ x < (L : Int)) → xs.length ≤ L
  | 0, xs, _, h => by
    cases xs with
    | nil => exact Nat.le_refl _
    | cons x r => have := h x (List.mem_cons_self ..); omega
  | L + 1, xs, hp, h => by
    have h1 := filter_ne_len (L : Int) xs hp
    have h2 := nodup_len L (xs.filter (fun x => x != (L : Int))) (hp.filter _) (fun x hx => by
      obtain ⟨hx1, hx2⟩ := List.mem_filter.1 hx
      have := h x hx1
      have hne : x ≠ (L : Int) := by simpa using hx2
      omega)
    omega
def keyOfEntry (p : Lit × DataW Unit) : Int := match p.1 with
  | .int _ a => a
  | _ => 0
theorem memo_len {k : Nat} {l : List S36} {es : List (Lit × DataW Unit)} (h : Memo k l es) : es.length ≤ l.length := by
  have h1 := nodup_len l.length (es.map keyOfEntry) (by
    rw [List.pairwise_map]
    refine h.1.imp_of_mem ?_
    intro p q hp hq hne e
    obtain ⟨a, v, n, e1, _⟩ := h.2 p hp
    obtain ⟨a', v', n', e1', _⟩ := h.2 q hq
    unfold keyOfEntry at e
    rw [e1, e1'] at e
    exact hne (by rw [e1, e1']; rw [show a = a' from e])) (fun x hx => by
    obtain ⟨p, hp, rfl⟩ := List.mem_map.1 hx
    obtain ⟨a, v, n, e1, _, h0, h1, _⟩ := h.2 p hp
    unfold keyOfEntry
    rw [e1]; exact ⟨h0, h1⟩)
  rw [List.length_map] at h1; exact h1
theorem mem_insertD (x p : Lit × DataW Unit) : ∀ es : List (Lit × DataW Unit), p ∈ DataW.insert x es → p = x ∨ p ∈ es
  | [], h => by
    simp only [DataW.insert, List.mem_singleton] at h
    exact Or.inl h
  | y :: r, h => by
    simp only [DataW.insert] at h
    split at h
    · rcases List.mem_cons.1 h with h | h
      · exact Or.inl h
      · exact Or.inr h
    · rcases List.mem_cons.1 h with h | h
      · exact Or.inr (by rw [h]; exact List.mem_cons_self ..)
      · rcases mem_insertD x p r h with h | h
        · exact Or.inl h
        · exact Or.inr (List.mem_cons_of_mem _ h)
theorem memo_put {k : Nat} {l : List S36} {es : List (Lit × DataW Unit)} (hm : Memo k l es) {a v : Int} {n : Nat} (h0 : 0 ≤ a) (h1 : a < (l.length : Int)) (h : impl_lattice_height.h k l n a = some v) : Memo k l (ChangeMaps.putKey (.int .i64 a) (.lit (.int .i64 v)) es) := by
  have ht : Maps.Tidy (DataW.map es) := ⟨es, rfl, hm.1⟩
  obtain ⟨es', e, hp⟩ := ht.put (k := .int .i64 a) trivial (.lit (.int .i64 v))
  have e2 : ChangeMaps.putKey (.int .i64 a) (.lit (.int .i64 v)) es = es' := by
    rw [DataW.put_eq] at e
    exact DataW.map.inj e
  refine ⟨by rw [e2]; exact hp, fun p hp2 => ?_⟩
  unfold ChangeMaps.putKey at hp2
  rcases mem_insertD _ p _ hp2 with h2 | h2
  · subst h2
    exact ⟨a, v, n, rfl, rfl, h0, h1, h⟩
  · exact hm.2 p (List.mem_filter.1 h2).1
theorem memo_look {k : Nat} {l : List S36} {es : List (Lit × DataW Unit)} (hm : Memo k l es) {a v c : Int} {n : Nat} (h : impl_lattice_height.h k l n a = some v) (hhas : Maps.has (DataW.map es) (.int .i64 a) = true) (hat : (DataW.map es).atKey (.int .i64 a) (.lit (.int .i64 0)) = .lit (.int .i64 c)) : c = v := by
  rw [Maps.has_eq, List.any_eq_true] at hhas
  obtain ⟨q, hq, hs⟩ := hhas
  cases hf : es.find? (fun p => p.1.sameKey (.int .i64 a)) with
  | none => exact absurd hs (by simpa using List.find?_eq_none.1 hf q hq)
  | some p =>
    have hp := List.mem_of_find?_eq_some hf
    have hk := WideAt.sameKey_eq (by simpa using List.find?_some hf)
    obtain ⟨a', v', n', e1, e2, _, _, e3⟩ := hm.2 p hp
    unfold DataW.atKey at hat
    simp only [hf] at hat
    rw [e1] at hk
    have ha : a' = a := by injection hk
    subst ha
    rw [e2] at hat
    have hv : v' = c := by injection hat with e; injection e
    rw [← hv]
    exact impl_lattice_height.h_det k l h e3
theorem own_norm {w : World} {b n : Nat} {es : List (Lit × DataW Unit)} (h : w.ownsMap Tryd.prog 3 (plainElem Tryd.prog 3) b n (.map es)) : w.ownsMap Tryd.prog 3 (plainElem Tryd.prog 3) b es.length (.map es) := by
  obtain ⟨es0, clock, hb, F, hs, hD⟩ := h
  have e := DataW.map.inj hD
  exact ⟨es0, clock, hb, F, by rw [e, length_sorted]; simp, hD⟩
theorem heightKey : Maps.Keyed Tryd.prog 3 := Maps.int_keyed Tryd.underlying3
theorem heightZero (w : World) : (zeroValue 3).run Tryd.prog w = .ok (.int .i64 0) w := by kernel_rfl
theorem impl_lattice_height.foldM_wf (H : Int → Option Int) : ∀ (xs : List Int) (best v : Int), (Lit.int .i64 best).wf = true → impl_lattice_height.foldM H best xs = some v → (Lit.int .i64 v).wf = true
  | [], best, v, hb, h => by
    simp only [impl_lattice_height.foldM, Option.some.injEq] at h
    rw [← h]; exact hb
  | x :: xs, best, v, hb, h => by
    simp only [impl_lattice_height.foldM] at h
    obtain ⟨u, _, h2⟩ := Option.bind_eq_some_iff.mp h
    refine impl_lattice_height.foldM_wf H xs _ v ?_ h2
    unfold mx
    split
    · exact wrap64_wf _
    · exact hb
set_option maxHeartbeats 4000000 in
set_option maxRecDepth 100000 in
theorem impl_lattice_height.memo_calls (k : Nat) (A : Option Addr) (c : Nat) (l : List S36) (hc : l.length ≤ c) (hl : l.length ≤ 1000000) (w0 : World) (hr : Kd.C k36 w0 A l.length l) (b : Nat) (hb : w0.heap.size ≤ b) (n : Nat) :
    ∀ (a v : Int) (w : World) (es : List (Lit × DataW Unit)), impl_lattice_height.h k l n a = some v → Below w0.heap.size w0 w → w.ownsMap Tryd.prog 3 (plainElem Tryd.prog 3) b es.length (.map es) → Memo k l es →
      Calls Tryd.prog 15 #[.slice A l.length c, .int .i64 a, .map (some b)] w fun e w' => e = .returned (.int .i64 v) ∧ w.grownBy w' (some b) ∧ ∃ es', w'.ownsMap Tryd.prog 3 (plainElem Tryd.prog 3) b es'.length (.map es') ∧ Memo k l es' := by
  have HR := Aside0.mk hr
  have HC := Aside0.mk hc
  have HL := Aside0.mk hl
  have HBB := Aside0.mk hb
  clear hr hc hl hb
  induction n with
  | zero => intro a v w es h; cases h
  | succ n ih =>
    intro a v w es hh HBw hown hm
    have IH := Aside0.mk ih
    have HH := Aside0.mk hh
    have HOWN := Aside0.mk hown
    have HM := Aside0.mk hm
    have HB := Aside0.mk HBw
    have hrange : 0 ≤ a ∧ a < (l.length : Int) := by
      unfold impl_lattice_height.h at hh
      by_cases c : 0 ≤ a ∧ a < (l.length : Int)
      · exact c
      · rw [if_neg c] at hh; cases hh
    have HA := Aside0.mk hrange
    have hxs : ∃ xs, impl_lattice_upper.f k l a = some xs ∧ impl_lattice_height.foldM (impl_lattice_height.h k l n) 0 xs = some v := by
      unfold impl_lattice_height.h at hh
      rw [if_pos hrange] at hh
      exact Option.bind_eq_some_iff.mp hh
    have hkey : keyOf Tryd.prog 3 (.int .i64 a) = some (.int .i64 a) := Maps.keyOf_int_mk Tryd.underlying3 (by
      have := HL.out
      have e : IntKind.i64.min = -9223372036854775808 := by decide
      have e2 : IntKind.i64.max = 9223372036854775807 := by decide
      simp [Lit.wf]; omega)
    have HKEY := Aside0.mk hkey
    obtain ⟨xs, hx, hf⟩ := hxs
    have HX := Aside0.mk hx
    have HF := Aside0.mk hf
    clear ih hh hown hm HBw hkey hx hf
    cases hhas : Maps.has (DataW.map es) (.int .i64 a) with
    | true =>
      have HHAS := Aside0.mk hhas
      clear hrange
      go_enter Tryd.func15, Tryd.ntmps15
      go_wp2_with (first | (at_lookup; refine wpList_lookup_own_ok_int _ rfl _ _ 41 rfl 3 3 .i64 heightKey Tryd.underlying41 Tryd.underlying3 (heightZero _) b es.length _ rfl HOWN.out _ _ rfl HKEY.out ?_; intro cv hat hwc; rw [hhas]; have HAT := Aside0.mk hat; clear hat hwc) | go_in)
      go_ret
      exact ⟨by rw [memo_look HM.out HH.out HHAS.out HAT.out]; rfl, grown_of_below (Below.refl _ _) _, es, HOWN.out, HM.out⟩
    | false =>
      clear hrange
      have HWF := Aside0.mk (impl_lattice_height.foldM_wf _ xs 0 v (by decide) HF.out)
      go_enter Tryd.func15, Tryd.ntmps15
      go_wp2_with (first | (at_lookup; refine wpList_lookup_own_ok_int _ rfl _ _ 41 rfl 3 3 .i64 heightKey Tryd.underlying41 Tryd.underlying3 (heightZero _) b es.length _ rfl HOWN.out _ _ rfl HKEY.out ?_; intro cv hat hwc; rw [hhas]; clear hat hwc) | fail)
      clear hhas
      refine (impl_lattice_upper.calls k A c l a xs w (Kd.C_below HR.out HB.out) HC.out HX.out).mono ?_
      rintro e w1 ⟨v0, rfl, hR, hb1⟩
      obtain ⟨Ax, cx, rfl⟩ := Kd.R_slice hR
      have hbw : b < w.heap.size := HOWN.out.lt
      have HXR := Aside0.mk (Kd.R_mono (ok' := fun q => q ≠ b) (Kd.R_bound hR) (fun q hq => by have := hq.2.1; omega))
      have HG := Aside0.mk (grown_of_below hb1 (some b))
      have HOWN1 := Aside0.mk (HOWN.out.kept (grown_of_below hb1 none) (by simp))
      clear hR hb1 hbw
      go_wp2_with fail
      go_loopg [9, 24] (xs.length + 1) (fun kq v9 v24 wr => ∃ (j : Nat) (bst : Int) (es1 : List (Lit × DataW Unit)), v9 = .int .i64 bst ∧ v24 = .int .i64 (j : Int) ∧ Aside0 (kq + j = xs.length + 1 ∧ j ≤ xs.length) ∧ Aside0 (impl_lattice_height.foldM (impl_lattice_height.h k l n) bst (xs.drop j) = some v) ∧ Aside0 (w.grownBy wr (some b)) ∧ Aside0 (wr.ownsMap Tryd.prog 3 (plainElem Tryd.prog 3) b es1.length (.map es1)) ∧ Aside0 (Memo k l es1) ∧ Aside0 ((Kd.int .i64).R 3 wr w.heap.size (fun q => q ≠ b) (.slice Ax xs.length cx) xs))
      case atStart => exact ⟨0, 0, es, rfl, rfl, ⟨⟨rfl, Nat.zero_le _⟩⟩, ⟨by rw [List.drop_zero]; exact HF.out⟩, HG, HOWN1, HM, HXR⟩
      case round =>
        obtain ⟨j, bst, es1, rfl, rfl, HJ, HF1, HG1, HO1, HM1, HX1⟩ := hrel
        cases gk with
        | zero => exact absurd HJ.out (by omega)
        | succ k1 =>
          have hjj := HJ.out
          by_cases hj : j < xs.length
          · have c7b0 : decide ((j : Int) < (xs.length : Int)) = true := decide_eq_true (by omega)
            have p1 := eq_true (show (0 : Int) ≤ (j : Int) by omega)
            have q1 := eq_true (show (j : Int) < (xs.length : Int) by omega)
            have hjs : ¬ xs.length ≤ j := by omega
            obtain ⟨ad, e1, hcell⟩ := Kd.at_int (Kd.R_reads' HX1.out).2.2 (j : Int) (by omega) (by omega)
            have hd : xs.drop j = rd xs (j : Int) :: xs.drop (j + 1) := by
              rw [List.drop_eq_getElem_cons hj]
              unfold rd
              rw [Int.toNat_natCast, List.getD_eq_getElem?_getD, List.getElem?_eq_getElem hj]; rfl
            have hf1 := HF1.out
            rw [hd] at hf1
            simp only [impl_lattice_height.foldM] at hf1
            obtain ⟨u, hu, hrest⟩ := Option.bind_eq_some_iff.mp hf1
            have HU := Aside0.mk hu
            have HREST := Aside0.mk hrest
            have HJ2 := Aside0.mk (show k1 + (j + 1) = xs.length + 1 ∧ j + 1 ≤ xs.length by omega)
            have HW := Aside0.mk (show wrap64 ((j : Int) + 1) = ((j + 1 : Nat) : Int) from by unfold wrap64; have := (Kd.R_reads' HX1.out).2.2.2.1; omega)
            clear hf1 hu hrest hd hjj HJ HF1 hj hjs
            cases e1
            rw [Int.toNat_natCast] at hcell
            go_wp2_with fail
            refine (IH.out (rd xs (j : Int)) u wr es1 HU.out (HB.out.grown HG1.out HB.out.size (fun q hq => by cases hq; exact HBB.out)) HO1.out HM1.out).mono ?_
            rintro e w2 ⟨rfl, hg2, es2, hown2, hm2⟩
            have HG2 := Aside0.mk (HG1.out.trans hg2)
            have HO2 := Aside0.mk hown2
            have HM2 := Aside0.mk hm2
            have HX2 := Aside0.mk (Kd.R_grown HX1.out hg2 (fun q hq e => hq (Option.some.inj e)))
            clear hg2 hown2 hm2 hcell
            by_cases hmx : bst < wrap64 (1 + u)
            · have m1 := eq_true hmx
              have m2 : decide (bst < wrap64 (1 + u)) = true := decide_eq_true hmx
              have HMX := Aside0.mk (show mx bst (wrap64 (1 + u)) = wrap64 (1 + u) from by unfold mx; rw [if_pos hmx])
              clear hmx
              go_wp2_with fail
              go_roundg k1
              case measure => omega
              case rel => exact ⟨j + 1, wrap64 (1 + u), es2, rfl, by rw [HW.out], HJ2, ⟨by rw [← HMX.out]; exact HREST.out⟩, HG2, HO2, HM2, HX2⟩
            · have m1 := eq_false hmx
              have m2 : decide (bst < wrap64 (1 + u)) = false := decide_eq_false hmx
              have HMX := Aside0.mk (show mx bst (wrap64 (1 + u)) = bst from by unfold mx; rw [if_neg hmx])
              clear hmx
              go_wp2_with fail
              go_roundg k1
              case measure => omega
              case rel => exact ⟨j + 1, bst, es2, rfl, by rw [HW.out], HJ2, ⟨by rw [← HMX.out]; exact HREST.out⟩, HG2, HO2, HM2, HX2⟩
          · have c7b0 : decide ((j : Int) < (xs.length : Int)) = false := decide_eq_false (by omega)
            have c7b1 : decide (j < xs.length) = false := decide_eq_false hj
            have c7b2 := eq_false hj
            have hj2 : j = xs.length := by omega
            have hf1 := HF1.out
            rw [hj2, List.drop_length] at hf1
            have hv : bst = v := Option.some.inj hf1
            have HV := Aside0.mk hv
            clear hf1 hj2 hv hj hjj HF1 HJ
            go_wp2_with (first | (at_mapUpdate; refine wpList_mapUpdate_own _ rfl _ _ _ 41 rfl 3 3 heightKey Tryd.underlying41 _ b es1.length _ rfl HO1.out (by have h1_ := memo_len HM1.out; have h2_ := HL.out; unfold maxLen; omega) _ _ _ rfl rfl HKEY.out _ [] (plainElem_int Tryd.underlying3 (by rw [HV.out]; exact HWF.out)) ?_; intro w3 hown3 hgrow3) | fail)
            go_ret
            rw [HV.out] at hown3 ⊢
            exact ⟨rfl, HG1.out.trans hgrow3, _, own_norm hown3, memo_put HM1.out HA.out.1 HA.out.2 HH.out⟩

/-! ### impl_HeightOf: function 7 -/
def impl_HeightOf.f (k : Nat) (a0_0 : Int) (l0_1 : List Int) : Option Int := (impl_Concepts.f k a0_0 l0_1).bind fun l => if (l.length : Int) = 0 then some (-1) else if l.length ≤ 1000000 then impl_lattice_height.h k l (l.length + 1) (wrap64 ((l.length : Int) - 1)) else none
theorem impl_HeightOf.mono : ∀ a0 a1 k, LeO (impl_HeightOf.f k a0 a1) (impl_HeightOf.f (k + 1) a0 a1) := by
  intro a0 a1 k r h
  unfold impl_HeightOf.f at h ⊢
  obtain ⟨l, h1, h2⟩ := Option.bind_eq_some_iff.mp h
  rw [impl_Concepts.mono _ _ _ l h1, Option.bind_some]
  by_cases c : (l.length : Int) = 0
  · rw [if_pos c] at h2 ⊢; exact h2
  · rw [if_neg c] at h2 ⊢
    by_cases c2 : l.length ≤ 1000000
    · rw [if_pos c2] at h2 ⊢
      exact impl_lattice_height.h_mono k l _ _ _ h2
    · rw [if_neg c2] at h2; cases h2
set_option maxHeartbeats 4000000 in
set_option maxRecDepth 100000 in
theorem impl_HeightOf.calls (k : Nat) (a0_0 : Int) (A0_1 : Option Addr) (c0_1 : Nat) (l0_1 : List Int) (r : Int) (w : World) (hr0_1 : Kd.C (Kd.int .i64) w A0_1 l0_1.length l0_1) (hc0_1 : l0_1.length ≤ c0_1) (hrT : TabW w) (h : impl_HeightOf.f k a0_0 l0_1 = some r) :
    Calls Tryd.prog 7 #[.agg #[.int .i64 a0_0, .slice A0_1 l0_1.length c0_1]] w fun e w' => e = .returned (.int .i64 r) ∧ Below w.heap.size w w' := by
  have HRT := Aside0.mk hrT
  have hu27 := Tryd.underlying27
  have HR0_1 := Aside0.mk hr0_1
  have HC0_1 := Aside0.mk hc0_1
  have HB := Aside0.mk (Below.refl w.heap.size w)
  unfold impl_HeightOf.f at h
  obtain ⟨l, hl, h⟩ := Option.bind_eq_some_iff.mp h
  have A2 := Aside0.mk hl
  clear hrT hr0_1 hc0_1 hl
  by_cases c0 : (l.length : Int) = 0
  · rw [if_pos c0] at h
    obtain rfl := Option.some.inj h
    have c0b0 : ((l.length : Int) == 0) = true := beq_iff_eq.mpr c0
    clear h c0
    go_enter Tryd.func7, Tryd.ntmps7
    go_wp2_with (first | ((with_reducible refine gate_dst (N := 1) rfl ?_); refine box_event ?hg (N := 1) ?hd (cs := #[.int .i64 a0_0, .slice A0_1 l0_1.length c0_1]) (t := 27) ?hr ?_; (case hd => rfl); (case hg => rfl); (case hr => first | (go_simp; done) | (go_simp; rfl)); intro gb hg w3 hbox hb; have n0_ := Aside0.mk (below_step HB.out hb); have BK := Aside0.mk hbox; clear HB; have HB := n0_; clear n0_ hb hbox hg; have hcz4_0 : w3.cell? ⟨gb, 0, none⟩ = some (.int .i64 a0_0) := (blk_cell BK.out 0).trans rfl; have hcz4_1 : w3.cell? ⟨gb, 1, none⟩ = some (.slice A0_1 l0_1.length c0_1) := (blk_cell BK.out 1).trans rfl) | fail)
    refine (impl_Concepts.calls k a0_0 _ _ l0_1 l _ (Kd.C_below HR0_1.out HB.out) HC0_1.out (TabW.below HRT.out HB.out) A2.out).mono ?_
    rintro e w5 ⟨v, rfl, ho, hb⟩
    have HB2 := Aside0.mk (below_step HB.out hb)
    obtain ⟨Ao, co, rfl⟩ := Kd.R_slice ho
    clear hb ho
    go_wp2_with fail
    go_ret
    exact ⟨rfl, HB2.out⟩
  · rw [if_neg c0] at h
    have c0b0 : ((l.length : Int) == 0) = false := beq_eq_false_iff_ne.mpr c0
    by_cases hlen : l.length ≤ 1000000
    case neg => rw [if_neg hlen] at h; cases h
    rw [if_pos hlen] at h
    have HH := Aside0.mk h
    have HLEN := Aside0.mk hlen
    have hmm := @run_makeMap Tryd.prog
    clear h c0 hlen
    go_enter Tryd.func7, Tryd.ntmps7
    go_wp2_with (first | ((with_reducible refine gate_dst (N := 1) rfl ?_); refine box_event ?hg (N := 1) ?hd (cs := #[.int .i64 a0_0, .slice A0_1 l0_1.length c0_1]) (t := 27) ?hr ?_; (case hd => rfl); (case hg => rfl); (case hr => first | (go_simp; done) | (go_simp; rfl)); intro gb hg w3 hbox hb; have n0_ := Aside0.mk (below_step HB.out hb); have BK := Aside0.mk hbox; clear HB; have HB := n0_; clear n0_ hb hbox hg; have hcz4_0 : w3.cell? ⟨gb, 0, none⟩ = some (.int .i64 a0_0) := (blk_cell BK.out 0).trans rfl; have hcz4_1 : w3.cell? ⟨gb, 1, none⟩ = some (.slice A0_1 l0_1.length c0_1) := (blk_cell BK.out 1).trans rfl) | fail)
    refine (impl_Concepts.calls k a0_0 _ _ l0_1 l _ (Kd.C_below HR0_1.out HB.out) HC0_1.out (TabW.below HRT.out HB.out) A2.out).mono ?_
    rintro e w5 ⟨v, rfl, ho, hb⟩
    have HB2 := Aside0.mk (below_step HB.out hb)
    obtain ⟨Ao, co, rfl⟩ := Kd.R_slice ho
    have HO := Aside0.mk ho
    clear hb ho
    go_wp2_with fail
    refine (impl_lattice_height.memo_calls k Ao co l (Kd.R_reads' HO.out).2.1 HLEN.out w5 (Kd.R_reads' HO.out).2.2 w5.heap.size (Nat.le_refl _) (l.length + 1) _ _ _ [] HH.out (below_alloc (Below.refl _ _) _) (World.ownsMap_made _ _ _ _) (memo_nil k l)).mono ?_
    rintro e w' ⟨rfl, hg, _⟩
    have HA3 := HB2.out.alloc HB2.out.size (.map #[] 0)
    have HB3 := Aside0.mk (HA3.grown hg HA3.size (fun q hq => by cases hq; exact HB2.out.size))
    clear hg HA3
    go_wp2_with fail
    go_ret
    exact ⟨rfl, HB3.out⟩

/-! ### laws_eqIntS: function 16 -/
def laws_eqIntS.l0 : Nat → List Int → List Int → Int → Option (Bool)
  | 0, _, _, _ => none
  | k + 1, x0, x1, x5 => if x5 < (x0.length : Int) then (if 0 ≤ x5 then (if x5 < (x1.length : Int) then (if (rd x0 x5) = (rd x1 x5) then (laws_eqIntS.l0 k x0 x1 (wrap64 (x5 + 1))) else (some false)) else (none)) else (none)) else (some true)
def laws_eqIntS.f (k : Nat) (l0 : List Int) (l1 : List Int) : Option (Bool) := if (l0.length : Int) = (l1.length : Int) then (laws_eqIntS.l0 k l0 l1 0) else (some false)
theorem laws_eqIntS.mono_l : ∀ k, (∀ y0 y1 y2, LeO (laws_eqIntS.l0 k y0 y1 y2) (laws_eqIntS.l0 (k + 1) y0 y1 y2))
  | 0 => fun _ _ _ r h => by simp [laws_eqIntS.l0] at h
  | k + 1 => by
    have ih0 := laws_eqIntS.mono_l k
    · intro y0 y1 y2
      unfold laws_eqIntS.l0
      repeat' first
      | (with_reducible exact ih0 _ _ _)
      | (with_reducible exact LeO.refl _)
      | (with_reducible exact LeO.none _)
      | (with_reducible refine LeO.ite ?_ ?_)
      | (with_reducible refine LeO.bind ?_ (fun _ => ?_))
      | exact ih0 _ _ _
      | exact LeO.none _
      | refine LeO.ite ?_ ?_
      | refine LeO.bind ?_ (fun _ => ?_)
theorem laws_eqIntS.mono : ∀ a0 a1 k, LeO (laws_eqIntS.f k a0 a1) (laws_eqIntS.f (k + 1) a0 a1) := by
  intro a0 a1 k
  have ih0 := laws_eqIntS.mono_l k
  unfold laws_eqIntS.f
  repeat' first
      | (with_reducible exact ih0 _ _ _)
      | (with_reducible exact LeO.refl _)
      | (with_reducible exact LeO.none _)
      | (with_reducible refine LeO.ite ?_ ?_)
      | (with_reducible refine LeO.bind ?_ (fun _ => ?_))
      | exact ih0 _ _ _
      | exact LeO.none _
      | refine LeO.ite ?_ ?_
      | refine LeO.bind ?_ (fun _ => ?_)
set_option maxHeartbeats 8000000 in
set_option maxRecDepth 100000 in
theorem laws_eqIntS.calls (k : Nat) (A0 : Option Addr) (c0 : Nat) (l0 : List Int) (A1 : Option Addr) (c1 : Nat) (l1 : List Int) (r : Bool) (w : World) (hr0 : Kd.C (Kd.int .i64) w A0 l0.length l0) (hc0 : l0.length ≤ c0) (hr1 : Kd.C (Kd.int .i64) w A1 l1.length l1) (hc1 : l1.length ≤ c1) (h : laws_eqIntS.f k l0 l1 = some r) :
    Calls Tryd.prog 16 #[.slice A0 l0.length c0, .slice A1 l1.length c1] w fun e w' => e = .returned (.bool r) ∧ Drawn0 w w' := by
  have HR0 := Aside0.mk hr0
  have HC0 := Aside0.mk hc0
  clear hr0 hc0
  have HR1 := Aside0.mk hr1
  have HC1 := Aside0.mk hc1
  clear hr1 hc1
  have H : (if (l0.length : Int) = (l1.length : Int) then (laws_eqIntS.l0 k l0 l1 0) else (some false)) = some r := h
  clear h
  by_cases c3 : (l0.length : Int) = (l1.length : Int)
  · rw [if_pos c3] at H
    have c3b0 : ((l0.length : Int) == (l1.length : Int)) = true := beq_iff_eq.mpr c3
    have c3b1 : ((l0.length : Int) != (l1.length : Int)) = false := bne_eq_false_iff_eq.mpr c3
    have c3b2 : (l0.length == l1.length) = true := by first | simpa using c3 | (simp at c3 ⊢; omega)
    clear c3
    have H' := Aside0.mk H
    clear H
    go_enter Tryd.func16, Tryd.ntmps16
    go_wp2
    repeat (go_quiet (fail); try go_wp2)
    go_loopg [5] k (fun kq v5 w' => ∃ (x5_1 : Int), v5 = .int .i64 x5_1 ∧ Aside0 (laws_eqIntS.l0 kq l0 l1 x5_1 = some r) ∧ Aside0 (kq ≤ k) ∧ Drawn0 w w')
    case atStart => exact ⟨(0), (by first | rfl | (simp; done) | (simp [*]; done)), H', ⟨Nat.le_refl _⟩, by repeat (first | exact Drawn0.refl _ | apply Drawn0.step)⟩
    case round =>
      clear H'
      try clear c1
      try clear p2
      try clear c3
      try clear c3b0
      try clear c3b1
      try clear c3b2
      obtain ⟨x5_1, rfl, HA, HK1, ⟨m1, rfl⟩⟩ := hrel
      cases gk with
      | zero => exact absurd HA.out (by simp [laws_eqIntS.l0])
      | succ k1 =>
        have H := HA.out
        clear HA
        simp only [laws_eqIntS.l0] at H
        by_cases c4 : x5_1 < (l0.length : Int)
        · rw [if_pos c4] at H
          have c4b0 : decide (x5_1 < (l0.length : Int)) = true := decide_eq_true c4
          clear c4
          by_cases c5 : 0 ≤ x5_1
          · rw [if_pos c5] at H
            have c5b0 : decide (0 ≤ x5_1) = true := decide_eq_true c5
            clear c5
            by_cases c6 : x5_1 < (l1.length : Int)
            · rw [if_pos c6] at H
              have c6b0 : decide (x5_1 < (l1.length : Int)) = true := decide_eq_true c6
              clear c6
              by_cases c7 : (rd l0 x5_1) = (rd l1 x5_1)
              · rw [if_pos c7] at H
                have c7b0 : ((rd l0 x5_1) == (rd l1 x5_1)) = true := beq_iff_eq.mpr c7
                have c7b1 : ((rd l0 x5_1) != (rd l1 x5_1)) = false := bne_eq_false_iff_eq.mpr c7
                clear c7
                have H' := Aside0.mk H
                clear H
                have p254 : 0 ≤ (x5_1 : Int) := of_decide_eq_true (by first | (with_reducible assumption) | assumption)
                have q254 : x5_1 < (l0.length : Int) := of_decide_eq_true (by first | (with_reducible assumption) | assumption)
                obtain ⟨ad254, e254, hx254_0⟩ := Kd.at_int HR0.out x5_1 p254 q254
                cases e254
                replace p254 := eq_true p254
                replace q254 := eq_true q254
                have p255 : 0 ≤ (x5_1 : Int) := of_decide_eq_true (by first | (with_reducible assumption) | assumption)
                have q255 : x5_1 < (l1.length : Int) := of_decide_eq_true (by first | (with_reducible assumption) | assumption)
                obtain ⟨ad255, e255, hx255_0⟩ := Kd.at_int HR1.out x5_1 p255 q255
                cases e255
                replace p255 := eq_true p255
                replace q255 := eq_true q255
                go_wp2
                repeat (go_quiet (fail); try go_wp2)
                go_roundg k1
                case measure => have := HK1.out; omega
                case rel => exact ⟨(wrap64 (x5_1 + 1)), (by first | rfl | (simp; done) | (simp [*]; done)), H', ⟨by have := HK1.out; omega⟩, by repeat (first | exact Drawn0.refl _ | apply Drawn0.step)⟩
              · rw [if_neg c7] at H
                have c7b0 : ((rd l0 x5_1) == (rd l1 x5_1)) = false := beq_eq_false_iff_ne.mpr c7
                have c7b1 : ((rd l0 x5_1) != (rd l1 x5_1)) = true := bne_iff_ne.mpr c7
                obtain rfl := Option.some.inj H
                have p254 : 0 ≤ (x5_1 : Int) := of_decide_eq_true (by first | (with_reducible assumption) | assumption)
                have q254 : x5_1 < (l0.length : Int) := of_decide_eq_true (by first | (with_reducible assumption) | assumption)
                obtain ⟨ad254, e254, hx254_0⟩ := Kd.at_int HR0.out x5_1 p254 q254
                cases e254
                replace p254 := eq_true p254
                replace q254 := eq_true q254
                have p255 : 0 ≤ (x5_1 : Int) := of_decide_eq_true (by first | (with_reducible assumption) | assumption)
                have q255 : x5_1 < (l1.length : Int) := of_decide_eq_true (by first | (with_reducible assumption) | assumption)
                obtain ⟨ad255, e255, hx255_0⟩ := Kd.at_int HR1.out x5_1 p255 q255
                cases e255
                replace p255 := eq_true p255
                replace q255 := eq_true q255
                go_wp2
                repeat (go_quiet (fail); try go_wp2)
                go_ret
                exact ⟨by first | rfl | (simp; done) | (simp [*]; done), by repeat (first | exact Drawn0.refl _ | apply Drawn0.step)⟩
            · rw [if_neg c6] at H
              exact absurd H (by simp)
          · rw [if_neg c5] at H
            exact absurd H (by simp)
        · rw [if_neg c4] at H
          have c4b0 : decide (x5_1 < (l0.length : Int)) = false := decide_eq_false c4
          clear c4
          obtain rfl := Option.some.inj H
          go_wp2
          repeat (go_quiet (fail); try go_wp2)
          go_ret
          exact ⟨by first | rfl | (simp; done) | (simp [*]; done), by repeat (first | exact Drawn0.refl _ | apply Drawn0.step)⟩
  · rw [if_neg c3] at H
    have c3b0 : ((l0.length : Int) == (l1.length : Int)) = false := beq_eq_false_iff_ne.mpr c3
    have c3b1 : ((l0.length : Int) != (l1.length : Int)) = true := bne_iff_ne.mpr c3
    have c3b2 : (l0.length == l1.length) = false := by first | simpa using c3 | (simp at c3 ⊢; omega)
    obtain rfl := Option.some.inj H
    go_enter Tryd.func16, Tryd.ntmps16
    go_wp2
    repeat (go_quiet (fail); try go_wp2)
    go_ret
    exact ⟨by first | rfl | (simp; done) | (simp [*]; done), by repeat (first | exact Drawn0.refl _ | apply Drawn0.step)⟩

/-! ### laws_eqContext: function 8 -/
def laws_eqContext.f (k : Nat) (a0_0 : Int) (l0_1 : List Int) (a1_0 : Int) (l1_1 : List Int) : Option (Bool) := if a0_0 = a1_0 then ((laws_eqIntS.f k l0_1 l1_1).bind fun t258 => (if t258 = true then (some true) else (some false))) else (some false)
theorem laws_eqContext.mono : ∀ a0 a1 a2 a3 k, LeO (laws_eqContext.f k a0 a1 a2 a3) (laws_eqContext.f (k + 1) a0 a1 a2 a3) := by
  intro a0 a1 a2 a3 k
  unfold laws_eqContext.f
  repeat' first
      | (with_reducible exact laws_eqIntS.mono _ _ _)
      | (with_reducible exact LeO.refl _)
      | (with_reducible exact LeO.none _)
      | (with_reducible refine LeO.ite ?_ ?_)
      | (with_reducible refine LeO.bind ?_ (fun _ => ?_))
      | exact laws_eqIntS.mono _ _ _
      | exact LeO.none _
      | refine LeO.ite ?_ ?_
      | refine LeO.bind ?_ (fun _ => ?_)
set_option maxHeartbeats 8000000 in
set_option maxRecDepth 100000 in
theorem laws_eqContext.calls (k : Nat) (a0_0 : Int) (A0_1 : Option Addr) (c0_1 : Nat) (l0_1 : List Int) (a1_0 : Int) (A1_1 : Option Addr) (c1_1 : Nat) (l1_1 : List Int) (r : Bool) (w : World) (hr0_1 : Kd.C (Kd.int .i64) w A0_1 l0_1.length l0_1) (hc0_1 : l0_1.length ≤ c0_1) (hr1_1 : Kd.C (Kd.int .i64) w A1_1 l1_1.length l1_1) (hc1_1 : l1_1.length ≤ c1_1) (h : laws_eqContext.f k a0_0 l0_1 a1_0 l1_1 = some r) :
    Calls Tryd.prog 8 #[.agg #[.int .i64 a0_0, .slice A0_1 l0_1.length c0_1], .agg #[.int .i64 a1_0, .slice A1_1 l1_1.length c1_1]] w fun e w' => e = .returned (.bool r) ∧ Below w.heap.size w w' := by
  have hu27 := Tryd.underlying27
  have HR0_1 := Aside0.mk hr0_1
  have HC0_1 := Aside0.mk hc0_1
  clear hr0_1 hc0_1
  have HR1_1 := Aside0.mk hr1_1
  have HC1_1 := Aside0.mk hc1_1
  clear hr1_1 hc1_1
  have HB := Aside0.mk (Below.refl w.heap.size w)
  have H : (if a0_0 = a1_0 then ((laws_eqIntS.f k l0_1 l1_1).bind fun t258 => (if t258 = true then (some true) else (some false))) else (some false)) = some r := h
  clear h
  by_cases c3 : a0_0 = a1_0
  · rw [if_pos c3] at H
    have c3b0 : (a0_0 == a1_0) = true := beq_iff_eq.mpr c3
    have c3b1 : (a0_0 != a1_0) = false := bne_eq_false_iff_eq.mpr c3
    clear c3
    replace H := Option.bind_eq_some_iff.mp H
    obtain ⟨t258, A40, H⟩ := H
    replace H : (if t258 = true then (some true) else (some false)) = some r := H
    have A4 := Aside0.mk A40
    clear A40
    by_cases c5 : t258 = true
    · subst c5
      have H1 : (some true) = some r := by rw [if_pos rfl] at H; exact H
      clear H
      have H := H1
      clear H1
      obtain rfl := Option.some.inj H
      go_enter Tryd.func8, Tryd.ntmps8
      go_wp2_with (first | ((with_reducible refine gate_dst (N := 2) rfl ?_); refine box_event ?hg (N := 2) ?hd (cs := #[.int .i64 a0_0, .slice A0_1 l0_1.length c0_1]) (t := 27) ?hr ?_; (case hd => rfl); (case hg => rfl); (case hr => first | (go_simp; done) | (go_simp; rfl)); intro gb256 hg w6 hbox hb; have n0_ := Aside0.mk (below_step (by repeat (first | (with_reducible first | exact HB.out | apply below_alloc | apply pw_below_drewN | apply below_drew1) | exact HB.out)) hb); have n1_ := Aside0.mk (hbox); have n2_ := Aside0.mk ((by rw [hg]; exact (below_size (by repeat (first | (with_reducible first | exact HB.out | apply below_alloc | apply pw_below_drewN | apply below_drew1) | exact HB.out))) : w.heap.size ≤ gb256)); have n3_ := Aside0.mk ((by rw [hg]; exact (below_size (by repeat (first | (with_reducible first | exact HB.out | apply below_alloc | apply pw_below_drewN | apply below_drew1) | exact HB.out))) : w.heap.size ≤ gb256)); clear HB; have HB := n0_; have BK256 := n1_; have GW256 := n2_; have GE256 := n3_; clear n0_ n1_ n2_ n3_; clear hb hbox hg) | ((with_reducible refine gate_dst (N := 3) rfl ?_); refine box_event ?hg (N := 3) ?hd (cs := #[.int .i64 a1_0, .slice A1_1 l1_1.length c1_1]) (t := 27) ?hr ?_; (case hd => rfl); (case hg => rfl); (case hr => first | (go_simp; done) | (go_simp; rfl)); intro gb257 hg w7 hbox hb; have n0_ := Aside0.mk (blk_below (g := gb256) (o := .cells #[.int .i64 a0_0, .slice A0_1 l0_1.length c0_1] 27 (0, 0)) (by (with_reducible repeat (first | refine blk_drewN ?_ _ | refine blk_drew ?_ | refine blk_alloc ?_ _)); exact BK256.out) hb); have n1_ := Aside0.mk (below_step (by repeat (first | (with_reducible first | exact HB.out | apply below_alloc | apply pw_below_drewN | apply below_drew1 | refine below_set ?_ GE256.out) | exact HB.out)) hb); have n2_ := Aside0.mk (hbox); have n3_ := Aside0.mk ((by rw [hg]; exact (below_size (by repeat (first | (with_reducible first | exact HB.out | apply below_alloc | apply pw_below_drewN | apply below_drew1 | refine below_set ?_ GE256.out) | exact HB.out))) : w.heap.size ≤ gb257)); have n4_ := Aside0.mk ((by rw [hg]; exact (below_size (by repeat (first | (with_reducible first | exact HB.out | apply below_alloc | apply pw_below_drewN | apply below_drew1 | refine below_set ?_ GE256.out) | exact HB.out))) : w.heap.size ≤ gb257)); have n5_ := Aside0.mk ((by rw [hg]; exact Nat.ne_of_lt (blk_lt (g := gb256) (o := .cells #[.int .i64 a0_0, .slice A0_1 l0_1.length c0_1] 27 (0, 0)) (by (with_reducible repeat (first | refine blk_drewN ?_ _ | refine blk_drew ?_ | refine blk_alloc ?_ _)); exact BK256.out)) : gb256 ≠ gb257)); have n6_ := Aside0.mk ((by rw [hg]; exact Nat.ne_of_gt (blk_lt (g := gb256) (o := .cells #[.int .i64 a0_0, .slice A0_1 l0_1.length c0_1] 27 (0, 0)) (by (with_reducible repeat (first | refine blk_drewN ?_ _ | refine blk_drew ?_ | refine blk_alloc ?_ _)); exact BK256.out)) : gb257 ≠ gb256)); clear BK256; clear HB; have BK256 := n0_; have HB := n1_; have BK257 := n2_; have GW257 := n3_; have GE257 := n4_; have NB256_257 := n5_; have NB257_256 := n6_; clear n0_ n1_ n2_ n3_ n4_ n5_ n6_; clear hb hbox hg; have hnb8 := NB256_257.out; have hnc8 := NB257_256.out; have hcz9_0 : w7.cell? ⟨gb256, 0, none⟩ = some (.int .i64 a0_0) := (blk_cell BK256.out 0).trans rfl; have hcz9_1 : w7.cell? ⟨gb256, 1, none⟩ = some (.slice A0_1 l0_1.length c0_1) := (blk_cell BK256.out 1).trans rfl; have hfz9_0 := blk_frozen BK256.out 0; have hfz9_1 := blk_frozen BK256.out 1; have hcz10_0 : w7.cell? ⟨gb257, 0, none⟩ = some (.int .i64 a1_0) := (blk_cell BK257.out 0).trans rfl; have hcz10_1 : w7.cell? ⟨gb257, 1, none⟩ = some (.slice A1_1 l1_1.length c1_1) := (blk_cell BK257.out 1).trans rfl; have hfz10_0 := blk_frozen BK257.out 0; have hfz10_1 := blk_frozen BK257.out 1) | ((with_reducible refine gate_callee (f := 16) rfl ?_); refine goesL_ (some 14) rfl rfl Tryd.func16 (by kernel_rfl) rfl #[.slice A0_1 l0_1.length c0_1, .slice A1_1 l1_1.length c1_1] rfl (by (try simp only [List.map_toArray, List.map_cons, List.map_nil]); first | done | rfl | (simp only [List.length_drop, List.length_take]; rfl)) ?_; (with_reducible refine (laws_eqIntS.calls k _ _ l0_1 _ _ l1_1 true _ ?side1 ?side2 ?side3 ?side4 A4.out).mono ?_); (case side1 => repeat (first | exact (Kd.C_below HR0_1.out HB.out) | (with_reducible refine Kd.C_alloc ?_ _) | (with_reducible refine Kd.C_drewN ?_ _) | (with_reducible refine Kd.C_drew ?_))); (case side2 => exact HC0_1.out); (case side3 => repeat (first | exact (Kd.C_below HR1_1.out HB.out) | (with_reducible refine Kd.C_alloc ?_ _) | (with_reducible refine Kd.C_drewN ?_ _) | (with_reducible refine Kd.C_drew ?_))); (case side4 => exact HC1_1.out); rintro e w' ⟨rfl, ⟨nd, rfl⟩⟩; refine ⟨_, rfl, ?_⟩))
      go_ret
      exact ⟨by first | rfl | (simp [errW_none, errW_some] <;> rfl) | (simp [*, errW_none, errW_some] <;> rfl), by repeat (first | (with_reducible first | exact HB.out | apply below_alloc | apply pw_below_drewN | apply below_drew1 | refine below_set ?_ GE256.out | refine below_set ?_ GE257.out) | exact HB.out)⟩
    · replace c5 := Bool.eq_false_iff.mpr c5
      subst c5
      have H1 : (some false) = some r := by rw [if_neg (show ¬ (false = true) by decide)] at H; exact H
      clear H
      have H := H1
      clear H1
      obtain rfl := Option.some.inj H
      go_enter Tryd.func8, Tryd.ntmps8
      go_wp2_with (first | ((with_reducible refine gate_dst (N := 2) rfl ?_); refine box_event ?hg (N := 2) ?hd (cs := #[.int .i64 a0_0, .slice A0_1 l0_1.length c0_1]) (t := 27) ?hr ?_; (case hd => rfl); (case hg => rfl); (case hr => first | (go_simp; done) | (go_simp; rfl)); intro gb256 hg w11 hbox hb; have n0_ := Aside0.mk (below_step (by repeat (first | (with_reducible first | exact HB.out | apply below_alloc | apply pw_below_drewN | apply below_drew1) | exact HB.out)) hb); have n1_ := Aside0.mk (hbox); have n2_ := Aside0.mk ((by rw [hg]; exact (below_size (by repeat (first | (with_reducible first | exact HB.out | apply below_alloc | apply pw_below_drewN | apply below_drew1) | exact HB.out))) : w.heap.size ≤ gb256)); have n3_ := Aside0.mk ((by rw [hg]; exact (below_size (by repeat (first | (with_reducible first | exact HB.out | apply below_alloc | apply pw_below_drewN | apply below_drew1) | exact HB.out))) : w.heap.size ≤ gb256)); clear HB; have HB := n0_; have BK256 := n1_; have GW256 := n2_; have GE256 := n3_; clear n0_ n1_ n2_ n3_; clear hb hbox hg) | ((with_reducible refine gate_dst (N := 3) rfl ?_); refine box_event ?hg (N := 3) ?hd (cs := #[.int .i64 a1_0, .slice A1_1 l1_1.length c1_1]) (t := 27) ?hr ?_; (case hd => rfl); (case hg => rfl); (case hr => first | (go_simp; done) | (go_simp; rfl)); intro gb257 hg w12 hbox hb; have n0_ := Aside0.mk (blk_below (g := gb256) (o := .cells #[.int .i64 a0_0, .slice A0_1 l0_1.length c0_1] 27 (0, 0)) (by (with_reducible repeat (first | refine blk_drewN ?_ _ | refine blk_drew ?_ | refine blk_alloc ?_ _)); exact BK256.out) hb); have n1_ := Aside0.mk (below_step (by repeat (first | (with_reducible first | exact HB.out | apply below_alloc | apply pw_below_drewN | apply below_drew1 | refine below_set ?_ GE256.out) | exact HB.out)) hb); have n2_ := Aside0.mk (hbox); have n3_ := Aside0.mk ((by rw [hg]; exact (below_size (by repeat (first | (with_reducible first | exact HB.out | apply below_alloc | apply pw_below_drewN | apply below_drew1 | refine below_set ?_ GE256.out) | exact HB.out))) : w.heap.size ≤ gb257)); have n4_ := Aside0.mk ((by rw [hg]; exact (below_size (by repeat (first | (with_reducible first | exact HB.out | apply below_alloc | apply pw_below_drewN | apply below_drew1 | refine below_set ?_ GE256.out) | exact HB.out))) : w.heap.size ≤ gb257)); have n5_ := Aside0.mk ((by rw [hg]; exact Nat.ne_of_lt (blk_lt (g := gb256) (o := .cells #[.int .i64 a0_0, .slice A0_1 l0_1.length c0_1] 27 (0, 0)) (by (with_reducible repeat (first | refine blk_drewN ?_ _ | refine blk_drew ?_ | refine blk_alloc ?_ _)); exact BK256.out)) : gb256 ≠ gb257)); have n6_ := Aside0.mk ((by rw [hg]; exact Nat.ne_of_gt (blk_lt (g := gb256) (o := .cells #[.int .i64 a0_0, .slice A0_1 l0_1.length c0_1] 27 (0, 0)) (by (with_reducible repeat (first | refine blk_drewN ?_ _ | refine blk_drew ?_ | refine blk_alloc ?_ _)); exact BK256.out)) : gb257 ≠ gb256)); clear BK256; clear HB; have BK256 := n0_; have HB := n1_; have BK257 := n2_; have GW257 := n3_; have GE257 := n4_; have NB256_257 := n5_; have NB257_256 := n6_; clear n0_ n1_ n2_ n3_ n4_ n5_ n6_; clear hb hbox hg; have hnb13 := NB256_257.out; have hnc13 := NB257_256.out; have hcz14_0 : w12.cell? ⟨gb256, 0, none⟩ = some (.int .i64 a0_0) := (blk_cell BK256.out 0).trans rfl; have hcz14_1 : w12.cell? ⟨gb256, 1, none⟩ = some (.slice A0_1 l0_1.length c0_1) := (blk_cell BK256.out 1).trans rfl; have hfz14_0 := blk_frozen BK256.out 0; have hfz14_1 := blk_frozen BK256.out 1; have hcz15_0 : w12.cell? ⟨gb257, 0, none⟩ = some (.int .i64 a1_0) := (blk_cell BK257.out 0).trans rfl; have hcz15_1 : w12.cell? ⟨gb257, 1, none⟩ = some (.slice A1_1 l1_1.length c1_1) := (blk_cell BK257.out 1).trans rfl; have hfz15_0 := blk_frozen BK257.out 0; have hfz15_1 := blk_frozen BK257.out 1) | ((with_reducible refine gate_callee (f := 16) rfl ?_); refine goesL_ (some 14) rfl rfl Tryd.func16 (by kernel_rfl) rfl #[.slice A0_1 l0_1.length c0_1, .slice A1_1 l1_1.length c1_1] rfl (by (try simp only [List.map_toArray, List.map_cons, List.map_nil]); first | done | rfl | (simp only [List.length_drop, List.length_take]; rfl)) ?_; (with_reducible refine (laws_eqIntS.calls k _ _ l0_1 _ _ l1_1 false _ ?side1 ?side2 ?side3 ?side4 A4.out).mono ?_); (case side1 => repeat (first | exact (Kd.C_below HR0_1.out HB.out) | (with_reducible refine Kd.C_alloc ?_ _) | (with_reducible refine Kd.C_drewN ?_ _) | (with_reducible refine Kd.C_drew ?_))); (case side2 => exact HC0_1.out); (case side3 => repeat (first | exact (Kd.C_below HR1_1.out HB.out) | (with_reducible refine Kd.C_alloc ?_ _) | (with_reducible refine Kd.C_drewN ?_ _) | (with_reducible refine Kd.C_drew ?_))); (case side4 => exact HC1_1.out); rintro e w' ⟨rfl, ⟨nd, rfl⟩⟩; refine ⟨_, rfl, ?_⟩))
      go_ret
      exact ⟨by first | rfl | (simp [errW_none, errW_some] <;> rfl) | (simp [*, errW_none, errW_some] <;> rfl), by repeat (first | (with_reducible first | exact HB.out | apply below_alloc | apply pw_below_drewN | apply below_drew1 | refine below_set ?_ GE256.out | refine below_set ?_ GE257.out) | exact HB.out)⟩
  · rw [if_neg c3] at H
    have c3b0 : (a0_0 == a1_0) = false := beq_eq_false_iff_ne.mpr c3
    have c3b1 : (a0_0 != a1_0) = true := bne_iff_ne.mpr c3
    obtain rfl := Option.some.inj H
    go_enter Tryd.func8, Tryd.ntmps8
    go_wp2_with (first | ((with_reducible refine gate_dst (N := 2) rfl ?_); refine box_event ?hg (N := 2) ?hd (cs := #[.int .i64 a0_0, .slice A0_1 l0_1.length c0_1]) (t := 27) ?hr ?_; (case hd => rfl); (case hg => rfl); (case hr => first | (go_simp; done) | (go_simp; rfl)); intro gb256 hg w16 hbox hb; have n0_ := Aside0.mk (below_step (by repeat (first | (with_reducible first | exact HB.out | apply below_alloc | apply pw_below_drewN | apply below_drew1) | exact HB.out)) hb); have n1_ := Aside0.mk (hbox); have n2_ := Aside0.mk ((by rw [hg]; exact (below_size (by repeat (first | (with_reducible first | exact HB.out | apply below_alloc | apply pw_below_drewN | apply below_drew1) | exact HB.out))) : w.heap.size ≤ gb256)); have n3_ := Aside0.mk ((by rw [hg]; exact (below_size (by repeat (first | (with_reducible first | exact HB.out | apply below_alloc | apply pw_below_drewN | apply below_drew1) | exact HB.out))) : w.heap.size ≤ gb256)); clear HB; have HB := n0_; have BK256 := n1_; have GW256 := n2_; have GE256 := n3_; clear n0_ n1_ n2_ n3_; clear hb hbox hg) | ((with_reducible refine gate_dst (N := 3) rfl ?_); refine box_event ?hg (N := 3) ?hd (cs := #[.int .i64 a1_0, .slice A1_1 l1_1.length c1_1]) (t := 27) ?hr ?_; (case hd => rfl); (case hg => rfl); (case hr => first | (go_simp; done) | (go_simp; rfl)); intro gb257 hg w17 hbox hb; have n0_ := Aside0.mk (blk_below (g := gb256) (o := .cells #[.int .i64 a0_0, .slice A0_1 l0_1.length c0_1] 27 (0, 0)) (by (with_reducible repeat (first | refine blk_drewN ?_ _ | refine blk_drew ?_ | refine blk_alloc ?_ _)); exact BK256.out) hb); have n1_ := Aside0.mk (below_step (by repeat (first | (with_reducible first | exact HB.out | apply below_alloc | apply pw_below_drewN | apply below_drew1 | refine below_set ?_ GE256.out) | exact HB.out)) hb); have n2_ := Aside0.mk (hbox); have n3_ := Aside0.mk ((by rw [hg]; exact (below_size (by repeat (first | (with_reducible first | exact HB.out | apply below_alloc | apply pw_below_drewN | apply below_drew1 | refine below_set ?_ GE256.out) | exact HB.out))) : w.heap.size ≤ gb257)); have n4_ := Aside0.mk ((by rw [hg]; exact (below_size (by repeat (first | (with_reducible first | exact HB.out | apply below_alloc | apply pw_below_drewN | apply below_drew1 | refine below_set ?_ GE256.out) | exact HB.out))) : w.heap.size ≤ gb257)); have n5_ := Aside0.mk ((by rw [hg]; exact Nat.ne_of_lt (blk_lt (g := gb256) (o := .cells #[.int .i64 a0_0, .slice A0_1 l0_1.length c0_1] 27 (0, 0)) (by (with_reducible repeat (first | refine blk_drewN ?_ _ | refine blk_drew ?_ | refine blk_alloc ?_ _)); exact BK256.out)) : gb256 ≠ gb257)); have n6_ := Aside0.mk ((by rw [hg]; exact Nat.ne_of_gt (blk_lt (g := gb256) (o := .cells #[.int .i64 a0_0, .slice A0_1 l0_1.length c0_1] 27 (0, 0)) (by (with_reducible repeat (first | refine blk_drewN ?_ _ | refine blk_drew ?_ | refine blk_alloc ?_ _)); exact BK256.out)) : gb257 ≠ gb256)); clear BK256; clear HB; have BK256 := n0_; have HB := n1_; have BK257 := n2_; have GW257 := n3_; have GE257 := n4_; have NB256_257 := n5_; have NB257_256 := n6_; clear n0_ n1_ n2_ n3_ n4_ n5_ n6_; clear hb hbox hg; have hnb18 := NB256_257.out; have hnc18 := NB257_256.out; have hcz19_0 : w17.cell? ⟨gb256, 0, none⟩ = some (.int .i64 a0_0) := (blk_cell BK256.out 0).trans rfl; have hcz19_1 : w17.cell? ⟨gb256, 1, none⟩ = some (.slice A0_1 l0_1.length c0_1) := (blk_cell BK256.out 1).trans rfl; have hfz19_0 := blk_frozen BK256.out 0; have hfz19_1 := blk_frozen BK256.out 1; have hcz20_0 : w17.cell? ⟨gb257, 0, none⟩ = some (.int .i64 a1_0) := (blk_cell BK257.out 0).trans rfl; have hcz20_1 : w17.cell? ⟨gb257, 1, none⟩ = some (.slice A1_1 l1_1.length c1_1) := (blk_cell BK257.out 1).trans rfl; have hfz20_0 := blk_frozen BK257.out 0; have hfz20_1 := blk_frozen BK257.out 1))
    go_ret
    exact ⟨by first | rfl | (simp [errW_none, errW_some] <;> rfl) | (simp [*, errW_none, errW_some] <;> rfl), by repeat (first | (with_reducible first | exact HB.out | apply below_alloc | apply pw_below_drewN | apply below_drew1 | refine below_set ?_ GE256.out | refine below_set ?_ GE257.out) | exact HB.out)⟩

end Go.Proofs.YtelaihbbfgjnpaaDoor.PFnExactHeightOf
