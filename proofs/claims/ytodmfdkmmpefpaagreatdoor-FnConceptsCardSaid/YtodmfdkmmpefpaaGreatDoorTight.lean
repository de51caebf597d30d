/- Short words for lines that the printed walks repeat: each is one plain theorem (a fact carried to a later world), its side done by a given tactic where it is always the same. -/
import Derived.Test.YtodmfdkmmpefpaaGreatDoorWWords
import Derived.Test.YtodmfdkmmpefpaaGreatDoorWMore
namespace Go.Proofs.YtodmfdkmmpefpaaGreatDoorW.PrintWords
open Go.RowKit
set_option linter.unusedVariables false
/-- The second world is the first, with blocks or orders drawn since. -/
class WR (w : outParam World) (w' : World) : Prop where
  out : Below w.heap.size w w'
instance (priority := 100) wr0 (w : World) : WR w w := ⟨Below.refl _ _⟩
instance wr1 {w w' : World} [h : WR w w'] (o : Obj) : WR w (w'.alloc o) := ⟨below_alloc h.out o⟩
instance wr2 {w w' : World} [h : WR w w'] (n : Nat) : WR w (w'.drewN n) := ⟨pw_below_drewN h.out n⟩
instance wr3 {w w' : World} [h : WR w w'] : WR w w'.drew := ⟨below_drew1 h.out⟩
section
variable {α : Type} {d : Kd α} {e : Nat} {w w' w1 W0 W : World} {base : Nat} {ok ok' : Nat → Prop} {v u : Value} {xs ys : List α} {A : Option Addr} {n g g' t : Nat} {o : Obj} {cs : Array Value} {a b x y : Value}
theorem rW [i : WR w w'] (h : d.R e w base ok v xs) : d.R e w' base ok v xs := Kd.R_below h i.out
theorem cW [i : WR w w'] (h : d.C w A n xs) : d.C w' A n xs := Kd.C_below h i.out
theorem bW [i : WR w w'] (h : Aside0 (w.heap[g]? = some o)) : w'.heap[g]? = some o := blk_below h.out i.out
/-- A row stays over a call. -/
theorem kR (h : Aside0 (d.R e w base ok v xs)) [i : WR w w'] (hb : Below w'.heap.size w' w1) : Aside0 (d.R e w1 base ok v xs) := ⟨Kd.R_below (Kd.R_below h.out i.out) hb⟩
/-- A row stays over a call that hands out a row of its own. -/
theorem kE {β : Type} {d' : Kd β} {e' : Nat} {zs : List β} {ok'' : Nat → Prop} (h : Aside0 (d.R e w base ok u xs)) [i : WR w w'] (ho : d'.R e' w1 w'.heap.size ok'' v zs) (hb : Below w'.heap.size w' w1) : Aside0 (d.R e w1 base (fun k => ok k ∧ some k ≠ v.ownBlock) u xs) := ⟨Kd.R_elder' (Kd.R_below h.out i.out) (Kd.R_base ho) hb⟩
/-- A box stays over a call. -/
theorem kB (h : Aside0 (w.heap[g]? = some o)) [i : WR w w'] (hb : Below w'.heap.size w' w1) : Aside0 (w1.heap[g]? = some o) := ⟨blk_below (blk_below h.out i.out) hb⟩
/-- A box of two cells, written. -/
theorem kP [i : WR w w'] [j : WR (w'.setCell ⟨g, 0, none⟩ a) W] (h : Aside0 (w.heap[g]? = some (.cells #[x, y] t (0, 0)))) : Aside0 ((W.setCell ⟨g, 1, none⟩ b).heap[g]? = some (.cells #[a, b] t (0, 0))) :=
  ⟨blk_put (cs := #[a, y]) (blk_below (blk_put (cs := #[x, y]) (blk_below h.out i.out) 0 a rfl) j.out) 1 b rfl⟩
/-- Another box of two cells, written. -/
theorem kF [i : WR w w'] [j : WR (w'.setCell ⟨g', 0, none⟩ a) W] (hn : Aside0 (g ≠ g')) (h : Aside0 (w.heap[g]? = some (.cells cs t (0, 0)))) : Aside0 ((W.setCell ⟨g', 1, none⟩ b).heap[g]? = some (.cells cs t (0, 0))) :=
  ⟨blk_far (blk_below (blk_far (blk_below h.out i.out) (p := ⟨g', 0, none⟩) hn.out a) j.out) (p := ⟨g', 1, none⟩) hn.out b⟩
/-- A row beside a box that is written. -/
theorem kT [j : WR (w.setCell ⟨g, 0, none⟩ a) W] (h : Aside0 (d.R e w base ok v xs)) (k : Aside0 (w.heap[g]? = some (.cells cs t (0, 0)))) (ht : ∀ q, q ∈ e :: d.E → q ≠ t := by decide) : Aside0 (d.R e (W.setCell ⟨g, 1, none⟩ b) base ok v xs) :=
  ⟨Kd.R_mono (Kd.R_far (p := ⟨g, 1, none⟩) (Kd.R_below (Kd.R_far (p := ⟨g, 0, none⟩) (Kd.R_types h.out k.out ht) (fun _ hk => hk.2) a) j.out) (fun _ hk => hk.2) b) (fun _ h => h.1)⟩
/-- A row beside two boxes that are written. -/
theorem kS {t' : Nat} {cs' : Array Value} {W1 W2 : World} {a' b' : Value} [j : WR (w.setCell ⟨g, 0, none⟩ a) W] [j1 : WR (W.setCell ⟨g, 1, none⟩ b) W1] [j2 : WR (W1.setCell ⟨g', 0, none⟩ a') W2] (h : Aside0 (d.R e w base ok v xs)) (k : Aside0 (w.heap[g]? = some (.cells cs t (0, 0)))) (k' : Aside0 (w.heap[g']? = some (.cells cs' t' (0, 0)))) (ht : ∀ q, q ∈ e :: d.E → q ≠ t := by decide) (ht' : ∀ q, q ∈ e :: d.E → q ≠ t' := by decide) : Aside0 (d.R e (W2.setCell ⟨g', 1, none⟩ b') base ok v xs) :=
  ⟨Kd.R_mono (Kd.R_far (p := ⟨g', 1, none⟩) (Kd.R_below (Kd.R_far (p := ⟨g', 0, none⟩) (Kd.R_below (Kd.R_far (p := ⟨g, 1, none⟩) (Kd.R_below (Kd.R_far (p := ⟨g, 0, none⟩) (Kd.R_types (Kd.R_types h.out k.out ht) k'.out ht') (fun _ hk => hk.1.2) a) j.out) (fun _ hk => hk.1.2) b) j1.out) (fun _ hk => hk.2) a') j2.out) (fun _ hk => hk.2) b') (fun _ h => h.1.1)⟩
/-- The same of one put. -/
theorem qP {i : Nat} {cs' : Array Value} [j : WR w w'] [j' : WR (w'.setCell ⟨g, i, none⟩ a) W] (h : Aside0 (w.heap[g]? = some (.cells cs t (0, 0)))) (e : cs.setIfInBounds i a = cs' := by rfl) : Aside0 (W.heap[g]? = some (.cells cs' t (0, 0))) :=
  ⟨blk_below (blk_put (blk_below h.out j.out) i a e) j'.out⟩
theorem qF {i : Nat} [j : WR w w'] [j' : WR (w'.setCell ⟨g', i, none⟩ a) W] (hn : Aside0 (g ≠ g')) (h : Aside0 (w.heap[g]? = some (.cells cs t (0, 0)))) : Aside0 (W.heap[g]? = some (.cells cs t (0, 0))) :=
  ⟨blk_below (blk_far (blk_below h.out j.out) (p := ⟨g', i, none⟩) hn.out a) j'.out⟩
/-- A box stays over a state's call. -/
theorem kK {row : Option Nat} (hk : KeepBut W w1 g row) (h : Aside0 (w.heap[g']? = some o)) [i : WR w W] (hn : Aside0 (g' ≠ g)) (hr : some g' ≠ row := by simp) : Aside0 (w1.heap[g']? = some o) := ⟨KeepBut.blk hk (blk_below h.out i.out) hn.out hr⟩
/-- The values that a row holds, as a call reads them. -/
theorem rC {c : Nat} [i : WR w w'] (h : Aside0 (d.R e w base ok (.slice A n c) xs)) : d.C w' A xs.length xs := (Kd.R_reads' (rW h.out)).2.2
/-- Blocks that are no value's of the list. -/
abbrev ofs : List Value → Nat → Prop
  | [], _ => True
  | [v], k => some k ≠ v.ownBlock
  | v :: u :: l, k => some k ≠ v.ownBlock ∧ ofs (u :: l) k
abbrev sl {β : Type} (A : Option Addr) (l : List β) (c : Nat) : Value := .slice A l.length c
theorem rM [i : WR w w'] (h : Aside0 (d.R e w base ok v xs)) (hm : ∀ k, ok k → ok' k := by intro _ hk; (try simp only [ofs] at hk); simp only [ofs, hk, ne_eq, not_false_eq_true, and_self]) : Aside0 (d.R e w' base ok' v xs) := ⟨Kd.R_below (Kd.R_mono h.out hm) i.out⟩
theorem kN (h : Aside0 (w.heap[g]? = some o)) [i : WR w W] (hg : g' = W.heap.size) : Aside0 (g ≠ g') := ⟨by rw [hg]; exact Nat.ne_of_lt (blk_lt (blk_below h.out i.out))⟩
theorem kM (h : Aside0 (w.heap[g]? = some o)) [i : WR w W] (hg : g' = W.heap.size) : Aside0 (g' ≠ g) := ⟨by rw [hg]; exact Nat.ne_of_gt (blk_lt (blk_below h.out i.out))⟩
end
/-- 'HB' and what was drawn or put into boxes since. -/
theorem hB_ {p : Prop} (h : p := by repeat (first | (with_reducible first | exact HB.out | apply below_alloc | apply pw_below_drewN | apply below_drew1 | refine below_set ?_ (Aside0.out (by assumption))) | exact HB.out)) : p := h
theorem kH {w W0 W w2 : World} (h0 : Aside0 (Below w.heap.size w W0)) (hb : Below W.heap.size W w2) (h : Below w.heap.size w W := by repeat (first | (with_reducible first | exact HB.out | apply below_alloc | apply pw_below_drewN | apply below_drew1 | refine below_set ?_ (Aside0.out (by assumption))) | exact HB.out)) : Aside0 (Below w.heap.size w w2) := ⟨below_step h hb⟩
theorem kG {w W0 W : World} {g : Nat} (h0 : Aside0 (Below w.heap.size w W0)) (hg : g = W.heap.size) (h : Below w.heap.size w W := by repeat (first | (with_reducible first | exact HB.out | apply below_alloc | apply pw_below_drewN | apply below_drew1 | refine below_set ?_ (Aside0.out (by assumption))) | exact HB.out)) : Aside0 (w.heap.size ≤ g) := ⟨by rw [hg]; exact below_size h⟩
theorem hK_ {p : Prop} (h : p := by repeat (first | (with_reducible first | exact HK.out | apply KeepBut.set_ | apply keep_drewN | apply keep_drew | apply keep_alloc | refine keep_far ?_ (Aside0.out (by assumption)) _) | exact HK.out)) : p := h
theorem kW {w W0 W : World} {g g' : Nat} {row0 : Option Nat} (h0 : Aside0 (KeepBut w W0 g row0)) (hg : g' = W.heap.size) (h : KeepBut w W g none := by repeat (first | (with_reducible first | exact HK.out | apply KeepBut.set_ | apply keep_drewN | apply keep_drew | apply keep_alloc | refine keep_far ?_ (Aside0.out (by assumption)) _) | exact HK.out)) : Aside0 (w.heap.size ≤ g') := ⟨by rw [hg]; exact keep_size h⟩
theorem kJ {w W0 W w2 : World} {g : Nat} {row : Option Nat} (h0 : Aside0 (KeepBut w W0 g row)) (hk : KeepBut W w2 g row) (h : KeepBut w W g row := by repeat (first | (with_reducible first | exact HK.out | apply KeepBut.set_ | apply keep_drewN | apply keep_drew | apply keep_alloc | refine keep_far ?_ (Aside0.out (by assumption)) _) | exact HK.out)) : Aside0 (KeepBut w w2 g row) := ⟨KeepBut.trans h hk (.inl rfl)⟩
theorem kX {x y z : Nat} (a : Aside0 (x ≤ y)) (b : Aside0 (y ≤ z)) : Aside0 (x ≤ z) := ⟨Nat.le_trans a.out b.out⟩
/-- Which operations are through, as the bits of a number. -/
def nl : Nat → Nat → List Bool
  | 0, _ => []
  | n + 1, m => (m % 2 == 1) :: nl n (m / 2)
abbrev nb (n m : Nat) : Array Bool := ⟨nl n m⟩
theorem hC63_ {p : Prop} (h : p := by repeat (first | (with_reducible first | exact HB.out | apply below_alloc | apply pw_below_drewN | apply below_drew1 | refine below_set ?_ (IsS63.ge (Aside0.out (by assumption))) | refine below_set ?_ (Aside0.out (by assumption))) | exact HB.out)) : p := h
theorem hI63_HI0 {p : Prop} (h : p := by repeat (first | (with_reducible first | exact HI0.out | apply IsS63.alloc | apply IsS63.drewN | apply IsS63.drew | apply IsS63.set_1 | apply IsS63.set_2 | refine IsS63.far ?_ (Aside0.out (by assumption)) _) | exact HI0.out)) : p := h
theorem hI63_HI205 {p : Prop} (h : p := by repeat (first | (with_reducible first | exact HI205.out | apply IsS63.alloc | apply IsS63.drewN | apply IsS63.drew | apply IsS63.set_1 | apply IsS63.set_2 | refine IsS63.far ?_ (Aside0.out (by assumption)) _) | exact HI205.out)) : p := h
theorem hI63_HI329 {p : Prop} (h : p := by repeat (first | (with_reducible first | exact HI329.out | apply IsS63.alloc | apply IsS63.drewN | apply IsS63.drew | apply IsS63.set_1 | apply IsS63.set_2 | refine IsS63.far ?_ (Aside0.out (by assumption)) _) | exact HI329.out)) : p := h
theorem hI63_HI357 {p : Prop} (h : p := by repeat (first | (with_reducible first | exact HI357.out | apply IsS63.alloc | apply IsS63.drewN | apply IsS63.drew | apply IsS63.set_1 | apply IsS63.set_2 | refine IsS63.far ?_ (Aside0.out (by assumption)) _) | exact HI357.out)) : p := h
theorem hI63_HI422 {p : Prop} (h : p := by repeat (first | (with_reducible first | exact HI422.out | apply IsS63.alloc | apply IsS63.drewN | apply IsS63.drew | apply IsS63.set_1 | apply IsS63.set_2 | refine IsS63.far ?_ (Aside0.out (by assumption)) _) | exact HI422.out)) : p := h
theorem hI63_HI475 {p : Prop} (h : p := by repeat (first | (with_reducible first | exact HI475.out | apply IsS63.alloc | apply IsS63.drewN | apply IsS63.drew | apply IsS63.set_1 | apply IsS63.set_2 | refine IsS63.far ?_ (Aside0.out (by assumption)) _) | exact HI475.out)) : p := h
theorem hT_ {p : Prop} (h : p := by first | exact HRT.out | (repeat (first | exact HRT.out | exact (TabW.below HRT.out HB.out) | (with_reducible refine TabW.alloc ?_ _) | (with_reducible refine TabW.drewN ?_ _) | (with_reducible refine TabW.drew ?_))); done | exact (TabW.below HRT.out hB_)) : p := h
/-- What a call answers. -/
theorem eR_ {p : Prop} (h : p := by first | rfl | (simp [errW_none, errW_some] <;> rfl) | (simp [*, errW_none, errW_some] <;> rfl)) : p := h
/-- A call's arguments. -/
theorem gL_ {p : Prop} (h : p := by (try simp only [List.map_toArray, List.map_cons, List.map_nil]); first | done | rfl | (simp only [List.length_drop, List.length_take]; rfl)) : p := h
theorem ifT {α : Type} {a b r : α} [Decidable (true = true)] (h : (if true = true then a else b) = r) : a = r := by rw [if_pos rfl] at h; exact h
theorem ifF {α : Type} {a b r : α} [Decidable (false = true)] (h : (if false = true then a else b) = r) : b = r := by rw [if_neg Bool.false_ne_true] at h; exact h
theorem aB {α β : Type} {x : Option α} {f : α → Option β} {b : β} (h : x.bind f = some b) : ∃ a, Aside0 (x = some a) ∧ f a = some b := by
  obtain ⟨a, h1, h2⟩ := Option.bind_eq_some_iff.mp h
  exact ⟨a, ⟨h1⟩, h2⟩
/-- What a comparison that answers tells. -/
theorem neT {α : Type} [BEq α] [LawfulBEq α] [DecidableEq α] {x y : α} (h : (x != y) = true) : (x != y) = true ∧ decide (x = y) = false ∧ (x == y) = false ∧ ¬ x = y := by
  have h1 : ¬ x = y := by simpa using h
  exact ⟨h, by simpa using h1, by simpa using h1, h1⟩
theorem neF {α : Type} [BEq α] [LawfulBEq α] [DecidableEq α] {x y : α} (h : ¬ (x != y) = true) : (x != y) = false ∧ decide (x = y) = true ∧ (x == y) = true := by
  have h1 : x = y := by simpa using h
  subst h1; simp
end Go.Proofs.YtodmfdkmmpefpaaGreatDoorW.PrintWords
