/- How an argument's slice of whole numbers or of strings reads, in the words of the print. -/
import Derived.Test.YtodmfdkmmpefpaaGreatDoorWMore
import Derived.ChangeSlices
import Derived.SliceStrings
import Derived.OpenShut
import Derived.Lib.SmallJoins
namespace Go.Proofs.YtodmfdkmmpefpaaGreatDoorRd
open Go.ChangeShapes Go.WideShapes Go.RowKit Go.Proofs.YtodmfdkmmpefpaaGreatDoorW.PrintWords
variable {H : Type} {enc : TypeId × Value → H} {P : Program} {w : World} {base : Nat} {spare : Nat → Bool} {held : Bool}
theorem row_one {t : TypeId} {n : Nat} {d : DataW H} {p : List MemPlace} {a : Option Addr} {l c : Nat} (h : DataW.trod enc P w base spare held n t (Value.slice a l c).cells.toList = some (d, p)) :
    DataW.trod enc P w base spare held n t [Value.slice a l c] = some (d, p) := by simpa [Value.cells] using h
theorem row_int {t : TypeId} {k : IntKind} {n : Nat} {v : Value} {y : DataW H × List MemPlace} (ht : P.underlying t = some (.int k)) (h : DataW.trod enc P w base spare held n t [v] = some y) :
    ∃ a, v = .int k a ∧ (Lit.int k a).wf = true := by
  obtain ⟨a, h1, _, hw⟩ := DataW.trod_int ht h
  simp at h1
  exact ⟨a, h1, hw⟩
theorem row_ints {k : IntKind} {t e : TypeId} {n : Nat} {v : Value} {y : DataW H × List MemPlace} (ht : P.underlying t = some (.slice e)) (he : P.underlying e = some (.int k)) (hc : P.cellsOf e = 1) (h : DataW.trod enc P w base spare held n t [v] = some y) :
    ∃ A c l, v = .slice A (List.length l) c ∧ l.length ≤ c ∧ l.length ≤ maxLen ∧ Kd.C (Kd.int k) w A l.length l ∧ ∀ x ∈ l, (Lit.int k x).wf = true := by
  have key : ∃ a len cap zs, v = .slice a len cap ∧ ((a = none ∧ len = 0 ∧ cap = 0 ∧ zs = []) ∨ ∃ x, a = some x ∧ len ≤ cap ∧ cap ≤ maxLen ∧ zs.length = (if spare x.block then cap else len) ∧ (∀ i, i < zs.length → w.cell? (x.add i) = some (.int k (zs.getD i 0))) ∧ ∀ n ∈ zs, (Lit.int k n).wf = true) := by
    rcases open_ints ht he hc h with ⟨hcs, _⟩ | ⟨x, l, c, zs, hcs, _, hl, hm, hz, _, hcell, hwz⟩
    · simp at hcs
      exact ⟨none, 0, 0, [], hcs, .inl ⟨rfl, rfl, rfl, rfl⟩⟩
    · simp at hcs
      exact ⟨some x, l, c, zs, hcs, .inr ⟨x, rfl, hl, hm, hz, hcell, hwz⟩⟩
  obtain ⟨a, len, cap, zs, rfl, hk⟩ := key
  rcases hk with ⟨rfl, rfl, rfl, rfl⟩ | ⟨x, rfl, hl, hm, hz, hcell, hwz⟩
  · exact ⟨none, 0, [], rfl, Nat.le_refl _, Nat.zero_le _, Kd.C_of_reads (d := (0 : Int)) (h1 := fun _ => rfl) (ReadsInt.nil w k), by simp⟩
  · have hlz : len ≤ zs.length := by rw [hz]; split <;> omega
    have e1 : (zs.take len).length = len := by rw [List.length_take]; omega
    refine ⟨some x, cap, zs.take len, by rw [e1], by omega, by omega, ?_, fun y hy => hwz y (List.mem_of_mem_take hy)⟩
    rw [e1]
    have hr : ReadsInt w k (some x) len (zs.take len) := by
      refine ⟨e1, by unfold maxLen at hm; omega, fun _ => ⟨x, rfl, fun j hj => ?_⟩⟩
      have := hcell j (by omega)
      rw [this]
      simp only [List.getD_eq_getElem?_getD, List.getElem?_take, hj, if_true]
    exact Kd.C_of_reads (d := (0 : Int)) (h1 := fun _ => rfl) hr
theorem row_strs {t e : TypeId} {n : Nat} {v : Value} {y : DataW H × List MemPlace} (ht : P.underlying t = some (.slice e)) (he : P.underlying e = some .string) (hc : P.cellsOf e = 1) (h : DataW.trod enc P w base spare held n t [v] = some y) :
    ∃ A c l, v = .slice A (List.length l) c ∧ l.length ≤ c ∧ l.length ≤ maxLen ∧ Kd.C Kd.string w A l.length l ∧ ∀ x ∈ l, x.size ≤ maxLen := by
  have key : ∃ a len cap zs, v = .slice a len cap ∧ ((a = none ∧ len = 0 ∧ cap = 0 ∧ zs = []) ∨ ∃ x, a = some x ∧ len ≤ cap ∧ cap ≤ maxLen ∧ zs.length = (if spare x.block then cap else len) ∧ (∀ i, i < zs.length → w.cell? (x.add i) = some (.string (zs.getD i ByteArray.empty))) ∧ ∀ n ∈ zs, n.size ≤ maxLen) := by
    rcases open_strings ht he hc h with ⟨hcs, _⟩ | ⟨x, l, c, zs, hcs, _, hl, hm, hz, _, hcell, hwz⟩
    · simp at hcs
      exact ⟨none, 0, 0, [], hcs, .inl ⟨rfl, rfl, rfl, rfl⟩⟩
    · simp at hcs
      exact ⟨some x, l, c, zs, hcs, .inr ⟨x, rfl, hl, hm, hz, hcell, hwz⟩⟩
  obtain ⟨a, len, cap, zs, rfl, hk⟩ := key
  rcases hk with ⟨rfl, rfl, rfl, rfl⟩ | ⟨x, rfl, hl, hm, hz, hcell, hwz⟩
  · exact ⟨none, 0, [], rfl, Nat.le_refl _, Nat.zero_le _, Kd.C_of_reads (enc := Value.string) (d := ByteArray.empty) (h1 := fun _ => rfl) (ReadsOf.nil Value.string ByteArray.empty w), by simp⟩
  · have hlz : len ≤ zs.length := by rw [hz]; split <;> omega
    have e1 : (zs.take len).length = len := by rw [List.length_take]; omega
    refine ⟨some x, cap, zs.take len, by rw [e1], by omega, by omega, ?_, fun y hy => hwz y (List.mem_of_mem_take hy)⟩
    rw [e1]
    have hr : ReadsOf Value.string ByteArray.empty w (some x) len (zs.take len) := by
      refine ⟨e1, by unfold maxLen at hm; omega, fun _ => ⟨x, rfl, fun j hj => ?_⟩⟩
      have := hcell j (by omega)
      rw [this]
      simp only [List.getD_eq_getElem?_getD, List.getElem?_take, hj, if_true]
    exact Kd.C_of_reads (enc := Value.string) (d := ByteArray.empty) (h1 := fun _ => rfl) hr
end Go.Proofs.YtodmfdkmmpefpaaGreatDoorRd
