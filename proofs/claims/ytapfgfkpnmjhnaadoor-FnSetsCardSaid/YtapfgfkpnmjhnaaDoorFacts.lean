/- Closed facts of the whole program, for the rows: each by itself, so that none is too large. -/
import Derived.Test.YtapfgfkpnmjhnaaDoorChecked
import Derived.KernelRfl
import Derived.JoinedOf
import Derived.WalkKit
import Derived.ProofKit
namespace Go.Proofs.YtapfgfkpnmjhnaaDoorFacts
open Go
theorem toList_lit {s : String} {l : List Char} (h : s = String.ofList l) : s.toList = l := by rw [h, String.toList_ofList]
set_option maxRecDepth 100000 in
theorem headIs : ∃ r, Tryd.prog.initOrder.toList = "harness d3894e8435fded6ce693b8579eaead653442a74f1f762ff62fe7daea05ea24cb cut ".toList ++ r := by
  refine ⟨List.drop 77 Tryd.prog.initOrder.toList, ?_⟩
  have h : "harness d3894e8435fded6ce693b8579eaead653442a74f1f762ff62fe7daea05ea24cb cut ".toList = List.take 77 Tryd.prog.initOrder.toList := by
    rw [toList_lit (s := Tryd.prog.initOrder) rfl, toList_lit (s := "harness d3894e8435fded6ce693b8579eaead653442a74f1f762ff62fe7daea05ea24cb cut ") rfl]
    kernel_rfl
  rw [h, List.take_append_drop]
theorem wordsAre : ∃ r, behindMainWord (wordsSigns Tryd.prog.initOrder.toList) = "cut".toList :: r := by
  obtain ⟨r, h⟩ := headIs
  refine ⟨wordsSigns r, ?_⟩
  rw [h]
  kernel_rfl
theorem make_cut (P : Program) {r : List (List Char)} (h : behindMainWord (wordsSigns P.initOrder.toList) = "cut".toList :: r) : P.make = some .cut := by
  unfold Program.make
  rw [h]
  kernel_rfl
theorem lifts_cut (P : Program) {r : List (List Char)} (h : behindMainWord (wordsSigns P.initOrder.toList) = "cut".toList :: r) : P.liftsFinal = false := by
  unfold Program.liftsFinal Program.headLifts
  rw [h]
  kernel_rfl
theorem strip_cut (r : List (List Char)) : stripLifts liftWords ("cut".toList :: r) = ([], "cut".toList :: r) := by kernel_rfl
theorem may_cut (P : Program) {r : List (List Char)} (h : behindMainWord (wordsSigns P.initOrder.toList) = "cut".toList :: r) (h1 : P.laysLater = false) (h2 : P.bearsReflect = false) (h3 : P.doorFits [] = true) : P.mayEnter = true := by
  have e0 : (("cut".toList : List Char) == "cut".toList) = true := by kernel_rfl
  have e1 : ([] : List String).contains "finals" = false := by kernel_rfl
  have e2 : ([] : List String).contains "reflectrows" = false := by kernel_rfl
  have e3 : ([] : List String).contains "leanrows" = false := by kernel_rfl
  unfold Program.mayEnter
  rw [h]
  dsimp only
  rw [strip_cut]
  have e4 : (List.head? ("cut".toList :: r) == some "cut".toList) = true := by kernel_rfl
  simp only [e1, e2, e3, e4, h1, h2, h3, Bool.not_false, Bool.or_true, Bool.and_true]
theorem may : Tryd.prog.mayEnter = true := by
  obtain ⟨r, h⟩ := wordsAre
  exact may_cut _ h (by kernel_rfl) (by kernel_rfl) (by kernel_rfl)
theorem mak : Tryd.prog.make = some .cut := by
  obtain ⟨r, h⟩ := wordsAre
  exact make_cut _ h
theorem lif : Tryd.prog.liftsFinal = false := by
  obtain ⟨r, h⟩ := wordsAre
  exact lifts_cut _ h
theorem laidOut : laidOutB Tryd.prog = true := by kernel_rfl
end Go.Proofs.YtapfgfkpnmjhnaaDoorFacts
