/- Closed facts of the whole program, for the rows: each by itself, so that none is too large. -/
import Derived.Test.YtodmfdkmmpefpaaGreatDoorChecked
import Derived.KernelRfl
import Derived.JoinedOf
import Derived.WalkKit
import Derived.ProofKit
namespace Go.Proofs.YtodmfdkmmpefpaaGreatDoorFacts
open Go
theorem toList_lit {s : String} {l : List Char} (h : s = String.ofList l) : s.toList = l := by rw [h, String.toList_ofList]
set_option maxRecDepth 100000 in
theorem headIs : ∃ r, Tryz.prog.initOrder.toList = "harness 55f94a9c9728cb97e09c4a13844081c352072781b345543896ce8bfcc3edce77 cut ".toList ++ r := by
  refine ⟨List.drop 77 Tryz.prog.initOrder.toList, ?_⟩
  have h : "harness 55f94a9c9728cb97e09c4a13844081c352072781b345543896ce8bfcc3edce77 cut ".toList = List.take 77 Tryz.prog.initOrder.toList := by
    rw [toList_lit (s := Tryz.prog.initOrder) rfl, toList_lit (s := "harness 55f94a9c9728cb97e09c4a13844081c352072781b345543896ce8bfcc3edce77 cut ") rfl]
    kernel_rfl
  rw [h, List.take_append_drop]
theorem wordsAre : ∃ r, behindMainWord (wordsSigns Tryz.prog.initOrder.toList) = "cut".toList :: r := by
  obtain ⟨r, h⟩ := headIs
  refine ⟨wordsSigns r, ?_⟩
  rw [h]
  kernel_rfl
theorem make_cut (P : Program) {r : List (List Char)} (h : behindMainWord (wordsSigns P.initOrder.toList) = "cut".toList :: r) : P.make = some .cut := by
  unfold Program.make
  rw [h]
  kernel_rfl
theorem lifts_cut (P : Program) {r : List (List Char)} (h : behindMainWord (wordsSigns P.initOrder.toList) = "cut".toList :: r) : P.liftsFinal = false := by
  unfold Program.liftsFinal Program.headLifts
  rw [h]
  kernel_rfl
theorem strip_cut (r : List (List Char)) : stripLifts liftWords ("cut".toList :: r) = ([], "cut".toList :: r) := by kernel_rfl
theorem may_cut (P : Program) {r : List (List Char)} (h : behindMainWord (wordsSigns P.initOrder.toList) = "cut".toList :: r) (h1 : P.laysLater = false) (h2 : P.bearsReflect = false) (h3 : P.doorFits [] = true) : P.mayEnter = true := by
  have e0 : (("cut".toList : List Char) == "cut".toList) = true := by kernel_rfl
  have e1 : ([] : List String).contains "finals" = false := by kernel_rfl
  have e2 : ([] : List String).contains "reflectrows" = false := by kernel_rfl
  have e3 : ([] : List String).contains "leanrows" = false := by kernel_rfl
  unfold Program.mayEnter
  rw [h]
  dsimp only
  rw [strip_cut]
  have e4 : (List.head? ("cut".toList :: r) == some "cut".toList) = true := by kernel_rfl
  simp only [e1, e2, e3, e4, h1, h2, h3, Bool.not_false, Bool.or_true, Bool.and_true]
theorem may : Tryz.prog.mayEnter = true := by
  obtain ⟨r, h⟩ := wordsAre
  exact may_cut _ h (by kernel_rfl) (by kernel_rfl) (by kernel_rfl)
theorem mak : Tryz.prog.make = some .cut := by
  obtain ⟨r, h⟩ := wordsAre
  exact make_cut _ h
theorem lif : Tryz.prog.liftsFinal = false := by
  obtain ⟨r, h⟩ := wordsAre
  exact lifts_cut _ h
theorem laidOut : laidOutB Tryz.prog = true := by kernel_rfl
end Go.Proofs.YtodmfdkmmpefpaaGreatDoorFacts
