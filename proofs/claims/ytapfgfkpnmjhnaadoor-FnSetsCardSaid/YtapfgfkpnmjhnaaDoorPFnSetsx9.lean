-- Written by a program of this session (wip/myprint.py), which runs the kit's print with contracts proved by hand; not the kit's own print. Lean checks it.
import Derived.Test.YtapfgfkpnmjhnaaDoorPFnSetsx0
import Derived.Test.YtapfgfkpnmjhnaaDoorPFnSetsx1
import Derived.Test.YtapfgfkpnmjhnaaDoorPFnSetsx2
import Derived.Test.YtapfgfkpnmjhnaaDoorPFnSetsx3
import Derived.Test.YtapfgfkpnmjhnaaDoorPFnSetsx4
import Derived.Test.YtapfgfkpnmjhnaaDoorPFnSetsx6
import Derived.Test.YtapfgfkpnmjhnaaDoorPFnSetsx7
import Derived.Test.YtapfgfkpnmjhnaaDoorPFnSetsx8
namespace Go.Proofs.YtapfgfkpnmjhnaaDoor.PFnSets
open Go.RowKit Go.Proofs.YtapfgfkpnmjhnaaDoorW.PrintWords Go.Proofs.YtapfgfkpnmjhnaaDoorW.PrintLast Go.Proofs.YtapfgfkpnmjhnaaDoorW.PrintMore
attribute [local go_sem] max2_int min2_int max_two min_two max_three min_three max_four min_four   -- for this text's walks alone
set_option linter.unusedVariables false
set_option linter.unusedSimpArgs false

/-! ### laws_FnSets: function 4 -/
mutual
def laws_FnSets.j0 : Nat → List Int → Int → Int → Int → Bool → Option (Bool)
  | 0, _, _, _, _, _ => none
  | k + 1, x0, x3, x9, x10, x115 => if x115 = true then (some false) else ((spec_IsSet.f 8 x9).bind fun t431 => (if t431 = true then ((spec_IsSet.f 8 x10).bind fun t432 => (if t432 = true then (if x9 = x10 then (laws_FnSets.j1 k x0 x3 false) else ((impl_BeforeSet.f k x9 x10).bind fun t433 => ((impl_BeforeSet.f k x10 x9).bind fun t434 => (if (t433 == t434) = true then (laws_FnSets.j1 k x0 x3 true) else ((impl_IsSubset.f x9 x10).bind fun t435 => (if t435 = true then ((impl_BeforeSet.f k x9 x10).bind fun t436 => (laws_FnSets.j1 k x0 x3 (!t436))) else (laws_FnSets.j1 k x0 x3 false))))))) else (laws_FnSets.j1 k x0 x3 false))) else (laws_FnSets.j1 k x0 x3 false)))
def laws_FnSets.j1 : Nat → List Int → Int → Bool → Option (Bool)
  | 0, _, _, _ => none
  | k + 1, x0, x3, x146 => if x146 = true then (some false) else ((impl_SetText.f k x3).bind fun t437 => ((impl_ParseSet.f k t437).bind fun bt438 => ((spec_DrawParseSet.f k x0).bind fun t440 => ((impl_ParseSet.f k t440).bind fun bt441 => ((spec_ParseSet.f k t440).bind fun bt443 => ((spec_SetText.f k x3).bind fun t445 => (if t437.toList = t445.toList then (if (bt438.2 == (t437.toList != ([] : List UInt8))) = true then (if bt438.2 = true then (if bt438.1 = x3 then (if (bt441.2 == bt443.2) = true then (some (bt441.1 == bt443.1)) else (some false)) else (some false)) else (if (bt441.2 == bt443.2) = true then (some (bt441.1 == bt443.1)) else (some false))) else (some false)) else (some false))))))))
end
def laws_FnSets.f (k : Nat) (l0 : List Int) : Option (Bool) := (laws_big.f l0).bind fun t392 => (if t392 = true then (some true) else ((spec_DrawElementsOf.f k l0).bind fun t393 => ((spec_DrawHasElement.f k l0).bind fun bt394 => ((spec_DrawIsSet.f k l0).bind fun bt396 => ((spec_DrawFullSet.f k l0).bind fun t398 => ((spec_DrawBeforeSet.f k l0).bind fun bt399 => ((spec_DrawSortLectic.f k l0).bind fun t401 => ((impl_ElementsOf.f k t393).bind fun t404 => ((spec_ElementsOf.f k t393).bind fun t407 => ((laws_sameInts.f k t404 t407).bind fun t410 => (if t410 = true then ((impl_CountOf.f t393).bind fun t411 => (if t411 = (t404.length : Int) then ((impl_HasElement.f bt394.1 bt394.2).bind fun t412 => ((spec_HasElement.f bt394.1 bt394.2).bind fun t413 => (if (t412 != t413) = true then (laws_FnSets.j0 k l0 t393 bt399.1 bt399.2 true) else ((impl_IsSet.f bt396.1 bt396.2).bind fun t414 => ((spec_IsSet.f bt396.1 bt396.2).bind fun t415 => (if (t414 != t415) = true then (laws_FnSets.j0 k l0 t393 bt399.1 bt399.2 true) else ((impl_FullSet.f t398).bind fun t416 => ((spec_FullSet.f t398).bind fun t417 => (if t416 = t417 then ((impl_IsSubset.f bt399.1 bt399.2).bind fun t418 => ((spec_IsSubset.f bt399.1 bt399.2).bind fun t419 => (if (t418 != t419) = true then (laws_FnSets.j0 k l0 t393 bt399.1 bt399.2 true) else ((impl_BeforeSet.f k bt399.1 bt399.2).bind fun t420 => ((spec_BeforeSet.f bt399.1 bt399.2).bind fun t421 => (if (t420 != t421) = true then (laws_FnSets.j0 k l0 t393 bt399.1 bt399.2 true) else ((impl_SortLectic.f t401).bind fun t422 => ((spec_SortLectic.f k t401).bind fun t425 => ((laws_sameInts.f k t422 t425).bind fun t428 => (if t428 = true then ((impl_SetsText.f k t401).bind fun t429 => ((spec_SetsText.f k t401).bind fun t430 => (laws_FnSets.j0 k l0 t393 bt399.1 bt399.2 (t429.toList != t430.toList)))) else (laws_FnSets.j0 k l0 t393 bt399.1 bt399.2 true))))))))))) else (laws_FnSets.j0 k l0 t393 bt399.1 bt399.2 true)))))))))) else (laws_FnSets.j0 k l0 t393 bt399.1 bt399.2 true))) else (laws_FnSets.j0 k l0 t393 bt399.1 bt399.2 true))))))))))))
theorem laws_FnSets.mono_l : ∀ k, (∀ y0 y1 y2 y3 y4, LeO (laws_FnSets.j0 k y0 y1 y2 y3 y4) (laws_FnSets.j0 (k + 1) y0 y1 y2 y3 y4)) ∧ (∀ y0 y1 y2, LeO (laws_FnSets.j1 k y0 y1 y2) (laws_FnSets.j1 (k + 1) y0 y1 y2))
  | 0 => ⟨fun _ _ _ _ _ r h => by simp [laws_FnSets.j0] at h, fun _ _ _ r h => by simp [laws_FnSets.j1] at h⟩
  | k + 1 => by
    obtain ⟨ih0, ih1⟩ := laws_FnSets.mono_l k
    refine ⟨?_, ?_⟩
    · intro y0 y1 y2 y3 y4
      unfold laws_FnSets.j0
      repeat' first
      | (with_reducible exact ih0 _ _ _ _ _)
      | (with_reducible exact ih1 _ _ _)
      | (with_reducible exact impl_BeforeSet.mono _ _ _)
      | (with_reducible exact impl_ElementsOf.mono _ _)
      | (with_reducible exact impl_ParseSet.mono _ _)
      | (with_reducible exact impl_SetText.mono _ _)
      | (with_reducible exact impl_SetsText.mono _ _)
      | (with_reducible exact laws_sameInts.mono _ _ _)
      | (with_reducible exact spec_DrawBeforeSet.mono _ _)
      | (with_reducible exact spec_DrawElementsOf.mono _ _)
      | (with_reducible exact spec_DrawFullSet.mono _ _)
      | (with_reducible exact spec_DrawHasElement.mono _ _)
      | (with_reducible exact spec_DrawIsSet.mono _ _)
      | (with_reducible exact spec_DrawParseSet.mono _ _)
      | (with_reducible exact spec_DrawSortLectic.mono _ _)
      | (with_reducible exact spec_ElementsOf.mono _ _)
      | (with_reducible exact spec_ParseSet.mono _ _)
      | (with_reducible exact spec_SetText.mono _ _)
      | (with_reducible exact spec_SetsText.mono _ _)
      | (with_reducible exact spec_SortLectic.mono _ _)
      | (with_reducible exact LeO.refl _)
      | (with_reducible exact LeO.none _)
      | (with_reducible refine LeO.ite ?_ ?_)
      | (with_reducible refine LeO.bind ?_ (fun _ => ?_))
      | exact ih0 _ _ _ _ _
      | exact ih1 _ _ _
      | exact impl_BeforeSet.mono _ _ _
      | exact impl_ElementsOf.mono _ _
      | exact impl_ParseSet.mono _ _
      | exact impl_SetText.mono _ _
      | exact impl_SetsText.mono _ _
      | exact laws_sameInts.mono _ _ _
      | exact spec_DrawBeforeSet.mono _ _
      | exact spec_DrawElementsOf.mono _ _
      | exact spec_DrawFullSet.mono _ _
      | exact spec_DrawHasElement.mono _ _
      | exact spec_DrawIsSet.mono _ _
      | exact spec_DrawParseSet.mono _ _
      | exact spec_DrawSortLectic.mono _ _
      | exact spec_ElementsOf.mono _ _
      | exact spec_ParseSet.mono _ _
      | exact spec_SetText.mono _ _
      | exact spec_SetsText.mono _ _
      | exact spec_SortLectic.mono _ _
      | exact LeO.none _
      | refine LeO.ite ?_ ?_
      | refine LeO.bind ?_ (fun _ => ?_)
    · intro y0 y1 y2
      unfold laws_FnSets.j1
      repeat' first
      | (with_reducible exact ih0 _ _ _ _ _)
      | (with_reducible exact ih1 _ _ _)
      | (with_reducible exact impl_BeforeSet.mono _ _ _)
      | (with_reducible exact impl_ElementsOf.mono _ _)
      | (with_reducible exact impl_ParseSet.mono _ _)
      | (with_reducible exact impl_SetText.mono _ _)
      | (with_reducible exact impl_SetsText.mono _ _)
      | (with_reducible exact laws_sameInts.mono _ _ _)
      | (with_reducible exact spec_DrawBeforeSet.mono _ _)
      | (with_reducible exact spec_DrawElementsOf.mono _ _)
      | (with_reducible exact spec_DrawFullSet.mono _ _)
      | (with_reducible exact spec_DrawHasElement.mono _ _)
      | (with_reducible exact spec_DrawIsSet.mono _ _)
      | (with_reducible exact spec_DrawParseSet.mono _ _)
      | (with_reducible exact spec_DrawSortLectic.mono _ _)
      | (with_reducible exact spec_ElementsOf.mono _ _)
      | (with_reducible exact spec_ParseSet.mono _ _)
      | (with_reducible exact spec_SetText.mono _ _)
      | (with_reducible exact spec_SetsText.mono _ _)
      | (with_reducible exact spec_SortLectic.mono _ _)
      | (with_reducible exact LeO.refl _)
      | (with_reducible exact LeO.none _)
      | (with_reducible refine LeO.ite ?_ ?_)
      | (with_reducible refine LeO.bind ?_ (fun _ => ?_))
      | exact ih0 _ _ _ _ _
      | exact ih1 _ _ _
      | exact impl_BeforeSet.mono _ _ _
      | exact impl_ElementsOf.mono _ _
      | exact impl_ParseSet.mono _ _
      | exact impl_SetText.mono _ _
      | exact impl_SetsText.mono _ _
      | exact laws_sameInts.mono _ _ _
      | exact spec_DrawBeforeSet.mono _ _
      | exact spec_DrawElementsOf.mono _ _
      | exact spec_DrawFullSet.mono _ _
      | exact spec_DrawHasElement.mono _ _
      | exact spec_DrawIsSet.mono _ _
      | exact spec_DrawParseSet.mono _ _
      | exact spec_DrawSortLectic.mono _ _
      | exact spec_ElementsOf.mono _ _
      | exact spec_ParseSet.mono _ _
      | exact spec_SetText.mono _ _
      | exact spec_SetsText.mono _ _
      | exact spec_SortLectic.mono _ _
      | exact LeO.none _
      | refine LeO.ite ?_ ?_
      | refine LeO.bind ?_ (fun _ => ?_)
theorem laws_FnSets.mono : ∀ a0 k, LeO (laws_FnSets.f k a0) (laws_FnSets.f (k + 1) a0) := by
  intro a0 k
  obtain ⟨ih0, ih1⟩ := laws_FnSets.mono_l k
  unfold laws_FnSets.f
  repeat' first
      | (with_reducible exact ih0 _ _ _ _ _)
      | (with_reducible exact ih1 _ _ _)
      | (with_reducible exact impl_BeforeSet.mono _ _ _)
      | (with_reducible exact impl_ElementsOf.mono _ _)
      | (with_reducible exact impl_ParseSet.mono _ _)
      | (with_reducible exact impl_SetText.mono _ _)
      | (with_reducible exact impl_SetsText.mono _ _)
      | (with_reducible exact laws_sameInts.mono _ _ _)
      | (with_reducible exact spec_DrawBeforeSet.mono _ _)
      | (with_reducible exact spec_DrawElementsOf.mono _ _)
      | (with_reducible exact spec_DrawFullSet.mono _ _)
      | (with_reducible exact spec_DrawHasElement.mono _ _)
      | (with_reducible exact spec_DrawIsSet.mono _ _)
      | (with_reducible exact spec_DrawParseSet.mono _ _)
      | (with_reducible exact spec_DrawSortLectic.mono _ _)
      | (with_reducible exact spec_ElementsOf.mono _ _)
      | (with_reducible exact spec_ParseSet.mono _ _)
      | (with_reducible exact spec_SetText.mono _ _)
      | (with_reducible exact spec_SetsText.mono _ _)
      | (with_reducible exact spec_SortLectic.mono _ _)
      | (with_reducible exact LeO.refl _)
      | (with_reducible exact LeO.none _)
      | (with_reducible refine LeO.ite ?_ ?_)
      | (with_reducible refine LeO.bind ?_ (fun _ => ?_))
      | exact ih0 _ _ _ _ _
      | exact ih1 _ _ _
      | exact impl_BeforeSet.mono _ _ _
      | exact impl_ElementsOf.mono _ _
      | exact impl_ParseSet.mono _ _
      | exact impl_SetText.mono _ _
      | exact impl_SetsText.mono _ _
      | exact laws_sameInts.mono _ _ _
      | exact spec_DrawBeforeSet.mono _ _
      | exact spec_DrawElementsOf.mono _ _
      | exact spec_DrawFullSet.mono _ _
      | exact spec_DrawHasElement.mono _ _
      | exact spec_DrawIsSet.mono _ _
      | exact spec_DrawParseSet.mono _ _
      | exact spec_DrawSortLectic.mono _ _
      | exact spec_ElementsOf.mono _ _
      | exact spec_ParseSet.mono _ _
      | exact spec_SetText.mono _ _
      | exact spec_SetsText.mono _ _
      | exact spec_SortLectic.mono _ _
      | exact LeO.none _
      | refine LeO.ite ?_ ?_
      | refine LeO.bind ?_ (fun _ => ?_)
theorem laws_FnSets.j0_dead (k : Nat) (a0_ : List Int) (a1_ : Int) (a2_ : Int) (a3_ : Int) (h : laws_FnSets.j0 k a0_ a1_ a2_ a3_ true = some true) : False := by cases k <;> simp [laws_FnSets.j0] at h
theorem laws_FnSets.j1_dead (k : Nat) (a0_ : List Int) (a1_ : Int) (h : laws_FnSets.j1 k a0_ a1_ true = some true) : False := by cases k <;> simp [laws_FnSets.j1] at h
set_option maxHeartbeats 8000000 in
set_option maxRecDepth 100000 in
theorem laws_FnSets.calls (k : Nat) (A0 : Option Addr) (c0 : Nat) (l0 : List Int) (r : Bool) (w : World) (hr0 : Kd.C (Kd.int .u8) w A0 l0.length l0) (hc0 : l0.length ≤ c0) (hr_ : r = true) (hrT : TabW w) (h : laws_FnSets.f k l0 = some r) :
    Calls Tryd.prog 4 #[.slice A0 l0.length c0] w fun e w' => e = .returned (.bool r) ∧ Below w.heap.size w w' := by
  have HRT := Aside0.mk hrT
  clear hrT
  have HRR := Aside0.mk hr_
  clear hr_
  have HR0 := Aside0.mk hr0
  have HC0 := Aside0.mk hc0
  clear hr0 hc0
  have HB := Aside0.mk (Below.refl w.heap.size w)
  have H : ((laws_big.f l0).bind fun t392 => (if t392 = true then (some true) else ((spec_DrawElementsOf.f k l0).bind fun t393 => ((spec_DrawHasElement.f k l0).bind fun bt394 => ((spec_DrawIsSet.f k l0).bind fun bt396 => ((spec_DrawFullSet.f k l0).bind fun t398 => ((spec_DrawBeforeSet.f k l0).bind fun bt399 => ((spec_DrawSortLectic.f k l0).bind fun t401 => ((impl_ElementsOf.f k t393).bind fun t404 => ((spec_ElementsOf.f k t393).bind fun t407 => ((laws_sameInts.f k t404 t407).bind fun t410 => (if t410 = true then ((impl_CountOf.f t393).bind fun t411 => (if t411 = (t404.length : Int) then ((impl_HasElement.f bt394.1 bt394.2).bind fun t412 => ((spec_HasElement.f bt394.1 bt394.2).bind fun t413 => (if (t412 != t413) = true then (laws_FnSets.j0 k l0 t393 bt399.1 bt399.2 true) else ((impl_IsSet.f bt396.1 bt396.2).bind fun t414 => ((spec_IsSet.f bt396.1 bt396.2).bind fun t415 => (if (t414 != t415) = true then (laws_FnSets.j0 k l0 t393 bt399.1 bt399.2 true) else ((impl_FullSet.f t398).bind fun t416 => ((spec_FullSet.f t398).bind fun t417 => (if t416 = t417 then ((impl_IsSubset.f bt399.1 bt399.2).bind fun t418 => ((spec_IsSubset.f bt399.1 bt399.2).bind fun t419 => (if (t418 != t419) = true then (laws_FnSets.j0 k l0 t393 bt399.1 bt399.2 true) else ((impl_BeforeSet.f k bt399.1 bt399.2).bind fun t420 => ((spec_BeforeSet.f bt399.1 bt399.2).bind fun t421 => (if (t420 != t421) = true then (laws_FnSets.j0 k l0 t393 bt399.1 bt399.2 true) else ((impl_SortLectic.f t401).bind fun t422 => ((spec_SortLectic.f k t401).bind fun t425 => ((laws_sameInts.f k t422 t425).bind fun t428 => (if t428 = true then ((impl_SetsText.f k t401).bind fun t429 => ((spec_SetsText.f k t401).bind fun t430 => (laws_FnSets.j0 k l0 t393 bt399.1 bt399.2 (t429.toList != t430.toList)))) else (laws_FnSets.j0 k l0 t393 bt399.1 bt399.2 true))))))))))) else (laws_FnSets.j0 k l0 t393 bt399.1 bt399.2 true)))))))))) else (laws_FnSets.j0 k l0 t393 bt399.1 bt399.2 true))) else (laws_FnSets.j0 k l0 t393 bt399.1 bt399.2 true))))))))))))) = some r := h
  clear h
  replace H := Option.bind_eq_some_iff.mp H
  obtain ⟨t392, A20, H⟩ := H
  replace H : (if t392 = true then (some true) else ((spec_DrawElementsOf.f k l0).bind fun t393 => ((spec_DrawHasElement.f k l0).bind fun bt394 => ((spec_DrawIsSet.f k l0).bind fun bt396 => ((spec_DrawFullSet.f k l0).bind fun t398 => ((spec_DrawBeforeSet.f k l0).bind fun bt399 => ((spec_DrawSortLectic.f k l0).bind fun t401 => ((impl_ElementsOf.f k t393).bind fun t404 => ((spec_ElementsOf.f k t393).bind fun t407 => ((laws_sameInts.f k t404 t407).bind fun t410 => (if t410 = true then ((impl_CountOf.f t393).bind fun t411 => (if t411 = (t404.length : Int) then ((impl_HasElement.f bt394.1 bt394.2).bind fun t412 => ((spec_HasElement.f bt394.1 bt394.2).bind fun t413 => (if (t412 != t413) = true then (laws_FnSets.j0 k l0 t393 bt399.1 bt399.2 true) else ((impl_IsSet.f bt396.1 bt396.2).bind fun t414 => ((spec_IsSet.f bt396.1 bt396.2).bind fun t415 => (if (t414 != t415) = true then (laws_FnSets.j0 k l0 t393 bt399.1 bt399.2 true) else ((impl_FullSet.f t398).bind fun t416 => ((spec_FullSet.f t398).bind fun t417 => (if t416 = t417 then ((impl_IsSubset.f bt399.1 bt399.2).bind fun t418 => ((spec_IsSubset.f bt399.1 bt399.2).bind fun t419 => (if (t418 != t419) = true then (laws_FnSets.j0 k l0 t393 bt399.1 bt399.2 true) else ((impl_BeforeSet.f k bt399.1 bt399.2).bind fun t420 => ((spec_BeforeSet.f bt399.1 bt399.2).bind fun t421 => (if (t420 != t421) = true then (laws_FnSets.j0 k l0 t393 bt399.1 bt399.2 true) else ((impl_SortLectic.f t401).bind fun t422 => ((spec_SortLectic.f k t401).bind fun t425 => ((laws_sameInts.f k t422 t425).bind fun t428 => (if t428 = true then ((impl_SetsText.f k t401).bind fun t429 => ((spec_SetsText.f k t401).bind fun t430 => (laws_FnSets.j0 k l0 t393 bt399.1 bt399.2 (t429.toList != t430.toList)))) else (laws_FnSets.j0 k l0 t393 bt399.1 bt399.2 true))))))))))) else (laws_FnSets.j0 k l0 t393 bt399.1 bt399.2 true)))))))))) else (laws_FnSets.j0 k l0 t393 bt399.1 bt399.2 true))) else (laws_FnSets.j0 k l0 t393 bt399.1 bt399.2 true)))))))))))) = some r := H
  have A2 := Aside0.mk A20
  clear A20
  by_cases c3 : t392 = true
  · subst c3
    have H1 : (some true) = some r := by rw [if_pos rfl] at H; exact H
    clear H
    have H := H1
    clear H1
    obtain rfl := Option.some.inj H
    go_enter Tryd.func4, Tryd.ntmps4
    go_wp2_with (first | ((with_reducible refine gate_callee (f := 11) rfl ?_); refine goesL_ (some 22) rfl rfl Tryd.func11 (by kernel_rfl) rfl #[.slice A0 l0.length c0] rfl (by (try simp only [List.map_toArray, List.map_cons, List.map_nil]); first | done | rfl | (simp only [List.length_drop, List.length_take]; rfl)) ?_; (with_reducible refine (laws_big.calls _ _ l0 true _ ?side1 ?side2 A2.out).mono ?_); (case side1 => repeat (first | exact HR0.out | (with_reducible refine Kd.C_alloc ?_ _) | (with_reducible refine Kd.C_drewN ?_ _) | (with_reducible refine Kd.C_drew ?_))); (case side2 => exact HC0.out); rintro e w' ⟨rfl, ⟨nd, rfl⟩⟩; refine ⟨_, rfl, ?_⟩) | (go_at_call 11; (with_reducible refine (laws_big.calls _ _ l0 true _ ?side1 ?side2 A2.out).mono ?_); (case side1 => repeat (first | exact HR0.out | (with_reducible refine Kd.C_alloc ?_ _) | (with_reducible refine Kd.C_drewN ?_ _) | (with_reducible refine Kd.C_drew ?_))); (case side2 => exact HC0.out); rintro e w' ⟨rfl, ⟨nd, rfl⟩⟩))
    go_ret
    exact ⟨by first | rfl | (simp [errW_none, errW_some] <;> rfl) | (simp [*, errW_none, errW_some] <;> rfl), by repeat (first | (with_reducible first | exact HB.out | apply below_alloc | apply pw_below_drewN | apply below_drew1) | exact HB.out)⟩
  · replace c3 := Bool.eq_false_iff.mpr c3
    subst c3
    have H1 : ((spec_DrawElementsOf.f k l0).bind fun t393 => ((spec_DrawHasElement.f k l0).bind fun bt394 => ((spec_DrawIsSet.f k l0).bind fun bt396 => ((spec_DrawFullSet.f k l0).bind fun t398 => ((spec_DrawBeforeSet.f k l0).bind fun bt399 => ((spec_DrawSortLectic.f k l0).bind fun t401 => ((impl_ElementsOf.f k t393).bind fun t404 => ((spec_ElementsOf.f k t393).bind fun t407 => ((laws_sameInts.f k t404 t407).bind fun t410 => (if t410 = true then ((impl_CountOf.f t393).bind fun t411 => (if t411 = (t404.length : Int) then ((impl_HasElement.f bt394.1 bt394.2).bind fun t412 => ((spec_HasElement.f bt394.1 bt394.2).bind fun t413 => (if (t412 != t413) = true then (laws_FnSets.j0 k l0 t393 bt399.1 bt399.2 true) else ((impl_IsSet.f bt396.1 bt396.2).bind fun t414 => ((spec_IsSet.f bt396.1 bt396.2).bind fun t415 => (if (t414 != t415) = true then (laws_FnSets.j0 k l0 t393 bt399.1 bt399.2 true) else ((impl_FullSet.f t398).bind fun t416 => ((spec_FullSet.f t398).bind fun t417 => (if t416 = t417 then ((impl_IsSubset.f bt399.1 bt399.2).bind fun t418 => ((spec_IsSubset.f bt399.1 bt399.2).bind fun t419 => (if (t418 != t419) = true then (laws_FnSets.j0 k l0 t393 bt399.1 bt399.2 true) else ((impl_BeforeSet.f k bt399.1 bt399.2).bind fun t420 => ((spec_BeforeSet.f bt399.1 bt399.2).bind fun t421 => (if (t420 != t421) = true then (laws_FnSets.j0 k l0 t393 bt399.1 bt399.2 true) else ((impl_SortLectic.f t401).bind fun t422 => ((spec_SortLectic.f k t401).bind fun t425 => ((laws_sameInts.f k t422 t425).bind fun t428 => (if t428 = true then ((impl_SetsText.f k t401).bind fun t429 => ((spec_SetsText.f k t401).bind fun t430 => (laws_FnSets.j0 k l0 t393 bt399.1 bt399.2 (t429.toList != t430.toList)))) else (laws_FnSets.j0 k l0 t393 bt399.1 bt399.2 true))))))))))) else (laws_FnSets.j0 k l0 t393 bt399.1 bt399.2 true)))))))))) else (laws_FnSets.j0 k l0 t393 bt399.1 bt399.2 true))) else (laws_FnSets.j0 k l0 t393 bt399.1 bt399.2 true))))))))))) = some r := by rw [if_neg (show ¬ (false = true) by decide)] at H; exact H
    clear H
    have H := H1
    clear H1
    replace H := Option.bind_eq_some_iff.mp H
    obtain ⟨t393, A40, H⟩ := H
    replace H : ((spec_DrawHasElement.f k l0).bind fun bt394 => ((spec_DrawIsSet.f k l0).bind fun bt396 => ((spec_DrawFullSet.f k l0).bind fun t398 => ((spec_DrawBeforeSet.f k l0).bind fun bt399 => ((spec_DrawSortLectic.f k l0).bind fun t401 => ((impl_ElementsOf.f k t393).bind fun t404 => ((spec_ElementsOf.f k t393).bind fun t407 => ((laws_sameInts.f k t404 t407).bind fun t410 => (if t410 = true then ((impl_CountOf.f t393).bind fun t411 => (if t411 = (t404.length : Int) then ((impl_HasElement.f bt394.1 bt394.2).bind fun t412 => ((spec_HasElement.f bt394.1 bt394.2).bind fun t413 => (if (t412 != t413) = true then (laws_FnSets.j0 k l0 t393 bt399.1 bt399.2 true) else ((impl_IsSet.f bt396.1 bt396.2).bind fun t414 => ((spec_IsSet.f bt396.1 bt396.2).bind fun t415 => (if (t414 != t415) = true then (laws_FnSets.j0 k l0 t393 bt399.1 bt399.2 true) else ((impl_FullSet.f t398).bind fun t416 => ((spec_FullSet.f t398).bind fun t417 => (if t416 = t417 then ((impl_IsSubset.f bt399.1 bt399.2).bind fun t418 => ((spec_IsSubset.f bt399.1 bt399.2).bind fun t419 => (if (t418 != t419) = true then (laws_FnSets.j0 k l0 t393 bt399.1 bt399.2 true) else ((impl_BeforeSet.f k bt399.1 bt399.2).bind fun t420 => ((spec_BeforeSet.f bt399.1 bt399.2).bind fun t421 => (if (t420 != t421) = true then (laws_FnSets.j0 k l0 t393 bt399.1 bt399.2 true) else ((impl_SortLectic.f t401).bind fun t422 => ((spec_SortLectic.f k t401).bind fun t425 => ((laws_sameInts.f k t422 t425).bind fun t428 => (if t428 = true then ((impl_SetsText.f k t401).bind fun t429 => ((spec_SetsText.f k t401).bind fun t430 => (laws_FnSets.j0 k l0 t393 bt399.1 bt399.2 (t429.toList != t430.toList)))) else (laws_FnSets.j0 k l0 t393 bt399.1 bt399.2 true))))))))))) else (laws_FnSets.j0 k l0 t393 bt399.1 bt399.2 true)))))))))) else (laws_FnSets.j0 k l0 t393 bt399.1 bt399.2 true))) else (laws_FnSets.j0 k l0 t393 bt399.1 bt399.2 true)))))))))) = some r := H
    have A4 := Aside0.mk A40
    clear A40
    replace H := Option.bind_eq_some_iff.mp H
    obtain ⟨⟨t394, t395⟩, A50, H⟩ := H
    replace H : ((spec_DrawIsSet.f k l0).bind fun bt396 => ((spec_DrawFullSet.f k l0).bind fun t398 => ((spec_DrawBeforeSet.f k l0).bind fun bt399 => ((spec_DrawSortLectic.f k l0).bind fun t401 => ((impl_ElementsOf.f k t393).bind fun t404 => ((spec_ElementsOf.f k t393).bind fun t407 => ((laws_sameInts.f k t404 t407).bind fun t410 => (if t410 = true then ((impl_CountOf.f t393).bind fun t411 => (if t411 = (t404.length : Int) then ((impl_HasElement.f t394 t395).bind fun t412 => ((spec_HasElement.f t394 t395).bind fun t413 => (if (t412 != t413) = true then (laws_FnSets.j0 k l0 t393 bt399.1 bt399.2 true) else ((impl_IsSet.f bt396.1 bt396.2).bind fun t414 => ((spec_IsSet.f bt396.1 bt396.2).bind fun t415 => (if (t414 != t415) = true then (laws_FnSets.j0 k l0 t393 bt399.1 bt399.2 true) else ((impl_FullSet.f t398).bind fun t416 => ((spec_FullSet.f t398).bind fun t417 => (if t416 = t417 then ((impl_IsSubset.f bt399.1 bt399.2).bind fun t418 => ((spec_IsSubset.f bt399.1 bt399.2).bind fun t419 => (if (t418 != t419) = true then (laws_FnSets.j0 k l0 t393 bt399.1 bt399.2 true) else ((impl_BeforeSet.f k bt399.1 bt399.2).bind fun t420 => ((spec_BeforeSet.f bt399.1 bt399.2).bind fun t421 => (if (t420 != t421) = true then (laws_FnSets.j0 k l0 t393 bt399.1 bt399.2 true) else ((impl_SortLectic.f t401).bind fun t422 => ((spec_SortLectic.f k t401).bind fun t425 => ((laws_sameInts.f k t422 t425).bind fun t428 => (if t428 = true then ((impl_SetsText.f k t401).bind fun t429 => ((spec_SetsText.f k t401).bind fun t430 => (laws_FnSets.j0 k l0 t393 bt399.1 bt399.2 (t429.toList != t430.toList)))) else (laws_FnSets.j0 k l0 t393 bt399.1 bt399.2 true))))))))))) else (laws_FnSets.j0 k l0 t393 bt399.1 bt399.2 true)))))))))) else (laws_FnSets.j0 k l0 t393 bt399.1 bt399.2 true))) else (laws_FnSets.j0 k l0 t393 bt399.1 bt399.2 true))))))))) = some r := H
    have A5 := Aside0.mk A50
    clear A50
    replace H := Option.bind_eq_some_iff.mp H
    obtain ⟨⟨t396, t397⟩, A60, H⟩ := H
    replace H : ((spec_DrawFullSet.f k l0).bind fun t398 => ((spec_DrawBeforeSet.f k l0).bind fun bt399 => ((spec_DrawSortLectic.f k l0).bind fun t401 => ((impl_ElementsOf.f k t393).bind fun t404 => ((spec_ElementsOf.f k t393).bind fun t407 => ((laws_sameInts.f k t404 t407).bind fun t410 => (if t410 = true then ((impl_CountOf.f t393).bind fun t411 => (if t411 = (t404.length : Int) then ((impl_HasElement.f t394 t395).bind fun t412 => ((spec_HasElement.f t394 t395).bind fun t413 => (if (t412 != t413) = true then (laws_FnSets.j0 k l0 t393 bt399.1 bt399.2 true) else ((impl_IsSet.f t396 t397).bind fun t414 => ((spec_IsSet.f t396 t397).bind fun t415 => (if (t414 != t415) = true then (laws_FnSets.j0 k l0 t393 bt399.1 bt399.2 true) else ((impl_FullSet.f t398).bind fun t416 => ((spec_FullSet.f t398).bind fun t417 => (if t416 = t417 then ((impl_IsSubset.f bt399.1 bt399.2).bind fun t418 => ((spec_IsSubset.f bt399.1 bt399.2).bind fun t419 => (if (t418 != t419) = true then (laws_FnSets.j0 k l0 t393 bt399.1 bt399.2 true) else ((impl_BeforeSet.f k bt399.1 bt399.2).bind fun t420 => ((spec_BeforeSet.f bt399.1 bt399.2).bind fun t421 => (if (t420 != t421) = true then (laws_FnSets.j0 k l0 t393 bt399.1 bt399.2 true) else ((impl_SortLectic.f t401).bind fun t422 => ((spec_SortLectic.f k t401).bind fun t425 => ((laws_sameInts.f k t422 t425).bind fun t428 => (if t428 = true then ((impl_SetsText.f k t401).bind fun t429 => ((spec_SetsText.f k t401).bind fun t430 => (laws_FnSets.j0 k l0 t393 bt399.1 bt399.2 (t429.toList != t430.toList)))) else (laws_FnSets.j0 k l0 t393 bt399.1 bt399.2 true))))))))))) else (laws_FnSets.j0 k l0 t393 bt399.1 bt399.2 true)))))))))) else (laws_FnSets.j0 k l0 t393 bt399.1 bt399.2 true))) else (laws_FnSets.j0 k l0 t393 bt399.1 bt399.2 true)))))))) = some r := H
    have A6 := Aside0.mk A60
    clear A60
    replace H := Option.bind_eq_some_iff.mp H
    obtain ⟨t398, A70, H⟩ := H
    replace H : ((spec_DrawBeforeSet.f k l0).bind fun bt399 => ((spec_DrawSortLectic.f k l0).bind fun t401 => ((impl_ElementsOf.f k t393).bind fun t404 => ((spec_ElementsOf.f k t393).bind fun t407 => ((laws_sameInts.f k t404 t407).bind fun t410 => (if t410 = true then ((impl_CountOf.f t393).bind fun t411 => (if t411 = (t404.length : Int) then ((impl_HasElement.f t394 t395).bind fun t412 => ((spec_HasElement.f t394 t395).bind fun t413 => (if (t412 != t413) = true then (laws_FnSets.j0 k l0 t393 bt399.1 bt399.2 true) else ((impl_IsSet.f t396 t397).bind fun t414 => ((spec_IsSet.f t396 t397).bind fun t415 => (if (t414 != t415) = true then (laws_FnSets.j0 k l0 t393 bt399.1 bt399.2 true) else ((impl_FullSet.f t398).bind fun t416 => ((spec_FullSet.f t398).bind fun t417 => (if t416 = t417 then ((impl_IsSubset.f bt399.1 bt399.2).bind fun t418 => ((spec_IsSubset.f bt399.1 bt399.2).bind fun t419 => (if (t418 != t419) = true then (laws_FnSets.j0 k l0 t393 bt399.1 bt399.2 true) else ((impl_BeforeSet.f k bt399.1 bt399.2).bind fun t420 => ((spec_BeforeSet.f bt399.1 bt399.2).bind fun t421 => (if (t420 != t421) = true then (laws_FnSets.j0 k l0 t393 bt399.1 bt399.2 true) else ((impl_SortLectic.f t401).bind fun t422 => ((spec_SortLectic.f k t401).bind fun t425 => ((laws_sameInts.f k t422 t425).bind fun t428 => (if t428 = true then ((impl_SetsText.f k t401).bind fun t429 => ((spec_SetsText.f k t401).bind fun t430 => (laws_FnSets.j0 k l0 t393 bt399.1 bt399.2 (t429.toList != t430.toList)))) else (laws_FnSets.j0 k l0 t393 bt399.1 bt399.2 true))))))))))) else (laws_FnSets.j0 k l0 t393 bt399.1 bt399.2 true)))))))))) else (laws_FnSets.j0 k l0 t393 bt399.1 bt399.2 true))) else (laws_FnSets.j0 k l0 t393 bt399.1 bt399.2 true))))))) = some r := H
    have A7 := Aside0.mk A70
    clear A70
    replace H := Option.bind_eq_some_iff.mp H
    obtain ⟨⟨t399, t400⟩, A80, H⟩ := H
    replace H : ((spec_DrawSortLectic.f k l0).bind fun t401 => ((impl_ElementsOf.f k t393).bind fun t404 => ((spec_ElementsOf.f k t393).bind fun t407 => ((laws_sameInts.f k t404 t407).bind fun t410 => (if t410 = true then ((impl_CountOf.f t393).bind fun t411 => (if t411 = (t404.length : Int) then ((impl_HasElement.f t394 t395).bind fun t412 => ((spec_HasElement.f t394 t395).bind fun t413 => (if (t412 != t413) = true then (laws_FnSets.j0 k l0 t393 t399 t400 true) else ((impl_IsSet.f t396 t397).bind fun t414 => ((spec_IsSet.f t396 t397).bind fun t415 => (if (t414 != t415) = true then (laws_FnSets.j0 k l0 t393 t399 t400 true) else ((impl_FullSet.f t398).bind fun t416 => ((spec_FullSet.f t398).bind fun t417 => (if t416 = t417 then ((impl_IsSubset.f t399 t400).bind fun t418 => ((spec_IsSubset.f t399 t400).bind fun t419 => (if (t418 != t419) = true then (laws_FnSets.j0 k l0 t393 t399 t400 true) else ((impl_BeforeSet.f k t399 t400).bind fun t420 => ((spec_BeforeSet.f t399 t400).bind fun t421 => (if (t420 != t421) = true then (laws_FnSets.j0 k l0 t393 t399 t400 true) else ((impl_SortLectic.f t401).bind fun t422 => ((spec_SortLectic.f k t401).bind fun t425 => ((laws_sameInts.f k t422 t425).bind fun t428 => (if t428 = true then ((impl_SetsText.f k t401).bind fun t429 => ((spec_SetsText.f k t401).bind fun t430 => (laws_FnSets.j0 k l0 t393 t399 t400 (t429.toList != t430.toList)))) else (laws_FnSets.j0 k l0 t393 t399 t400 true))))))))))) else (laws_FnSets.j0 k l0 t393 t399 t400 true)))))))))) else (laws_FnSets.j0 k l0 t393 t399 t400 true))) else (laws_FnSets.j0 k l0 t393 t399 t400 true)))))) = some r := H
    have A8 := Aside0.mk A80
    clear A80
    replace H := Option.bind_eq_some_iff.mp H
    obtain ⟨t401, A90, H⟩ := H
    replace H : ((impl_ElementsOf.f k t393).bind fun t404 => ((spec_ElementsOf.f k t393).bind fun t407 => ((laws_sameInts.f k t404 t407).bind fun t410 => (if t410 = true then ((impl_CountOf.f t393).bind fun t411 => (if t411 = (t404.length : Int) then ((impl_HasElement.f t394 t395).bind fun t412 => ((spec_HasElement.f t394 t395).bind fun t413 => (if (t412 != t413) = true then (laws_FnSets.j0 k l0 t393 t399 t400 true) else ((impl_IsSet.f t396 t397).bind fun t414 => ((spec_IsSet.f t396 t397).bind fun t415 => (if (t414 != t415) = true then (laws_FnSets.j0 k l0 t393 t399 t400 true) else ((impl_FullSet.f t398).bind fun t416 => ((spec_FullSet.f t398).bind fun t417 => (if t416 = t417 then ((impl_IsSubset.f t399 t400).bind fun t418 => ((spec_IsSubset.f t399 t400).bind fun t419 => (if (t418 != t419) = true then (laws_FnSets.j0 k l0 t393 t399 t400 true) else ((impl_BeforeSet.f k t399 t400).bind fun t420 => ((spec_BeforeSet.f t399 t400).bind fun t421 => (if (t420 != t421) = true then (laws_FnSets.j0 k l0 t393 t399 t400 true) else ((impl_SortLectic.f t401).bind fun t422 => ((spec_SortLectic.f k t401).bind fun t425 => ((laws_sameInts.f k t422 t425).bind fun t428 => (if t428 = true then ((impl_SetsText.f k t401).bind fun t429 => ((spec_SetsText.f k t401).bind fun t430 => (laws_FnSets.j0 k l0 t393 t399 t400 (t429.toList != t430.toList)))) else (laws_FnSets.j0 k l0 t393 t399 t400 true))))))))))) else (laws_FnSets.j0 k l0 t393 t399 t400 true)))))))))) else (laws_FnSets.j0 k l0 t393 t399 t400 true))) else (laws_FnSets.j0 k l0 t393 t399 t400 true))))) = some r := H
    have A9 := Aside0.mk A90
    clear A90
    replace H := Option.bind_eq_some_iff.mp H
    obtain ⟨t404, A100, H⟩ := H
    replace H : ((spec_ElementsOf.f k t393).bind fun t407 => ((laws_sameInts.f k t404 t407).bind fun t410 => (if t410 = true then ((impl_CountOf.f t393).bind fun t411 => (if t411 = (t404.length : Int) then ((impl_HasElement.f t394 t395).bind fun t412 => ((spec_HasElement.f t394 t395).bind fun t413 => (if (t412 != t413) = true then (laws_FnSets.j0 k l0 t393 t399 t400 true) else ((impl_IsSet.f t396 t397).bind fun t414 => ((spec_IsSet.f t396 t397).bind fun t415 => (if (t414 != t415) = true then (laws_FnSets.j0 k l0 t393 t399 t400 true) else ((impl_FullSet.f t398).bind fun t416 => ((spec_FullSet.f t398).bind fun t417 => (if t416 = t417 then ((impl_IsSubset.f t399 t400).bind fun t418 => ((spec_IsSubset.f t399 t400).bind fun t419 => (if (t418 != t419) = true then (laws_FnSets.j0 k l0 t393 t399 t400 true) else ((impl_BeforeSet.f k t399 t400).bind fun t420 => ((spec_BeforeSet.f t399 t400).bind fun t421 => (if (t420 != t421) = true then (laws_FnSets.j0 k l0 t393 t399 t400 true) else ((impl_SortLectic.f t401).bind fun t422 => ((spec_SortLectic.f k t401).bind fun t425 => ((laws_sameInts.f k t422 t425).bind fun t428 => (if t428 = true then ((impl_SetsText.f k t401).bind fun t429 => ((spec_SetsText.f k t401).bind fun t430 => (laws_FnSets.j0 k l0 t393 t399 t400 (t429.toList != t430.toList)))) else (laws_FnSets.j0 k l0 t393 t399 t400 true))))))))))) else (laws_FnSets.j0 k l0 t393 t399 t400 true)))))))))) else (laws_FnSets.j0 k l0 t393 t399 t400 true))) else (laws_FnSets.j0 k l0 t393 t399 t400 true)))) = some r := H
    have A10 := Aside0.mk A100
    clear A100
    have HC11 := Aside0.mk H
    clear H
    go_enter Tryd.func4, Tryd.ntmps4
    go_upto_region 10 with (first | ((with_reducible refine gate_callee (f := 11) rfl ?_); refine goesL_ (some 22) rfl rfl Tryd.func11 (by kernel_rfl) rfl #[.slice A0 l0.length c0] rfl (by (try simp only [List.map_toArray, List.map_cons, List.map_nil]); first | done | rfl | (simp only [List.length_drop, List.length_take]; rfl)) ?_; (with_reducible refine (laws_big.calls _ _ l0 false _ ?side1 ?side2 A2.out).mono ?_); (case side1 => repeat (first | exact HR0.out | (with_reducible refine Kd.C_alloc ?_ _) | (with_reducible refine Kd.C_drewN ?_ _) | (with_reducible refine Kd.C_drew ?_))); (case side2 => exact HC0.out); rintro e w' ⟨rfl, ⟨nd, rfl⟩⟩; refine ⟨_, rfl, ?_⟩) | (go_at_call 11; (with_reducible refine (laws_big.calls _ _ l0 false _ ?side1 ?side2 A2.out).mono ?_); (case side1 => repeat (first | exact HR0.out | (with_reducible refine Kd.C_alloc ?_ _) | (with_reducible refine Kd.C_drewN ?_ _) | (with_reducible refine Kd.C_drew ?_))); (case side2 => exact HC0.out); rintro e w' ⟨rfl, ⟨nd, rfl⟩⟩) | ((with_reducible refine gate_callee (f := 12) rfl ?_); refine goesL_ (some 24) rfl rfl Tryd.func12 (by kernel_rfl) rfl #[.slice A0 l0.length c0] rfl (by (try simp only [List.map_toArray, List.map_cons, List.map_nil]); first | done | rfl | (simp only [List.length_drop, List.length_take]; rfl)) ?_; (with_reducible refine (spec_DrawElementsOf.calls k _ _ l0 t393 _ ?side1 ?side2 A4.out).mono ?_); (case side1 => repeat (first | exact HR0.out | (with_reducible refine Kd.C_alloc ?_ _) | (with_reducible refine Kd.C_drewN ?_ _) | (with_reducible refine Kd.C_drew ?_))); (case side2 => exact HC0.out); rintro e w12 ⟨rfl, hb⟩; refine ⟨_, rfl, ?_⟩; have n0_ := Aside0.mk (below_step (by repeat (first | (with_reducible first | exact HB.out | apply below_alloc | apply pw_below_drewN | apply below_drew1) | exact HB.out)) hb); clear HB; have HB := n0_; clear n0_; (try clear hb); (try clear hb2); (try clear hk); (try clear hi)) | (go_at_call 12; (with_reducible refine (spec_DrawElementsOf.calls k _ _ l0 t393 _ ?side1 ?side2 A4.out).mono ?_); (case side1 => repeat (first | exact HR0.out | (with_reducible refine Kd.C_alloc ?_ _) | (with_reducible refine Kd.C_drewN ?_ _) | (with_reducible refine Kd.C_drew ?_))); (case side2 => exact HC0.out); rintro e w12 ⟨rfl, hb⟩; have n0_ := Aside0.mk (below_step (by repeat (first | (with_reducible first | exact HB.out | apply below_alloc | apply pw_below_drewN | apply below_drew1) | exact HB.out)) hb); clear HB; have HB := n0_; clear n0_; (try clear hb); (try clear hb2); (try clear hk); (try clear hi)) | ((with_reducible refine gate_callee (f := 13) rfl ?_); refine goesL_ (some 27) rfl rfl Tryd.func13 (by kernel_rfl) rfl #[.slice A0 l0.length c0] rfl (by (try simp only [List.map_toArray, List.map_cons, List.map_nil]); first | done | rfl | (simp only [List.length_drop, List.length_take]; rfl)) ?_; (with_reducible refine (spec_DrawHasElement.calls k _ _ l0 t394 t395 _ ?side1 ?side2 A5.out).mono ?_); (case side1 => repeat (first | exact (Kd.C_below HR0.out HB.out) | (with_reducible refine Kd.C_alloc ?_ _) | (with_reducible refine Kd.C_drewN ?_ _) | (with_reducible refine Kd.C_drew ?_))); (case side2 => exact HC0.out); rintro e w13 ⟨rfl, hb⟩; refine ⟨_, rfl, ?_⟩; have n0_ := Aside0.mk (below_step (by repeat (first | (with_reducible first | exact HB.out | apply below_alloc | apply pw_below_drewN | apply below_drew1) | exact HB.out)) hb); clear HB; have HB := n0_; clear n0_; (try clear hb); (try clear hb2); (try clear hk); (try clear hi)) | (go_at_call 13; (with_reducible refine (spec_DrawHasElement.calls k _ _ l0 t394 t395 _ ?side1 ?side2 A5.out).mono ?_); (case side1 => repeat (first | exact (Kd.C_below HR0.out HB.out) | (with_reducible refine Kd.C_alloc ?_ _) | (with_reducible refine Kd.C_drewN ?_ _) | (with_reducible refine Kd.C_drew ?_))); (case side2 => exact HC0.out); rintro e w13 ⟨rfl, hb⟩; have n0_ := Aside0.mk (below_step (by repeat (first | (with_reducible first | exact HB.out | apply below_alloc | apply pw_below_drewN | apply below_drew1) | exact HB.out)) hb); clear HB; have HB := n0_; clear n0_; (try clear hb); (try clear hb2); (try clear hk); (try clear hi)) | ((with_reducible refine gate_callee (f := 14) rfl ?_); refine goesL_ (some 32) rfl rfl Tryd.func14 (by kernel_rfl) rfl #[.slice A0 l0.length c0] rfl (by (try simp only [List.map_toArray, List.map_cons, List.map_nil]); first | done | rfl | (simp only [List.length_drop, List.length_take]; rfl)) ?_; (with_reducible refine (spec_DrawIsSet.calls k _ _ l0 t396 t397 _ ?side1 ?side2 A6.out).mono ?_); (case side1 => repeat (first | exact (Kd.C_below HR0.out HB.out) | (with_reducible refine Kd.C_alloc ?_ _) | (with_reducible refine Kd.C_drewN ?_ _) | (with_reducible refine Kd.C_drew ?_))); (case side2 => exact HC0.out); rintro e w14 ⟨rfl, hb⟩; refine ⟨_, rfl, ?_⟩; have n0_ := Aside0.mk (below_step (by repeat (first | (with_reducible first | exact HB.out | apply below_alloc | apply pw_below_drewN | apply below_drew1) | exact HB.out)) hb); clear HB; have HB := n0_; clear n0_; (try clear hb); (try clear hb2); (try clear hk); (try clear hi)) | (go_at_call 14; (with_reducible refine (spec_DrawIsSet.calls k _ _ l0 t396 t397 _ ?side1 ?side2 A6.out).mono ?_); (case side1 => repeat (first | exact (Kd.C_below HR0.out HB.out) | (with_reducible refine Kd.C_alloc ?_ _) | (with_reducible refine Kd.C_drewN ?_ _) | (with_reducible refine Kd.C_drew ?_))); (case side2 => exact HC0.out); rintro e w14 ⟨rfl, hb⟩; have n0_ := Aside0.mk (below_step (by repeat (first | (with_reducible first | exact HB.out | apply below_alloc | apply pw_below_drewN | apply below_drew1) | exact HB.out)) hb); clear HB; have HB := n0_; clear n0_; (try clear hb); (try clear hb2); (try clear hk); (try clear hi)) | ((with_reducible refine gate_callee (f := 15) rfl ?_); refine goesL_ (some 36) rfl rfl Tryd.func15 (by kernel_rfl) rfl #[.slice A0 l0.length c0] rfl (by (try simp only [List.map_toArray, List.map_cons, List.map_nil]); first | done | rfl | (simp only [List.length_drop, List.length_take]; rfl)) ?_; (with_reducible refine (spec_DrawFullSet.calls k _ _ l0 t398 _ ?side1 ?side2 A7.out).mono ?_); (case side1 => repeat (first | exact (Kd.C_below HR0.out HB.out) | (with_reducible refine Kd.C_alloc ?_ _) | (with_reducible refine Kd.C_drewN ?_ _) | (with_reducible refine Kd.C_drew ?_))); (case side2 => exact HC0.out); rintro e w15 ⟨rfl, hb⟩; refine ⟨_, rfl, ?_⟩; have n0_ := Aside0.mk (below_step (by repeat (first | (with_reducible first | exact HB.out | apply below_alloc | apply pw_below_drewN | apply below_drew1) | exact HB.out)) hb); clear HB; have HB := n0_; clear n0_; (try clear hb); (try clear hb2); (try clear hk); (try clear hi)) | (go_at_call 15; (with_reducible refine (spec_DrawFullSet.calls k _ _ l0 t398 _ ?side1 ?side2 A7.out).mono ?_); (case side1 => repeat (first | exact (Kd.C_below HR0.out HB.out) | (with_reducible refine Kd.C_alloc ?_ _) | (with_reducible refine Kd.C_drewN ?_ _) | (with_reducible refine Kd.C_drew ?_))); (case side2 => exact HC0.out); rintro e w15 ⟨rfl, hb⟩; have n0_ := Aside0.mk (below_step (by repeat (first | (with_reducible first | exact HB.out | apply below_alloc | apply pw_below_drewN | apply below_drew1) | exact HB.out)) hb); clear HB; have HB := n0_; clear n0_; (try clear hb); (try clear hb2); (try clear hk); (try clear hi)) | ((with_reducible refine gate_callee (f := 16) rfl ?_); refine goesL_ (some 39) rfl rfl Tryd.func16 (by kernel_rfl) rfl #[.slice A0 l0.length c0] rfl (by (try simp only [List.map_toArray, List.map_cons, List.map_nil]); first | done | rfl | (simp only [List.length_drop, List.length_take]; rfl)) ?_; (with_reducible refine (spec_DrawBeforeSet.calls k _ _ l0 t399 t400 _ ?side1 ?side2 A8.out).mono ?_); (case side1 => repeat (first | exact (Kd.C_below HR0.out HB.out) | (with_reducible refine Kd.C_alloc ?_ _) | (with_reducible refine Kd.C_drewN ?_ _) | (with_reducible refine Kd.C_drew ?_))); (case side2 => exact HC0.out); rintro e w16 ⟨rfl, hb⟩; refine ⟨_, rfl, ?_⟩; have n0_ := Aside0.mk (below_step (by repeat (first | (with_reducible first | exact HB.out | apply below_alloc | apply pw_below_drewN | apply below_drew1) | exact HB.out)) hb); clear HB; have HB := n0_; clear n0_; (try clear hb); (try clear hb2); (try clear hk); (try clear hi)) | (go_at_call 16; (with_reducible refine (spec_DrawBeforeSet.calls k _ _ l0 t399 t400 _ ?side1 ?side2 A8.out).mono ?_); (case side1 => repeat (first | exact (Kd.C_below HR0.out HB.out) | (with_reducible refine Kd.C_alloc ?_ _) | (with_reducible refine Kd.C_drewN ?_ _) | (with_reducible refine Kd.C_drew ?_))); (case side2 => exact HC0.out); rintro e w16 ⟨rfl, hb⟩; have n0_ := Aside0.mk (below_step (by repeat (first | (with_reducible first | exact HB.out | apply below_alloc | apply pw_below_drewN | apply below_drew1) | exact HB.out)) hb); clear HB; have HB := n0_; clear n0_; (try clear hb); (try clear hb2); (try clear hk); (try clear hi)) | ((with_reducible refine gate_callee (f := 17) rfl ?_); refine goesL_ (some 43) rfl rfl Tryd.func17 (by kernel_rfl) rfl #[.slice A0 l0.length c0] rfl (by (try simp only [List.map_toArray, List.map_cons, List.map_nil]); first | done | rfl | (simp only [List.length_drop, List.length_take]; rfl)) ?_; (with_reducible refine (spec_DrawSortLectic.calls k _ _ l0 t401 _ ?side1 ?side2 A9.out).mono ?_); (case side1 => repeat (first | exact (Kd.C_below HR0.out HB.out) | (with_reducible refine Kd.C_alloc ?_ _) | (with_reducible refine Kd.C_drewN ?_ _) | (with_reducible refine Kd.C_drew ?_))); (case side2 => exact HC0.out); rintro e w17 ⟨v402, rfl, ho0, hb⟩; refine ⟨_, rfl, ?_⟩; have n0_ := Aside0.mk (Kd.R_lower ho0 (below_size (by repeat (first | (with_reducible first | exact HB.out | apply below_alloc | apply pw_below_drewN | apply below_drew1) | exact HB.out)))); have n1_ := Aside0.mk (below_step (by repeat (first | (with_reducible first | exact HB.out | apply below_alloc | apply pw_below_drewN | apply below_drew1) | exact HB.out)) hb); clear HB; have HO403 := n0_; have HB := n1_; clear n0_ n1_; (try clear hb); (try clear hb2); (try clear hk); (try clear hi); (try clear ho0)) | (go_at_call 17; (with_reducible refine (spec_DrawSortLectic.calls k _ _ l0 t401 _ ?side1 ?side2 A9.out).mono ?_); (case side1 => repeat (first | exact (Kd.C_below HR0.out HB.out) | (with_reducible refine Kd.C_alloc ?_ _) | (with_reducible refine Kd.C_drewN ?_ _) | (with_reducible refine Kd.C_drew ?_))); (case side2 => exact HC0.out); rintro e w17 ⟨v402, rfl, ho0, hb⟩; have n0_ := Aside0.mk (Kd.R_lower ho0 (below_size (by repeat (first | (with_reducible first | exact HB.out | apply below_alloc | apply pw_below_drewN | apply below_drew1) | exact HB.out)))); have n1_ := Aside0.mk (below_step (by repeat (first | (with_reducible first | exact HB.out | apply below_alloc | apply pw_below_drewN | apply below_drew1) | exact HB.out)) hb); clear HB; have HO403 := n0_; have HB := n1_; clear n0_ n1_; (try clear hb); (try clear hb2); (try clear hk); (try clear hi); (try clear ho0)) | ((with_reducible refine gate_callee (f := 18) rfl ?_); refine goesL_ (some 45) rfl rfl Tryd.func18 (by kernel_rfl) rfl #[.int .i64 t393] rfl (by (try simp only [List.map_toArray, List.map_cons, List.map_nil]); first | done | rfl | (simp only [List.length_drop, List.length_take]; rfl)) ?_; (with_reducible refine (impl_ElementsOf.calls k t393 t404 _ A10.out).mono ?_); rintro e w18 ⟨v405, rfl, ho0, hb⟩; refine ⟨_, rfl, ?_⟩; have n0_ := Aside0.mk (Kd.R_elder' (by (with_reducible repeat (first | apply Kd.R_alloc | apply Kd.R_drewN | apply Kd.R_drew)); exact HO403.out) (Kd.R_base ho0) hb); have n1_ := Aside0.mk (Kd.R_lower (Kd.R_new' ho0 (Kd.R_lt (by (with_reducible repeat (first | apply Kd.R_alloc | apply Kd.R_drewN | apply Kd.R_drew)); exact HO403.out))) (below_size (by repeat (first | (with_reducible first | exact HB.out | apply below_alloc | apply pw_below_drewN | apply below_drew1) | exact HB.out)))); have n2_ := Aside0.mk (below_step (by repeat (first | (with_reducible first | exact HB.out | apply below_alloc | apply pw_below_drewN | apply below_drew1) | exact HB.out)) hb); clear HO403; clear HB; have HO403 := n0_; have HO406 := n1_; have HB := n2_; clear n0_ n1_ n2_; (try clear hb); (try clear hb2); (try clear hk); (try clear hi); (try clear ho0)) | (go_at_call 18; (with_reducible refine (impl_ElementsOf.calls k t393 t404 _ A10.out).mono ?_); rintro e w18 ⟨v405, rfl, ho0, hb⟩; have n0_ := Aside0.mk (Kd.R_elder' (by (with_reducible repeat (first | apply Kd.R_alloc | apply Kd.R_drewN | apply Kd.R_drew)); exact HO403.out) (Kd.R_base ho0) hb); have n1_ := Aside0.mk (Kd.R_lower (Kd.R_new' ho0 (Kd.R_lt (by (with_reducible repeat (first | apply Kd.R_alloc | apply Kd.R_drewN | apply Kd.R_drew)); exact HO403.out))) (below_size (by repeat (first | (with_reducible first | exact HB.out | apply below_alloc | apply pw_below_drewN | apply below_drew1) | exact HB.out)))); have n2_ := Aside0.mk (below_step (by repeat (first | (with_reducible first | exact HB.out | apply below_alloc | apply pw_below_drewN | apply below_drew1) | exact HB.out)) hb); clear HO403; clear HB; have HO403 := n0_; have HO406 := n1_; have HB := n2_; clear n0_ n1_ n2_; (try clear hb); (try clear hb2); (try clear hk); (try clear hi); (try clear ho0)))
    (try simp only [Act.put, List.setIfInBounds_toArray, List.set_cons_zero, List.set_cons_succ])
    go_cut [115] (fun v115 wc => ∃ (kq : Nat) (x115_10 : Bool), v115 = .bool x115_10 ∧ Aside0 (laws_FnSets.j0 kq l0 t393 t399 t400 x115_10 = some r) ∧ Aside0 (kq ≤ k) ∧ Aside0 (Below w.heap.size w wc))
    case first =>
      have H := HC11.out
      clear HC11
      replace H := Option.bind_eq_some_iff.mp H
      obtain ⟨t407, A190, H⟩ := H
      replace H : ((laws_sameInts.f k t404 t407).bind fun t410 => (if t410 = true then ((impl_CountOf.f t393).bind fun t411 => (if t411 = (t404.length : Int) then ((impl_HasElement.f t394 t395).bind fun t412 => ((spec_HasElement.f t394 t395).bind fun t413 => (if (t412 != t413) = true then (laws_FnSets.j0 k l0 t393 t399 t400 true) else ((impl_IsSet.f t396 t397).bind fun t414 => ((spec_IsSet.f t396 t397).bind fun t415 => (if (t414 != t415) = true then (laws_FnSets.j0 k l0 t393 t399 t400 true) else ((impl_FullSet.f t398).bind fun t416 => ((spec_FullSet.f t398).bind fun t417 => (if t416 = t417 then ((impl_IsSubset.f t399 t400).bind fun t418 => ((spec_IsSubset.f t399 t400).bind fun t419 => (if (t418 != t419) = true then (laws_FnSets.j0 k l0 t393 t399 t400 true) else ((impl_BeforeSet.f k t399 t400).bind fun t420 => ((spec_BeforeSet.f t399 t400).bind fun t421 => (if (t420 != t421) = true then (laws_FnSets.j0 k l0 t393 t399 t400 true) else ((impl_SortLectic.f t401).bind fun t422 => ((spec_SortLectic.f k t401).bind fun t425 => ((laws_sameInts.f k t422 t425).bind fun t428 => (if t428 = true then ((impl_SetsText.f k t401).bind fun t429 => ((spec_SetsText.f k t401).bind fun t430 => (laws_FnSets.j0 k l0 t393 t399 t400 (t429.toList != t430.toList)))) else (laws_FnSets.j0 k l0 t393 t399 t400 true))))))))))) else (laws_FnSets.j0 k l0 t393 t399 t400 true)))))))))) else (laws_FnSets.j0 k l0 t393 t399 t400 true))) else (laws_FnSets.j0 k l0 t393 t399 t400 true))) = some r := H
      have A19 := Aside0.mk A190
      clear A190
      replace H := Option.bind_eq_some_iff.mp H
      obtain ⟨t410, A200, H⟩ := H
      replace H : (if t410 = true then ((impl_CountOf.f t393).bind fun t411 => (if t411 = (t404.length : Int) then ((impl_HasElement.f t394 t395).bind fun t412 => ((spec_HasElement.f t394 t395).bind fun t413 => (if (t412 != t413) = true then (laws_FnSets.j0 k l0 t393 t399 t400 true) else ((impl_IsSet.f t396 t397).bind fun t414 => ((spec_IsSet.f t396 t397).bind fun t415 => (if (t414 != t415) = true then (laws_FnSets.j0 k l0 t393 t399 t400 true) else ((impl_FullSet.f t398).bind fun t416 => ((spec_FullSet.f t398).bind fun t417 => (if t416 = t417 then ((impl_IsSubset.f t399 t400).bind fun t418 => ((spec_IsSubset.f t399 t400).bind fun t419 => (if (t418 != t419) = true then (laws_FnSets.j0 k l0 t393 t399 t400 true) else ((impl_BeforeSet.f k t399 t400).bind fun t420 => ((spec_BeforeSet.f t399 t400).bind fun t421 => (if (t420 != t421) = true then (laws_FnSets.j0 k l0 t393 t399 t400 true) else ((impl_SortLectic.f t401).bind fun t422 => ((spec_SortLectic.f k t401).bind fun t425 => ((laws_sameInts.f k t422 t425).bind fun t428 => (if t428 = true then ((impl_SetsText.f k t401).bind fun t429 => ((spec_SetsText.f k t401).bind fun t430 => (laws_FnSets.j0 k l0 t393 t399 t400 (t429.toList != t430.toList)))) else (laws_FnSets.j0 k l0 t393 t399 t400 true))))))))))) else (laws_FnSets.j0 k l0 t393 t399 t400 true)))))))))) else (laws_FnSets.j0 k l0 t393 t399 t400 true))) else (laws_FnSets.j0 k l0 t393 t399 t400 true)) = some r := H
      have A20 := Aside0.mk A200
      clear A200
      by_cases c21 : t410 = true
      · subst c21
        have H1 : ((impl_CountOf.f t393).bind fun t411 => (if t411 = (t404.length : Int) then ((impl_HasElement.f t394 t395).bind fun t412 => ((spec_HasElement.f t394 t395).bind fun t413 => (if (t412 != t413) = true then (laws_FnSets.j0 k l0 t393 t399 t400 true) else ((impl_IsSet.f t396 t397).bind fun t414 => ((spec_IsSet.f t396 t397).bind fun t415 => (if (t414 != t415) = true then (laws_FnSets.j0 k l0 t393 t399 t400 true) else ((impl_FullSet.f t398).bind fun t416 => ((spec_FullSet.f t398).bind fun t417 => (if t416 = t417 then ((impl_IsSubset.f t399 t400).bind fun t418 => ((spec_IsSubset.f t399 t400).bind fun t419 => (if (t418 != t419) = true then (laws_FnSets.j0 k l0 t393 t399 t400 true) else ((impl_BeforeSet.f k t399 t400).bind fun t420 => ((spec_BeforeSet.f t399 t400).bind fun t421 => (if (t420 != t421) = true then (laws_FnSets.j0 k l0 t393 t399 t400 true) else ((impl_SortLectic.f t401).bind fun t422 => ((spec_SortLectic.f k t401).bind fun t425 => ((laws_sameInts.f k t422 t425).bind fun t428 => (if t428 = true then ((impl_SetsText.f k t401).bind fun t429 => ((spec_SetsText.f k t401).bind fun t430 => (laws_FnSets.j0 k l0 t393 t399 t400 (t429.toList != t430.toList)))) else (laws_FnSets.j0 k l0 t393 t399 t400 true))))))))))) else (laws_FnSets.j0 k l0 t393 t399 t400 true)))))))))) else (laws_FnSets.j0 k l0 t393 t399 t400 true))) = some r := by rw [if_pos rfl] at H; exact H
        clear H
        have H := H1
        clear H1
        replace H := Option.bind_eq_some_iff.mp H
        obtain ⟨t411, A220, H⟩ := H
        replace H : (if t411 = (t404.length : Int) then ((impl_HasElement.f t394 t395).bind fun t412 => ((spec_HasElement.f t394 t395).bind fun t413 => (if (t412 != t413) = true then (laws_FnSets.j0 k l0 t393 t399 t400 true) else ((impl_IsSet.f t396 t397).bind fun t414 => ((spec_IsSet.f t396 t397).bind fun t415 => (if (t414 != t415) = true then (laws_FnSets.j0 k l0 t393 t399 t400 true) else ((impl_FullSet.f t398).bind fun t416 => ((spec_FullSet.f t398).bind fun t417 => (if t416 = t417 then ((impl_IsSubset.f t399 t400).bind fun t418 => ((spec_IsSubset.f t399 t400).bind fun t419 => (if (t418 != t419) = true then (laws_FnSets.j0 k l0 t393 t399 t400 true) else ((impl_BeforeSet.f k t399 t400).bind fun t420 => ((spec_BeforeSet.f t399 t400).bind fun t421 => (if (t420 != t421) = true then (laws_FnSets.j0 k l0 t393 t399 t400 true) else ((impl_SortLectic.f t401).bind fun t422 => ((spec_SortLectic.f k t401).bind fun t425 => ((laws_sameInts.f k t422 t425).bind fun t428 => (if t428 = true then ((impl_SetsText.f k t401).bind fun t429 => ((spec_SetsText.f k t401).bind fun t430 => (laws_FnSets.j0 k l0 t393 t399 t400 (t429.toList != t430.toList)))) else (laws_FnSets.j0 k l0 t393 t399 t400 true))))))))))) else (laws_FnSets.j0 k l0 t393 t399 t400 true)))))))))) else (laws_FnSets.j0 k l0 t393 t399 t400 true)) = some r := H
        have A22 := Aside0.mk A220
        clear A220
        by_cases c23 : t411 = (t404.length : Int)
        · rw [if_pos c23] at H
          have c23b0 : (t411 == (t404.length : Int)) = true := beq_iff_eq.mpr c23
          have c23b1 : (t411 != (t404.length : Int)) = false := bne_eq_false_iff_eq.mpr c23
          clear c23
          (first | rw [c23b0] | (simp only [i64_w, i32_w]; rw [c23b0]) | skip)
          replace H := Option.bind_eq_some_iff.mp H
          obtain ⟨t412, A240, H⟩ := H
          replace H : ((spec_HasElement.f t394 t395).bind fun t413 => (if (t412 != t413) = true then (laws_FnSets.j0 k l0 t393 t399 t400 true) else ((impl_IsSet.f t396 t397).bind fun t414 => ((spec_IsSet.f t396 t397).bind fun t415 => (if (t414 != t415) = true then (laws_FnSets.j0 k l0 t393 t399 t400 true) else ((impl_FullSet.f t398).bind fun t416 => ((spec_FullSet.f t398).bind fun t417 => (if t416 = t417 then ((impl_IsSubset.f t399 t400).bind fun t418 => ((spec_IsSubset.f t399 t400).bind fun t419 => (if (t418 != t419) = true then (laws_FnSets.j0 k l0 t393 t399 t400 true) else ((impl_BeforeSet.f k t399 t400).bind fun t420 => ((spec_BeforeSet.f t399 t400).bind fun t421 => (if (t420 != t421) = true then (laws_FnSets.j0 k l0 t393 t399 t400 true) else ((impl_SortLectic.f t401).bind fun t422 => ((spec_SortLectic.f k t401).bind fun t425 => ((laws_sameInts.f k t422 t425).bind fun t428 => (if t428 = true then ((impl_SetsText.f k t401).bind fun t429 => ((spec_SetsText.f k t401).bind fun t430 => (laws_FnSets.j0 k l0 t393 t399 t400 (t429.toList != t430.toList)))) else (laws_FnSets.j0 k l0 t393 t399 t400 true))))))))))) else (laws_FnSets.j0 k l0 t393 t399 t400 true))))))))) = some r := H
          have A24 := Aside0.mk A240
          clear A240
          replace H := Option.bind_eq_some_iff.mp H
          obtain ⟨t413, A250, H⟩ := H
          replace H : (if (t412 != t413) = true then (laws_FnSets.j0 k l0 t393 t399 t400 true) else ((impl_IsSet.f t396 t397).bind fun t414 => ((spec_IsSet.f t396 t397).bind fun t415 => (if (t414 != t415) = true then (laws_FnSets.j0 k l0 t393 t399 t400 true) else ((impl_FullSet.f t398).bind fun t416 => ((spec_FullSet.f t398).bind fun t417 => (if t416 = t417 then ((impl_IsSubset.f t399 t400).bind fun t418 => ((spec_IsSubset.f t399 t400).bind fun t419 => (if (t418 != t419) = true then (laws_FnSets.j0 k l0 t393 t399 t400 true) else ((impl_BeforeSet.f k t399 t400).bind fun t420 => ((spec_BeforeSet.f t399 t400).bind fun t421 => (if (t420 != t421) = true then (laws_FnSets.j0 k l0 t393 t399 t400 true) else ((impl_SortLectic.f t401).bind fun t422 => ((spec_SortLectic.f k t401).bind fun t425 => ((laws_sameInts.f k t422 t425).bind fun t428 => (if t428 = true then ((impl_SetsText.f k t401).bind fun t429 => ((spec_SetsText.f k t401).bind fun t430 => (laws_FnSets.j0 k l0 t393 t399 t400 (t429.toList != t430.toList)))) else (laws_FnSets.j0 k l0 t393 t399 t400 true))))))))))) else (laws_FnSets.j0 k l0 t393 t399 t400 true)))))))) = some r := H
          have A25 := Aside0.mk A250
          clear A250
          by_cases c26 : (t412 != t413) = true
          · rw [if_pos c26] at H
            have c26b0 : (t412 != t413) = true := c26
            (try (have c26b1 : decide (t412 = t413) = false := by simpa using c26))
            (try (have c26b2 : (t412 == t413) = false := by simpa using c26))
            (try (have c26b3 : ¬ (t412 = t413) := by simpa using c26))
            clear c26
            exact (laws_FnSets.j0_dead _ _ _ _ _ (by rw [HRR.out] at H; exact H)).elim
          · rw [if_neg c26] at H
            have c26b0 : (t412 != t413) = false := by simpa using c26
            (try (have c26b1 : decide (t412 = t413) = true := by simpa using c26))
            (try (have c26b2 : (t412 == t413) = true := by simpa using c26))
            clear c26
            replace H := Option.bind_eq_some_iff.mp H
            obtain ⟨t414, A300, H⟩ := H
            replace H : ((spec_IsSet.f t396 t397).bind fun t415 => (if (t414 != t415) = true then (laws_FnSets.j0 k l0 t393 t399 t400 true) else ((impl_FullSet.f t398).bind fun t416 => ((spec_FullSet.f t398).bind fun t417 => (if t416 = t417 then ((impl_IsSubset.f t399 t400).bind fun t418 => ((spec_IsSubset.f t399 t400).bind fun t419 => (if (t418 != t419) = true then (laws_FnSets.j0 k l0 t393 t399 t400 true) else ((impl_BeforeSet.f k t399 t400).bind fun t420 => ((spec_BeforeSet.f t399 t400).bind fun t421 => (if (t420 != t421) = true then (laws_FnSets.j0 k l0 t393 t399 t400 true) else ((impl_SortLectic.f t401).bind fun t422 => ((spec_SortLectic.f k t401).bind fun t425 => ((laws_sameInts.f k t422 t425).bind fun t428 => (if t428 = true then ((impl_SetsText.f k t401).bind fun t429 => ((spec_SetsText.f k t401).bind fun t430 => (laws_FnSets.j0 k l0 t393 t399 t400 (t429.toList != t430.toList)))) else (laws_FnSets.j0 k l0 t393 t399 t400 true))))))))))) else (laws_FnSets.j0 k l0 t393 t399 t400 true)))))) = some r := H
            have A30 := Aside0.mk A300
            clear A300
            replace H := Option.bind_eq_some_iff.mp H
            obtain ⟨t415, A310, H⟩ := H
            replace H : (if (t414 != t415) = true then (laws_FnSets.j0 k l0 t393 t399 t400 true) else ((impl_FullSet.f t398).bind fun t416 => ((spec_FullSet.f t398).bind fun t417 => (if t416 = t417 then ((impl_IsSubset.f t399 t400).bind fun t418 => ((spec_IsSubset.f t399 t400).bind fun t419 => (if (t418 != t419) = true then (laws_FnSets.j0 k l0 t393 t399 t400 true) else ((impl_BeforeSet.f k t399 t400).bind fun t420 => ((spec_BeforeSet.f t399 t400).bind fun t421 => (if (t420 != t421) = true then (laws_FnSets.j0 k l0 t393 t399 t400 true) else ((impl_SortLectic.f t401).bind fun t422 => ((spec_SortLectic.f k t401).bind fun t425 => ((laws_sameInts.f k t422 t425).bind fun t428 => (if t428 = true then ((impl_SetsText.f k t401).bind fun t429 => ((spec_SetsText.f k t401).bind fun t430 => (laws_FnSets.j0 k l0 t393 t399 t400 (t429.toList != t430.toList)))) else (laws_FnSets.j0 k l0 t393 t399 t400 true))))))))))) else (laws_FnSets.j0 k l0 t393 t399 t400 true))))) = some r := H
            have A31 := Aside0.mk A310
            clear A310
            by_cases c32 : (t414 != t415) = true
            · rw [if_pos c32] at H
              have c32b0 : (t414 != t415) = true := c32
              (try (have c32b1 : decide (t414 = t415) = false := by simpa using c32))
              (try (have c32b2 : (t414 == t415) = false := by simpa using c32))
              (try (have c32b3 : ¬ (t414 = t415) := by simpa using c32))
              clear c32
              exact (laws_FnSets.j0_dead _ _ _ _ _ (by rw [HRR.out] at H; exact H)).elim
            · rw [if_neg c32] at H
              have c32b0 : (t414 != t415) = false := by simpa using c32
              (try (have c32b1 : decide (t414 = t415) = true := by simpa using c32))
              (try (have c32b2 : (t414 == t415) = true := by simpa using c32))
              clear c32
              replace H := Option.bind_eq_some_iff.mp H
              obtain ⟨t416, A360, H⟩ := H
              replace H : ((spec_FullSet.f t398).bind fun t417 => (if t416 = t417 then ((impl_IsSubset.f t399 t400).bind fun t418 => ((spec_IsSubset.f t399 t400).bind fun t419 => (if (t418 != t419) = true then (laws_FnSets.j0 k l0 t393 t399 t400 true) else ((impl_BeforeSet.f k t399 t400).bind fun t420 => ((spec_BeforeSet.f t399 t400).bind fun t421 => (if (t420 != t421) = true then (laws_FnSets.j0 k l0 t393 t399 t400 true) else ((impl_SortLectic.f t401).bind fun t422 => ((spec_SortLectic.f k t401).bind fun t425 => ((laws_sameInts.f k t422 t425).bind fun t428 => (if t428 = true then ((impl_SetsText.f k t401).bind fun t429 => ((spec_SetsText.f k t401).bind fun t430 => (laws_FnSets.j0 k l0 t393 t399 t400 (t429.toList != t430.toList)))) else (laws_FnSets.j0 k l0 t393 t399 t400 true))))))))))) else (laws_FnSets.j0 k l0 t393 t399 t400 true))) = some r := H
              have A36 := Aside0.mk A360
              clear A360
              replace H := Option.bind_eq_some_iff.mp H
              obtain ⟨t417, A370, H⟩ := H
              replace H : (if t416 = t417 then ((impl_IsSubset.f t399 t400).bind fun t418 => ((spec_IsSubset.f t399 t400).bind fun t419 => (if (t418 != t419) = true then (laws_FnSets.j0 k l0 t393 t399 t400 true) else ((impl_BeforeSet.f k t399 t400).bind fun t420 => ((spec_BeforeSet.f t399 t400).bind fun t421 => (if (t420 != t421) = true then (laws_FnSets.j0 k l0 t393 t399 t400 true) else ((impl_SortLectic.f t401).bind fun t422 => ((spec_SortLectic.f k t401).bind fun t425 => ((laws_sameInts.f k t422 t425).bind fun t428 => (if t428 = true then ((impl_SetsText.f k t401).bind fun t429 => ((spec_SetsText.f k t401).bind fun t430 => (laws_FnSets.j0 k l0 t393 t399 t400 (t429.toList != t430.toList)))) else (laws_FnSets.j0 k l0 t393 t399 t400 true))))))))))) else (laws_FnSets.j0 k l0 t393 t399 t400 true)) = some r := H
              have A37 := Aside0.mk A370
              clear A370
              by_cases c38 : t416 = t417
              · rw [if_pos c38] at H
                have c38b0 : (t416 == t417) = true := beq_iff_eq.mpr c38
                have c38b1 : (t416 != t417) = false := bne_eq_false_iff_eq.mpr c38
                clear c38
                replace H := Option.bind_eq_some_iff.mp H
                obtain ⟨t418, A390, H⟩ := H
                replace H : ((spec_IsSubset.f t399 t400).bind fun t419 => (if (t418 != t419) = true then (laws_FnSets.j0 k l0 t393 t399 t400 true) else ((impl_BeforeSet.f k t399 t400).bind fun t420 => ((spec_BeforeSet.f t399 t400).bind fun t421 => (if (t420 != t421) = true then (laws_FnSets.j0 k l0 t393 t399 t400 true) else ((impl_SortLectic.f t401).bind fun t422 => ((spec_SortLectic.f k t401).bind fun t425 => ((laws_sameInts.f k t422 t425).bind fun t428 => (if t428 = true then ((impl_SetsText.f k t401).bind fun t429 => ((spec_SetsText.f k t401).bind fun t430 => (laws_FnSets.j0 k l0 t393 t399 t400 (t429.toList != t430.toList)))) else (laws_FnSets.j0 k l0 t393 t399 t400 true)))))))))) = some r := H
                have A39 := Aside0.mk A390
                clear A390
                replace H := Option.bind_eq_some_iff.mp H
                obtain ⟨t419, A400, H⟩ := H
                replace H : (if (t418 != t419) = true then (laws_FnSets.j0 k l0 t393 t399 t400 true) else ((impl_BeforeSet.f k t399 t400).bind fun t420 => ((spec_BeforeSet.f t399 t400).bind fun t421 => (if (t420 != t421) = true then (laws_FnSets.j0 k l0 t393 t399 t400 true) else ((impl_SortLectic.f t401).bind fun t422 => ((spec_SortLectic.f k t401).bind fun t425 => ((laws_sameInts.f k t422 t425).bind fun t428 => (if t428 = true then ((impl_SetsText.f k t401).bind fun t429 => ((spec_SetsText.f k t401).bind fun t430 => (laws_FnSets.j0 k l0 t393 t399 t400 (t429.toList != t430.toList)))) else (laws_FnSets.j0 k l0 t393 t399 t400 true))))))))) = some r := H
                have A40 := Aside0.mk A400
                clear A400
                by_cases c41 : (t418 != t419) = true
                · rw [if_pos c41] at H
                  have c41b0 : (t418 != t419) = true := c41
                  (try (have c41b1 : decide (t418 = t419) = false := by simpa using c41))
                  (try (have c41b2 : (t418 == t419) = false := by simpa using c41))
                  (try (have c41b3 : ¬ (t418 = t419) := by simpa using c41))
                  clear c41
                  exact (laws_FnSets.j0_dead _ _ _ _ _ (by rw [HRR.out] at H; exact H)).elim
                · rw [if_neg c41] at H
                  have c41b0 : (t418 != t419) = false := by simpa using c41
                  (try (have c41b1 : decide (t418 = t419) = true := by simpa using c41))
                  (try (have c41b2 : (t418 == t419) = true := by simpa using c41))
                  clear c41
                  replace H := Option.bind_eq_some_iff.mp H
                  obtain ⟨t420, A450, H⟩ := H
                  replace H : ((spec_BeforeSet.f t399 t400).bind fun t421 => (if (t420 != t421) = true then (laws_FnSets.j0 k l0 t393 t399 t400 true) else ((impl_SortLectic.f t401).bind fun t422 => ((spec_SortLectic.f k t401).bind fun t425 => ((laws_sameInts.f k t422 t425).bind fun t428 => (if t428 = true then ((impl_SetsText.f k t401).bind fun t429 => ((spec_SetsText.f k t401).bind fun t430 => (laws_FnSets.j0 k l0 t393 t399 t400 (t429.toList != t430.toList)))) else (laws_FnSets.j0 k l0 t393 t399 t400 true))))))) = some r := H
                  have A45 := Aside0.mk A450
                  clear A450
                  replace H := Option.bind_eq_some_iff.mp H
                  obtain ⟨t421, A460, H⟩ := H
                  replace H : (if (t420 != t421) = true then (laws_FnSets.j0 k l0 t393 t399 t400 true) else ((impl_SortLectic.f t401).bind fun t422 => ((spec_SortLectic.f k t401).bind fun t425 => ((laws_sameInts.f k t422 t425).bind fun t428 => (if t428 = true then ((impl_SetsText.f k t401).bind fun t429 => ((spec_SetsText.f k t401).bind fun t430 => (laws_FnSets.j0 k l0 t393 t399 t400 (t429.toList != t430.toList)))) else (laws_FnSets.j0 k l0 t393 t399 t400 true)))))) = some r := H
                  have A46 := Aside0.mk A460
                  clear A460
                  by_cases c47 : (t420 != t421) = true
                  · rw [if_pos c47] at H
                    have c47b0 : (t420 != t421) = true := c47
                    (try (have c47b1 : decide (t420 = t421) = false := by simpa using c47))
                    (try (have c47b2 : (t420 == t421) = false := by simpa using c47))
                    (try (have c47b3 : ¬ (t420 = t421) := by simpa using c47))
                    clear c47
                    exact (laws_FnSets.j0_dead _ _ _ _ _ (by rw [HRR.out] at H; exact H)).elim
                  · rw [if_neg c47] at H
                    have c47b0 : (t420 != t421) = false := by simpa using c47
                    (try (have c47b1 : decide (t420 = t421) = true := by simpa using c47))
                    (try (have c47b2 : (t420 == t421) = true := by simpa using c47))
                    clear c47
                    replace H := Option.bind_eq_some_iff.mp H
                    obtain ⟨t422, A510, H⟩ := H
                    replace H : ((spec_SortLectic.f k t401).bind fun t425 => ((laws_sameInts.f k t422 t425).bind fun t428 => (if t428 = true then ((impl_SetsText.f k t401).bind fun t429 => ((spec_SetsText.f k t401).bind fun t430 => (laws_FnSets.j0 k l0 t393 t399 t400 (t429.toList != t430.toList)))) else (laws_FnSets.j0 k l0 t393 t399 t400 true)))) = some r := H
                    have A51 := Aside0.mk A510
                    clear A510
                    replace H := Option.bind_eq_some_iff.mp H
                    obtain ⟨t425, A520, H⟩ := H
                    replace H : ((laws_sameInts.f k t422 t425).bind fun t428 => (if t428 = true then ((impl_SetsText.f k t401).bind fun t429 => ((spec_SetsText.f k t401).bind fun t430 => (laws_FnSets.j0 k l0 t393 t399 t400 (t429.toList != t430.toList)))) else (laws_FnSets.j0 k l0 t393 t399 t400 true))) = some r := H
                    have A52 := Aside0.mk A520
                    clear A520
                    replace H := Option.bind_eq_some_iff.mp H
                    obtain ⟨t428, A530, H⟩ := H
                    replace H : (if t428 = true then ((impl_SetsText.f k t401).bind fun t429 => ((spec_SetsText.f k t401).bind fun t430 => (laws_FnSets.j0 k l0 t393 t399 t400 (t429.toList != t430.toList)))) else (laws_FnSets.j0 k l0 t393 t399 t400 true)) = some r := H
                    have A53 := Aside0.mk A530
                    clear A530
                    by_cases c54 : t428 = true
                    · subst c54
                      have H1 : ((impl_SetsText.f k t401).bind fun t429 => ((spec_SetsText.f k t401).bind fun t430 => (laws_FnSets.j0 k l0 t393 t399 t400 (t429.toList != t430.toList)))) = some r := by rw [if_pos rfl] at H; exact H
                      clear H
                      have H := H1
                      clear H1
                      replace H := Option.bind_eq_some_iff.mp H
                      obtain ⟨t429, A550, H⟩ := H
                      replace H : ((spec_SetsText.f k t401).bind fun t430 => (laws_FnSets.j0 k l0 t393 t399 t400 (t429.toList != t430.toList))) = some r := H
                      have A55 := Aside0.mk A550
                      clear A550
                      replace H := Option.bind_eq_some_iff.mp H
                      obtain ⟨t430, A560, H⟩ := H
                      replace H : (laws_FnSets.j0 k l0 t393 t399 t400 (t429.toList != t430.toList)) = some r := H
                      have A56 := Aside0.mk A560
                      clear A560
                      have H' := Aside0.mk H
                      clear H
                      go_wp2_with (first | ((with_reducible refine gate_callee (f := 20) rfl ?_); refine goesL_ (some 48) rfl rfl Tryd.func20 (by kernel_rfl) rfl #[.int .i64 t393] rfl (by (try simp only [List.map_toArray, List.map_cons, List.map_nil]); first | done | rfl | (simp only [List.length_drop, List.length_take]; rfl)) ?_; (with_reducible refine (spec_ElementsOf.calls k t393 t407 _ A19.out).mono ?_); rintro e w57 ⟨v408, rfl, ho0, hb⟩; refine ⟨_, rfl, ?_⟩; have n0_ := Aside0.mk (Kd.R_elder' (by (with_reducible repeat (first | apply Kd.R_alloc | apply Kd.R_drewN | apply Kd.R_drew)); exact HO403.out) (Kd.R_base ho0) hb); have n1_ := Aside0.mk (Kd.R_elder' (by (with_reducible repeat (first | apply Kd.R_alloc | apply Kd.R_drewN | apply Kd.R_drew)); exact HO406.out) (Kd.R_base ho0) hb); have n2_ := Aside0.mk (Kd.R_lower (Kd.R_new' (Kd.R_new' ho0 (Kd.R_lt (by (with_reducible repeat (first | apply Kd.R_alloc | apply Kd.R_drewN | apply Kd.R_drew)); exact HO403.out))) (Kd.R_lt (by (with_reducible repeat (first | apply Kd.R_alloc | apply Kd.R_drewN | apply Kd.R_drew)); exact HO406.out))) (below_size (by repeat (first | (with_reducible first | exact HB.out | apply below_alloc | apply pw_below_drewN | apply below_drew1) | exact HB.out)))); have n3_ := Aside0.mk (below_step (by repeat (first | (with_reducible first | exact HB.out | apply below_alloc | apply pw_below_drewN | apply below_drew1) | exact HB.out)) hb); clear HO403; clear HO406; clear HB; have HO403 := n0_; have HO406 := n1_; have HO409 := n2_; have HB := n3_; clear n0_ n1_ n2_ n3_; (try clear hb); (try clear hb2); (try clear hk); (try clear hi); (try clear ho0); obtain ⟨Ao58, co58, eo58⟩ := Kd.R_slice HO406.out; subst eo58; obtain ⟨Ao59, co59, eo59⟩ := Kd.R_slice HO409.out; subst eo59) | (go_at_call 20; (with_reducible refine (spec_ElementsOf.calls k t393 t407 _ A19.out).mono ?_); rintro e w57 ⟨v408, rfl, ho0, hb⟩; have n0_ := Aside0.mk (Kd.R_elder' (by (with_reducible repeat (first | apply Kd.R_alloc | apply Kd.R_drewN | apply Kd.R_drew)); exact HO403.out) (Kd.R_base ho0) hb); have n1_ := Aside0.mk (Kd.R_elder' (by (with_reducible repeat (first | apply Kd.R_alloc | apply Kd.R_drewN | apply Kd.R_drew)); exact HO406.out) (Kd.R_base ho0) hb); have n2_ := Aside0.mk (Kd.R_lower (Kd.R_new' (Kd.R_new' ho0 (Kd.R_lt (by (with_reducible repeat (first | apply Kd.R_alloc | apply Kd.R_drewN | apply Kd.R_drew)); exact HO403.out))) (Kd.R_lt (by (with_reducible repeat (first | apply Kd.R_alloc | apply Kd.R_drewN | apply Kd.R_drew)); exact HO406.out))) (below_size (by repeat (first | (with_reducible first | exact HB.out | apply below_alloc | apply pw_below_drewN | apply below_drew1) | exact HB.out)))); have n3_ := Aside0.mk (below_step (by repeat (first | (with_reducible first | exact HB.out | apply below_alloc | apply pw_below_drewN | apply below_drew1) | exact HB.out)) hb); clear HO403; clear HO406; clear HB; have HO403 := n0_; have HO406 := n1_; have HO409 := n2_; have HB := n3_; clear n0_ n1_ n2_ n3_; (try clear hb); (try clear hb2); (try clear hk); (try clear hi); (try clear ho0); obtain ⟨Ao58, co58, eo58⟩ := Kd.R_slice HO406.out; subst eo58; obtain ⟨Ao59, co59, eo59⟩ := Kd.R_slice HO409.out; subst eo59) | ((with_reducible refine gate_callee (f := 19) rfl ?_); refine goesL_ (some 49) rfl rfl Tryd.func19 (by kernel_rfl) rfl #[.slice Ao58 t404.length co58, .slice Ao59 t407.length co59] rfl (by (try simp only [List.map_toArray, List.map_cons, List.map_nil]); first | done | rfl | (simp only [List.length_drop, List.length_take]; rfl)) ?_; (with_reducible refine (laws_sameInts.calls k _ _ t404 _ _ t407 true _ ?side1 ?side2 ?side3 ?side4 A20.out).mono ?_); (case side1 => repeat (first | exact (Kd.R_reads' HO406.out).2.2 | (with_reducible refine Kd.C_alloc ?_ _) | (with_reducible refine Kd.C_drewN ?_ _) | (with_reducible refine Kd.C_drew ?_))); (case side2 => exact (Kd.R_reads' HO406.out).2.1); (case side3 => repeat (first | exact (Kd.R_reads' HO409.out).2.2 | (with_reducible refine Kd.C_alloc ?_ _) | (with_reducible refine Kd.C_drewN ?_ _) | (with_reducible refine Kd.C_drew ?_))); (case side4 => exact (Kd.R_reads' HO409.out).2.1); rintro e w' ⟨rfl, ⟨nd, rfl⟩⟩; refine ⟨_, rfl, ?_⟩) | (go_at_call 19; (with_reducible refine (laws_sameInts.calls k _ _ t404 _ _ t407 true _ ?side1 ?side2 ?side3 ?side4 A20.out).mono ?_); (case side1 => repeat (first | exact (Kd.R_reads' HO406.out).2.2 | (with_reducible refine Kd.C_alloc ?_ _) | (with_reducible refine Kd.C_drewN ?_ _) | (with_reducible refine Kd.C_drew ?_))); (case side2 => exact (Kd.R_reads' HO406.out).2.1); (case side3 => repeat (first | exact (Kd.R_reads' HO409.out).2.2 | (with_reducible refine Kd.C_alloc ?_ _) | (with_reducible refine Kd.C_drewN ?_ _) | (with_reducible refine Kd.C_drew ?_))); (case side4 => exact (Kd.R_reads' HO409.out).2.1); rintro e w' ⟨rfl, ⟨nd, rfl⟩⟩) | (go_at_call 21; (with_reducible refine (impl_CountOf.calls t393 t411 _ A22.out).mono ?_); rintro e w' ⟨rfl, ⟨nd, rfl⟩⟩) | (go_at_call 22; (with_reducible refine (impl_HasElement.calls t394 t395 t412 _ A24.out).mono ?_); rintro e w' ⟨rfl, ⟨nd, rfl⟩⟩) | (go_at_call 23; (with_reducible refine (spec_HasElement.calls t394 t395 t413 _ A25.out).mono ?_); rintro e w' ⟨rfl, ⟨nd, rfl⟩⟩) | (go_at_call 24; (with_reducible refine (impl_IsSet.calls t396 t397 t414 _ A30.out).mono ?_); rintro e w' ⟨rfl, ⟨nd, rfl⟩⟩) | (go_at_call 25; (with_reducible refine (spec_IsSet.calls t396 t397 t415 _ A31.out).mono ?_); rintro e w' ⟨rfl, ⟨nd, rfl⟩⟩) | (go_at_call 26; (with_reducible refine (impl_FullSet.calls t398 t416 _ A36.out).mono ?_); rintro e w' ⟨rfl, ⟨nd, rfl⟩⟩) | (go_at_call 27; (with_reducible refine (spec_FullSet.calls t398 t417 _ A37.out).mono ?_); rintro e w' ⟨rfl, ⟨nd, rfl⟩⟩) | (go_at_call 28; (with_reducible refine (impl_IsSubset.calls t399 t400 t418 _ A39.out).mono ?_); rintro e w' ⟨rfl, ⟨nd, rfl⟩⟩) | (go_at_call 29; (with_reducible refine (spec_IsSubset.calls t399 t400 t419 _ A40.out).mono ?_); rintro e w' ⟨rfl, ⟨nd, rfl⟩⟩) | (go_at_call 30; (with_reducible refine (impl_BeforeSet.calls k t399 t400 t420 _ ?sideT A45.out).mono ?_); (case sideT => first | exact HRT.out | (repeat (first | exact HRT.out | exact (TabW.below HRT.out HB.out) | (with_reducible refine TabW.alloc ?_ _) | (with_reducible refine TabW.drewN ?_ _) | (with_reducible refine TabW.drew ?_))); done | exact (TabW.below HRT.out (by repeat (first | (with_reducible first | exact HB.out | apply below_alloc | apply pw_below_drewN | apply below_drew1) | exact HB.out)))); rintro e w' ⟨rfl, ⟨nd, rfl⟩⟩) | (go_at_call 31; (with_reducible refine (spec_BeforeSet.calls t399 t400 t421 _ A46.out).mono ?_); rintro e w' ⟨rfl, ⟨nd, rfl⟩⟩; obtain ⟨Ao60, co60, eo60⟩ := Kd.R_slice HO403.out; subst eo60) | (go_at_call 32; (with_reducible refine (impl_SortLectic.calls _ _ t401 t422 _ ?side1 ?side2 ?sideT A51.out).mono ?_); (case sideT => first | exact HRT.out | (repeat (first | exact HRT.out | exact (TabW.below HRT.out HB.out) | (with_reducible refine TabW.alloc ?_ _) | (with_reducible refine TabW.drewN ?_ _) | (with_reducible refine TabW.drew ?_))); done | exact (TabW.below HRT.out (by repeat (first | (with_reducible first | exact HB.out | apply below_alloc | apply pw_below_drewN | apply below_drew1) | exact HB.out)))); (case side1 => repeat (first | exact (Kd.R_reads' HO403.out).2.2 | (with_reducible refine Kd.C_alloc ?_ _) | (with_reducible refine Kd.C_drewN ?_ _) | (with_reducible refine Kd.C_drew ?_))); (case side2 => exact (Kd.R_reads' HO403.out).2.1); rintro e w61 ⟨v423, rfl, ho0, hb⟩; have n0_ := Aside0.mk (Kd.R_elder' (by (with_reducible repeat (first | apply Kd.R_alloc | apply Kd.R_drewN | apply Kd.R_drew)); exact HO403.out) (Kd.R_base ho0) hb); have n1_ := Aside0.mk (Kd.R_elder' (by (with_reducible repeat (first | apply Kd.R_alloc | apply Kd.R_drewN | apply Kd.R_drew)); exact HO406.out) (Kd.R_base ho0) hb); have n2_ := Aside0.mk (Kd.R_elder' (by (with_reducible repeat (first | apply Kd.R_alloc | apply Kd.R_drewN | apply Kd.R_drew)); exact HO409.out) (Kd.R_base ho0) hb); have n3_ := Aside0.mk (Kd.R_lower (Kd.R_new' (Kd.R_new' (Kd.R_new' ho0 (Kd.R_lt (by (with_reducible repeat (first | apply Kd.R_alloc | apply Kd.R_drewN | apply Kd.R_drew)); exact HO403.out))) (Kd.R_lt (by (with_reducible repeat (first | apply Kd.R_alloc | apply Kd.R_drewN | apply Kd.R_drew)); exact HO406.out))) (Kd.R_lt (by (with_reducible repeat (first | apply Kd.R_alloc | apply Kd.R_drewN | apply Kd.R_drew)); exact HO409.out))) (below_size (by repeat (first | (with_reducible first | exact HB.out | apply below_alloc | apply pw_below_drewN | apply below_drew1) | exact HB.out)))); have n4_ := Aside0.mk (below_step (by repeat (first | (with_reducible first | exact HB.out | apply below_alloc | apply pw_below_drewN | apply below_drew1) | exact HB.out)) hb); clear HO403; clear HO406; clear HO409; clear HB; have HO403 := n0_; have HO406 := n1_; have HO409 := n2_; have HO424 := n3_; have HB := n4_; clear n0_ n1_ n2_ n3_ n4_; (try clear hb); (try clear hb2); (try clear hk); (try clear hi); (try clear ho0)) | (go_at_call 33; (with_reducible refine (spec_SortLectic.calls k _ _ t401 t425 _ ?side1 ?side2 A52.out).mono ?_); (case side1 => repeat (first | exact (Kd.R_reads' HO403.out).2.2 | (with_reducible refine Kd.C_alloc ?_ _) | (with_reducible refine Kd.C_drewN ?_ _) | (with_reducible refine Kd.C_drew ?_))); (case side2 => exact (Kd.R_reads' HO403.out).2.1); rintro e w62 ⟨v426, rfl, ho0, hb⟩; have n0_ := Aside0.mk (Kd.R_elder' (by (with_reducible repeat (first | apply Kd.R_alloc | apply Kd.R_drewN | apply Kd.R_drew)); exact HO403.out) (Kd.R_base ho0) hb); have n1_ := Aside0.mk (Kd.R_elder' (by (with_reducible repeat (first | apply Kd.R_alloc | apply Kd.R_drewN | apply Kd.R_drew)); exact HO406.out) (Kd.R_base ho0) hb); have n2_ := Aside0.mk (Kd.R_elder' (by (with_reducible repeat (first | apply Kd.R_alloc | apply Kd.R_drewN | apply Kd.R_drew)); exact HO409.out) (Kd.R_base ho0) hb); have n3_ := Aside0.mk (Kd.R_elder' (by (with_reducible repeat (first | apply Kd.R_alloc | apply Kd.R_drewN | apply Kd.R_drew)); exact HO424.out) (Kd.R_base ho0) hb); have n4_ := Aside0.mk (Kd.R_lower (Kd.R_new' (Kd.R_new' (Kd.R_new' (Kd.R_new' ho0 (Kd.R_lt (by (with_reducible repeat (first | apply Kd.R_alloc | apply Kd.R_drewN | apply Kd.R_drew)); exact HO403.out))) (Kd.R_lt (by (with_reducible repeat (first | apply Kd.R_alloc | apply Kd.R_drewN | apply Kd.R_drew)); exact HO406.out))) (Kd.R_lt (by (with_reducible repeat (first | apply Kd.R_alloc | apply Kd.R_drewN | apply Kd.R_drew)); exact HO409.out))) (Kd.R_lt (by (with_reducible repeat (first | apply Kd.R_alloc | apply Kd.R_drewN | apply Kd.R_drew)); exact HO424.out))) (below_size (by repeat (first | (with_reducible first | exact HB.out | apply below_alloc | apply pw_below_drewN | apply below_drew1) | exact HB.out)))); have n5_ := Aside0.mk (below_step (by repeat (first | (with_reducible first | exact HB.out | apply below_alloc | apply pw_below_drewN | apply below_drew1) | exact HB.out)) hb); clear HO403; clear HO406; clear HO409; clear HO424; clear HB; have HO403 := n0_; have HO406 := n1_; have HO409 := n2_; have HO424 := n3_; have HO427 := n4_; have HB := n5_; clear n0_ n1_ n2_ n3_ n4_ n5_; (try clear hb); (try clear hb2); (try clear hk); (try clear hi); (try clear ho0); obtain ⟨Ao63, co63, eo63⟩ := Kd.R_slice HO424.out; subst eo63; obtain ⟨Ao64, co64, eo64⟩ := Kd.R_slice HO427.out; subst eo64) | (go_at_call 19; (with_reducible refine (laws_sameInts.calls k _ _ t422 _ _ t425 true _ ?side1 ?side2 ?side3 ?side4 A53.out).mono ?_); (case side1 => repeat (first | exact (Kd.R_reads' HO424.out).2.2 | (with_reducible refine Kd.C_alloc ?_ _) | (with_reducible refine Kd.C_drewN ?_ _) | (with_reducible refine Kd.C_drew ?_))); (case side2 => exact (Kd.R_reads' HO424.out).2.1); (case side3 => repeat (first | exact (Kd.R_reads' HO427.out).2.2 | (with_reducible refine Kd.C_alloc ?_ _) | (with_reducible refine Kd.C_drewN ?_ _) | (with_reducible refine Kd.C_drew ?_))); (case side4 => exact (Kd.R_reads' HO427.out).2.1); rintro e w' ⟨rfl, ⟨nd, rfl⟩⟩) | (go_at_call 34; (with_reducible refine (impl_SetsText.calls k _ _ t401 t429 _ ?side1 ?side2 A55.out).mono ?_); (case side1 => repeat (first | exact (Kd.R_reads' HO403.out).2.2 | (with_reducible refine Kd.C_alloc ?_ _) | (with_reducible refine Kd.C_drewN ?_ _) | (with_reducible refine Kd.C_drew ?_))); (case side2 => exact (Kd.R_reads' HO403.out).2.1); rintro e w65 ⟨rfl, hb⟩; have n0_ := Aside0.mk (Kd.R_below (by (with_reducible repeat (first | apply Kd.R_alloc | apply Kd.R_drewN | apply Kd.R_drew)); exact HO403.out) hb); have n1_ := Aside0.mk (Kd.R_below (by (with_reducible repeat (first | apply Kd.R_alloc | apply Kd.R_drewN | apply Kd.R_drew)); exact HO406.out) hb); have n2_ := Aside0.mk (Kd.R_below (by (with_reducible repeat (first | apply Kd.R_alloc | apply Kd.R_drewN | apply Kd.R_drew)); exact HO409.out) hb); have n3_ := Aside0.mk (Kd.R_below (by (with_reducible repeat (first | apply Kd.R_alloc | apply Kd.R_drewN | apply Kd.R_drew)); exact HO424.out) hb); have n4_ := Aside0.mk (Kd.R_below (by (with_reducible repeat (first | apply Kd.R_alloc | apply Kd.R_drewN | apply Kd.R_drew)); exact HO427.out) hb); have n5_ := Aside0.mk (below_step (by repeat (first | (with_reducible first | exact HB.out | apply below_alloc | apply pw_below_drewN | apply below_drew1) | exact HB.out)) hb); clear HO403; clear HO406; clear HO409; clear HO424; clear HO427; clear HB; have HO403 := n0_; have HO406 := n1_; have HO409 := n2_; have HO424 := n3_; have HO427 := n4_; have HB := n5_; clear n0_ n1_ n2_ n3_ n4_ n5_; (try clear hb); (try clear hb2); (try clear hk); (try clear hi)) | (go_at_call 35; (with_reducible refine (spec_SetsText.calls k _ _ t401 t430 _ ?side1 ?side2 A56.out).mono ?_); (case side1 => repeat (first | exact (Kd.R_reads' HO403.out).2.2 | (with_reducible refine Kd.C_alloc ?_ _) | (with_reducible refine Kd.C_drewN ?_ _) | (with_reducible refine Kd.C_drew ?_))); (case side2 => exact (Kd.R_reads' HO403.out).2.1); rintro e w66 ⟨rfl, hb⟩; have n0_ := Aside0.mk (Kd.R_below (by (with_reducible repeat (first | apply Kd.R_alloc | apply Kd.R_drewN | apply Kd.R_drew)); exact HO403.out) hb); have n1_ := Aside0.mk (Kd.R_below (by (with_reducible repeat (first | apply Kd.R_alloc | apply Kd.R_drewN | apply Kd.R_drew)); exact HO406.out) hb); have n2_ := Aside0.mk (Kd.R_below (by (with_reducible repeat (first | apply Kd.R_alloc | apply Kd.R_drewN | apply Kd.R_drew)); exact HO409.out) hb); have n3_ := Aside0.mk (Kd.R_below (by (with_reducible repeat (first | apply Kd.R_alloc | apply Kd.R_drewN | apply Kd.R_drew)); exact HO424.out) hb); have n4_ := Aside0.mk (Kd.R_below (by (with_reducible repeat (first | apply Kd.R_alloc | apply Kd.R_drewN | apply Kd.R_drew)); exact HO427.out) hb); have n5_ := Aside0.mk (below_step (by repeat (first | (with_reducible first | exact HB.out | apply below_alloc | apply pw_below_drewN | apply below_drew1) | exact HB.out)) hb); clear HO403; clear HO406; clear HO409; clear HO424; clear HO427; clear HB; have HO403 := n0_; have HO406 := n1_; have HO409 := n2_; have HO424 := n3_; have HO427 := n4_; have HB := n5_; clear n0_ n1_ n2_ n3_ n4_ n5_; (try clear hb); (try clear hb2); (try clear hk); (try clear hi)))
                      go_meet
                      case rel => exact ⟨_, ((t429.toList != t430.toList)), (by first | rfl | (simp; done) | (simp [*]; done)), H', ⟨by first | omega | exact Nat.le_refl _⟩, ⟨by repeat (first | (with_reducible first | exact HB.out | apply below_alloc | apply pw_below_drewN | apply below_drew1) | exact HB.out)⟩⟩
                    · replace c54 := Bool.eq_false_iff.mpr c54
                      subst c54
                      have H1 : (laws_FnSets.j0 k l0 t393 t399 t400 true) = some r := by rw [if_neg (show ¬ (false = true) by decide)] at H; exact H
                      clear H
                      have H := H1
                      clear H1
                      exact (laws_FnSets.j0_dead _ _ _ _ _ (by rw [HRR.out] at H; exact H)).elim
              · rw [if_neg c38] at H
                have c38b0 : (t416 == t417) = false := beq_eq_false_iff_ne.mpr c38
                have c38b1 : (t416 != t417) = true := bne_iff_ne.mpr c38
                exact (laws_FnSets.j0_dead _ _ _ _ _ (by rw [HRR.out] at H; exact H)).elim
        · rw [if_neg c23] at H
          have c23b0 : (t411 == (t404.length : Int)) = false := beq_eq_false_iff_ne.mpr c23
          have c23b1 : (t411 != (t404.length : Int)) = true := bne_iff_ne.mpr c23
          (first | rw [c23b0] | (simp only [i64_w, i32_w]; rw [c23b0]) | skip)
          exact (laws_FnSets.j0_dead _ _ _ _ _ (by rw [HRR.out] at H; exact H)).elim
      · replace c21 := Bool.eq_false_iff.mpr c21
        subst c21
        have H1 : (laws_FnSets.j0 k l0 t393 t399 t400 true) = some r := by rw [if_neg (show ¬ (false = true) by decide)] at H; exact H
        clear H
        have H := H1
        clear H1
        exact (laws_FnSets.j0_dead _ _ _ _ _ (by rw [HRR.out] at H; exact H)).elim
    case rest =>
      clear HC11
      try clear c1
      try clear c2
      try clear p2
      try clear c3
      try clear c4
      try clear c5
      try clear c11
      try clear c12
      try clear c13
      try clear c14
      try clear c15
      try clear c16
      try clear c17
      try clear c18
      try clear c19
      try clear c20
      try clear c21
      try clear c23
      try clear c23b0
      try clear c23b1
      try clear c26
      try clear c26b0
      try clear c26b1
      try clear c26b2
      try clear c32
      try clear c32b0
      try clear c32b1
      try clear c32b2
      try clear c38
      try clear c38b0
      try clear c38b1
      try clear c41
      try clear c41b0
      try clear c41b1
      try clear c41b2
      try clear c47
      try clear c47b0
      try clear c47b1
      try clear c47b2
      try clear c54
      obtain ⟨kq, x115_10, rfl, HA, HJ10, HB⟩ := hcut
      cases kq with
      | zero => exact absurd HA.out (by simp [laws_FnSets.j0])
      | succ kj10 =>
        have H := HA.out
        clear HA
        simp only [laws_FnSets.j0] at H
        by_cases c84 : x115_10 = true
        · subst c84
          have H1 : (some false) = some r := by rw [if_pos rfl] at H; exact H
          clear H
          have H := H1
          clear H1
          exact absurd (Option.some.inj H) (by rw [HRR.out]; decide)
        · replace c84 := Bool.eq_false_iff.mpr c84
          subst c84
          have H1 : ((spec_IsSet.f 8 t399).bind fun t431 => (if t431 = true then ((spec_IsSet.f 8 t400).bind fun t432 => (if t432 = true then (if t399 = t400 then (laws_FnSets.j1 kj10 l0 t393 false) else ((impl_BeforeSet.f kj10 t399 t400).bind fun t433 => ((impl_BeforeSet.f kj10 t400 t399).bind fun t434 => (if (t433 == t434) = true then (laws_FnSets.j1 kj10 l0 t393 true) else ((impl_IsSubset.f t399 t400).bind fun t435 => (if t435 = true then ((impl_BeforeSet.f kj10 t399 t400).bind fun t436 => (laws_FnSets.j1 kj10 l0 t393 (!t436))) else (laws_FnSets.j1 kj10 l0 t393 false))))))) else (laws_FnSets.j1 kj10 l0 t393 false))) else (laws_FnSets.j1 kj10 l0 t393 false))) = some r := by rw [if_neg (show ¬ (false = true) by decide)] at H; exact H
          clear H
          have H := H1
          clear H1
          have HC85 := Aside0.mk H
          clear H
          go_upto_region 12 with (fail)
          go_cut [146] (fun v146 wc => ∃ (kq : Nat) (x146_84 : Bool), v146 = .bool x146_84 ∧ Aside0 (laws_FnSets.j1 kq l0 t393 x146_84 = some r) ∧ Aside0 (kq ≤ kj10) ∧ Aside0 (Below w.heap.size w wc))
          case first =>
            have H := HC85.out
            clear HC85
            replace H := Option.bind_eq_some_iff.mp H
            obtain ⟨t431, A860, H⟩ := H
            replace H : (if t431 = true then ((spec_IsSet.f 8 t400).bind fun t432 => (if t432 = true then (if t399 = t400 then (laws_FnSets.j1 kj10 l0 t393 false) else ((impl_BeforeSet.f kj10 t399 t400).bind fun t433 => ((impl_BeforeSet.f kj10 t400 t399).bind fun t434 => (if (t433 == t434) = true then (laws_FnSets.j1 kj10 l0 t393 true) else ((impl_IsSubset.f t399 t400).bind fun t435 => (if t435 = true then ((impl_BeforeSet.f kj10 t399 t400).bind fun t436 => (laws_FnSets.j1 kj10 l0 t393 (!t436))) else (laws_FnSets.j1 kj10 l0 t393 false))))))) else (laws_FnSets.j1 kj10 l0 t393 false))) else (laws_FnSets.j1 kj10 l0 t393 false)) = some r := H
            have A86 := Aside0.mk A860
            clear A860
            by_cases c87 : t431 = true
            · subst c87
              have H1 : ((spec_IsSet.f 8 t400).bind fun t432 => (if t432 = true then (if t399 = t400 then (laws_FnSets.j1 kj10 l0 t393 false) else ((impl_BeforeSet.f kj10 t399 t400).bind fun t433 => ((impl_BeforeSet.f kj10 t400 t399).bind fun t434 => (if (t433 == t434) = true then (laws_FnSets.j1 kj10 l0 t393 true) else ((impl_IsSubset.f t399 t400).bind fun t435 => (if t435 = true then ((impl_BeforeSet.f kj10 t399 t400).bind fun t436 => (laws_FnSets.j1 kj10 l0 t393 (!t436))) else (laws_FnSets.j1 kj10 l0 t393 false))))))) else (laws_FnSets.j1 kj10 l0 t393 false))) = some r := by rw [if_pos rfl] at H; exact H
              clear H
              have H := H1
              clear H1
              replace H := Option.bind_eq_some_iff.mp H
              obtain ⟨t432, A880, H⟩ := H
              replace H : (if t432 = true then (if t399 = t400 then (laws_FnSets.j1 kj10 l0 t393 false) else ((impl_BeforeSet.f kj10 t399 t400).bind fun t433 => ((impl_BeforeSet.f kj10 t400 t399).bind fun t434 => (if (t433 == t434) = true then (laws_FnSets.j1 kj10 l0 t393 true) else ((impl_IsSubset.f t399 t400).bind fun t435 => (if t435 = true then ((impl_BeforeSet.f kj10 t399 t400).bind fun t436 => (laws_FnSets.j1 kj10 l0 t393 (!t436))) else (laws_FnSets.j1 kj10 l0 t393 false))))))) else (laws_FnSets.j1 kj10 l0 t393 false)) = some r := H
              have A88 := Aside0.mk A880
              clear A880
              by_cases c89 : t432 = true
              · subst c89
                have H1 : (if t399 = t400 then (laws_FnSets.j1 kj10 l0 t393 false) else ((impl_BeforeSet.f kj10 t399 t400).bind fun t433 => ((impl_BeforeSet.f kj10 t400 t399).bind fun t434 => (if (t433 == t434) = true then (laws_FnSets.j1 kj10 l0 t393 true) else ((impl_IsSubset.f t399 t400).bind fun t435 => (if t435 = true then ((impl_BeforeSet.f kj10 t399 t400).bind fun t436 => (laws_FnSets.j1 kj10 l0 t393 (!t436))) else (laws_FnSets.j1 kj10 l0 t393 false))))))) = some r := by rw [if_pos rfl] at H; exact H
                clear H
                have H := H1
                clear H1
                by_cases c90 : t399 = t400
                · rw [if_pos c90] at H
                  have c90b0 : (t399 == t400) = true := beq_iff_eq.mpr c90
                  have c90b1 : (t399 != t400) = false := bne_eq_false_iff_eq.mpr c90
                  clear c90
                  (first | rw [c90b0] | (simp only [i64_w, i32_w]; rw [c90b0]) | skip)
                  have H' := Aside0.mk H
                  clear H
                  go_wp2_with (first | ((with_reducible refine gate_callee (f := 25) rfl ?_); refine goesL_ (some 117) rfl rfl Tryd.func25 (by kernel_rfl) rfl #[.int .i64 8, .int .i64 t399] rfl (by (try simp only [List.map_toArray, List.map_cons, List.map_nil]); first | done | rfl | (simp only [List.length_drop, List.length_take]; rfl)) ?_; (with_reducible refine (spec_IsSet.calls 8 t399 true _ A86.out).mono ?_); rintro e w' ⟨rfl, ⟨nd, rfl⟩⟩; refine ⟨_, rfl, ?_⟩) | (go_at_call 25; (with_reducible refine (spec_IsSet.calls 8 t399 true _ A86.out).mono ?_); rintro e w' ⟨rfl, ⟨nd, rfl⟩⟩) | (go_at_call 25; (with_reducible refine (spec_IsSet.calls 8 t400 true _ A88.out).mono ?_); rintro e w' ⟨rfl, ⟨nd, rfl⟩⟩))
                  go_meet
                  case rel => exact ⟨_, (false), (by first | rfl | (simp; done) | (simp [*]; done)), H', ⟨by have := HJ10.out; first | omega | exact Nat.le_refl _⟩, ⟨by repeat (first | (with_reducible first | exact HB.out | apply below_alloc | apply pw_below_drewN | apply below_drew1) | exact HB.out)⟩⟩
                · rw [if_neg c90] at H
                  have c90b0 : (t399 == t400) = false := beq_eq_false_iff_ne.mpr c90
                  have c90b1 : (t399 != t400) = true := bne_iff_ne.mpr c90
                  (first | rw [c90b0] | (simp only [i64_w, i32_w]; rw [c90b0]) | skip)
                  replace H := Option.bind_eq_some_iff.mp H
                  obtain ⟨t433, A910, H⟩ := H
                  replace H : ((impl_BeforeSet.f kj10 t400 t399).bind fun t434 => (if (t433 == t434) = true then (laws_FnSets.j1 kj10 l0 t393 true) else ((impl_IsSubset.f t399 t400).bind fun t435 => (if t435 = true then ((impl_BeforeSet.f kj10 t399 t400).bind fun t436 => (laws_FnSets.j1 kj10 l0 t393 (!t436))) else (laws_FnSets.j1 kj10 l0 t393 false))))) = some r := H
                  have A91 := Aside0.mk A910
                  clear A910
                  replace H := Option.bind_eq_some_iff.mp H
                  obtain ⟨t434, A920, H⟩ := H
                  replace H : (if (t433 == t434) = true then (laws_FnSets.j1 kj10 l0 t393 true) else ((impl_IsSubset.f t399 t400).bind fun t435 => (if t435 = true then ((impl_BeforeSet.f kj10 t399 t400).bind fun t436 => (laws_FnSets.j1 kj10 l0 t393 (!t436))) else (laws_FnSets.j1 kj10 l0 t393 false)))) = some r := H
                  have A92 := Aside0.mk A920
                  clear A920
                  by_cases c93 : (t433 == t434) = true
                  · rw [if_pos c93] at H
                    have c93b0 : (t433 == t434) = true := c93
                    (try (have c93b1 : decide (t433 = t434) = true := by simpa using c93))
                    (try (have c93b2 : (t433 == t434) = true := by simpa using c93))
                    clear c93
                    exact (laws_FnSets.j1_dead _ _ _ (by rw [HRR.out] at H; exact H)).elim
                  · rw [if_neg c93] at H
                    have c93b0 : (t433 == t434) = false := by simpa using c93
                    (try (have c93b1 : decide (t433 = t434) = false := by simpa using c93))
                    (try (have c93b2 : (t433 == t434) = false := by simpa using c93))
                    (try (have c93b3 : ¬ (t433 = t434) := by simpa using c93))
                    clear c93
                    replace H := Option.bind_eq_some_iff.mp H
                    obtain ⟨t435, A940, H⟩ := H
                    replace H : (if t435 = true then ((impl_BeforeSet.f kj10 t399 t400).bind fun t436 => (laws_FnSets.j1 kj10 l0 t393 (!t436))) else (laws_FnSets.j1 kj10 l0 t393 false)) = some r := H
                    have A94 := Aside0.mk A940
                    clear A940
                    by_cases c95 : t435 = true
                    · subst c95
                      have H1 : ((impl_BeforeSet.f kj10 t399 t400).bind fun t436 => (laws_FnSets.j1 kj10 l0 t393 (!t436))) = some r := by rw [if_pos rfl] at H; exact H
                      clear H
                      have H := H1
                      clear H1
                      replace H := Option.bind_eq_some_iff.mp H
                      obtain ⟨t436, A960, H⟩ := H
                      replace H : (laws_FnSets.j1 kj10 l0 t393 (!t436)) = some r := H
                      have A96 := Aside0.mk A960
                      clear A960
                      have H' := Aside0.mk H
                      clear H
                      go_wp2_with (first | ((with_reducible refine gate_callee (f := 25) rfl ?_); refine goesL_ (some 117) rfl rfl Tryd.func25 (by kernel_rfl) rfl #[.int .i64 8, .int .i64 t399] rfl (by (try simp only [List.map_toArray, List.map_cons, List.map_nil]); first | done | rfl | (simp only [List.length_drop, List.length_take]; rfl)) ?_; (with_reducible refine (spec_IsSet.calls 8 t399 true _ A86.out).mono ?_); rintro e w' ⟨rfl, ⟨nd, rfl⟩⟩; refine ⟨_, rfl, ?_⟩) | (go_at_call 25; (with_reducible refine (spec_IsSet.calls 8 t399 true _ A86.out).mono ?_); rintro e w' ⟨rfl, ⟨nd, rfl⟩⟩) | (go_at_call 25; (with_reducible refine (spec_IsSet.calls 8 t400 true _ A88.out).mono ?_); rintro e w' ⟨rfl, ⟨nd, rfl⟩⟩) | (go_at_call 30; (with_reducible refine (impl_BeforeSet.calls kj10 t399 t400 t433 _ ?sideT A91.out).mono ?_); (case sideT => first | exact HRT.out | (repeat (first | exact HRT.out | exact (TabW.below HRT.out HB.out) | (with_reducible refine TabW.alloc ?_ _) | (with_reducible refine TabW.drewN ?_ _) | (with_reducible refine TabW.drew ?_))); done | exact (TabW.below HRT.out (by repeat (first | (with_reducible first | exact HB.out | apply below_alloc | apply pw_below_drewN | apply below_drew1) | exact HB.out)))); rintro e w' ⟨rfl, ⟨nd, rfl⟩⟩) | (go_at_call 30; (with_reducible refine (impl_BeforeSet.calls kj10 t400 t399 t434 _ ?sideT A92.out).mono ?_); (case sideT => first | exact HRT.out | (repeat (first | exact HRT.out | exact (TabW.below HRT.out HB.out) | (with_reducible refine TabW.alloc ?_ _) | (with_reducible refine TabW.drewN ?_ _) | (with_reducible refine TabW.drew ?_))); done | exact (TabW.below HRT.out (by repeat (first | (with_reducible first | exact HB.out | apply below_alloc | apply pw_below_drewN | apply below_drew1) | exact HB.out)))); rintro e w' ⟨rfl, ⟨nd, rfl⟩⟩) | (go_at_call 28; (with_reducible refine (impl_IsSubset.calls t399 t400 true _ A94.out).mono ?_); rintro e w' ⟨rfl, ⟨nd, rfl⟩⟩) | (go_at_call 30; (with_reducible refine (impl_BeforeSet.calls kj10 t399 t400 t436 _ ?sideT A96.out).mono ?_); (case sideT => first | exact HRT.out | (repeat (first | exact HRT.out | exact (TabW.below HRT.out HB.out) | (with_reducible refine TabW.alloc ?_ _) | (with_reducible refine TabW.drewN ?_ _) | (with_reducible refine TabW.drew ?_))); done | exact (TabW.below HRT.out (by repeat (first | (with_reducible first | exact HB.out | apply below_alloc | apply pw_below_drewN | apply below_drew1) | exact HB.out)))); rintro e w' ⟨rfl, ⟨nd, rfl⟩⟩))
                      go_meet
                      have e_t436 : t433 = t436 := Option.some.inj (A91.out.symm.trans A96.out)
                      case rel => exact ⟨_, (!t436), (by first | rfl | (simp; done) | (simp [*]; done)), H', ⟨by have := HJ10.out; first | omega | exact Nat.le_refl _⟩, ⟨by repeat (first | (with_reducible first | exact HB.out | apply below_alloc | apply pw_below_drewN | apply below_drew1) | exact HB.out)⟩⟩
                    · replace c95 := Bool.eq_false_iff.mpr c95
                      subst c95
                      have H1 : (laws_FnSets.j1 kj10 l0 t393 false) = some r := by rw [if_neg (show ¬ (false = true) by decide)] at H; exact H
                      clear H
                      have H := H1
                      clear H1
                      have H' := Aside0.mk H
                      clear H
                      go_wp2_with (first | ((with_reducible refine gate_callee (f := 25) rfl ?_); refine goesL_ (some 117) rfl rfl Tryd.func25 (by kernel_rfl) rfl #[.int .i64 8, .int .i64 t399] rfl (by (try simp only [List.map_toArray, List.map_cons, List.map_nil]); first | done | rfl | (simp only [List.length_drop, List.length_take]; rfl)) ?_; (with_reducible refine (spec_IsSet.calls 8 t399 true _ A86.out).mono ?_); rintro e w' ⟨rfl, ⟨nd, rfl⟩⟩; refine ⟨_, rfl, ?_⟩) | (go_at_call 25; (with_reducible refine (spec_IsSet.calls 8 t399 true _ A86.out).mono ?_); rintro e w' ⟨rfl, ⟨nd, rfl⟩⟩) | (go_at_call 25; (with_reducible refine (spec_IsSet.calls 8 t400 true _ A88.out).mono ?_); rintro e w' ⟨rfl, ⟨nd, rfl⟩⟩) | (go_at_call 30; (with_reducible refine (impl_BeforeSet.calls kj10 t399 t400 t433 _ ?sideT A91.out).mono ?_); (case sideT => first | exact HRT.out | (repeat (first | exact HRT.out | exact (TabW.below HRT.out HB.out) | (with_reducible refine TabW.alloc ?_ _) | (with_reducible refine TabW.drewN ?_ _) | (with_reducible refine TabW.drew ?_))); done | exact (TabW.below HRT.out (by repeat (first | (with_reducible first | exact HB.out | apply below_alloc | apply pw_below_drewN | apply below_drew1) | exact HB.out)))); rintro e w' ⟨rfl, ⟨nd, rfl⟩⟩) | (go_at_call 30; (with_reducible refine (impl_BeforeSet.calls kj10 t400 t399 t434 _ ?sideT A92.out).mono ?_); (case sideT => first | exact HRT.out | (repeat (first | exact HRT.out | exact (TabW.below HRT.out HB.out) | (with_reducible refine TabW.alloc ?_ _) | (with_reducible refine TabW.drewN ?_ _) | (with_reducible refine TabW.drew ?_))); done | exact (TabW.below HRT.out (by repeat (first | (with_reducible first | exact HB.out | apply below_alloc | apply pw_below_drewN | apply below_drew1) | exact HB.out)))); rintro e w' ⟨rfl, ⟨nd, rfl⟩⟩) | (go_at_call 28; (with_reducible refine (impl_IsSubset.calls t399 t400 false _ A94.out).mono ?_); rintro e w' ⟨rfl, ⟨nd, rfl⟩⟩))
                      go_meet
                      case rel => exact ⟨_, (false), (by first | rfl | (simp; done) | (simp [*]; done)), H', ⟨by have := HJ10.out; first | omega | exact Nat.le_refl _⟩, ⟨by repeat (first | (with_reducible first | exact HB.out | apply below_alloc | apply pw_below_drewN | apply below_drew1) | exact HB.out)⟩⟩
              · replace c89 := Bool.eq_false_iff.mpr c89
                subst c89
                have H1 : (laws_FnSets.j1 kj10 l0 t393 false) = some r := by rw [if_neg (show ¬ (false = true) by decide)] at H; exact H
                clear H
                have H := H1
                clear H1
                have H' := Aside0.mk H
                clear H
                go_wp2_with (first | ((with_reducible refine gate_callee (f := 25) rfl ?_); refine goesL_ (some 117) rfl rfl Tryd.func25 (by kernel_rfl) rfl #[.int .i64 8, .int .i64 t399] rfl (by (try simp only [List.map_toArray, List.map_cons, List.map_nil]); first | done | rfl | (simp only [List.length_drop, List.length_take]; rfl)) ?_; (with_reducible refine (spec_IsSet.calls 8 t399 true _ A86.out).mono ?_); rintro e w' ⟨rfl, ⟨nd, rfl⟩⟩; refine ⟨_, rfl, ?_⟩) | (go_at_call 25; (with_reducible refine (spec_IsSet.calls 8 t399 true _ A86.out).mono ?_); rintro e w' ⟨rfl, ⟨nd, rfl⟩⟩) | (go_at_call 25; (with_reducible refine (spec_IsSet.calls 8 t400 false _ A88.out).mono ?_); rintro e w' ⟨rfl, ⟨nd, rfl⟩⟩))
                go_meet
                case rel => exact ⟨_, (false), (by first | rfl | (simp; done) | (simp [*]; done)), H', ⟨by have := HJ10.out; first | omega | exact Nat.le_refl _⟩, ⟨by repeat (first | (with_reducible first | exact HB.out | apply below_alloc | apply pw_below_drewN | apply below_drew1) | exact HB.out)⟩⟩
            · replace c87 := Bool.eq_false_iff.mpr c87
              subst c87
              have H1 : (laws_FnSets.j1 kj10 l0 t393 false) = some r := by rw [if_neg (show ¬ (false = true) by decide)] at H; exact H
              clear H
              have H := H1
              clear H1
              have H' := Aside0.mk H
              clear H
              go_wp2_with (first | ((with_reducible refine gate_callee (f := 25) rfl ?_); refine goesL_ (some 117) rfl rfl Tryd.func25 (by kernel_rfl) rfl #[.int .i64 8, .int .i64 t399] rfl (by (try simp only [List.map_toArray, List.map_cons, List.map_nil]); first | done | rfl | (simp only [List.length_drop, List.length_take]; rfl)) ?_; (with_reducible refine (spec_IsSet.calls 8 t399 false _ A86.out).mono ?_); rintro e w' ⟨rfl, ⟨nd, rfl⟩⟩; refine ⟨_, rfl, ?_⟩) | (go_at_call 25; (with_reducible refine (spec_IsSet.calls 8 t399 false _ A86.out).mono ?_); rintro e w' ⟨rfl, ⟨nd, rfl⟩⟩))
              go_meet
              case rel => exact ⟨_, (false), (by first | rfl | (simp; done) | (simp [*]; done)), H', ⟨by have := HJ10.out; first | omega | exact Nat.le_refl _⟩, ⟨by repeat (first | (with_reducible first | exact HB.out | apply below_alloc | apply pw_below_drewN | apply below_drew1) | exact HB.out)⟩⟩
          case rest =>
            clear HC85
            try clear c1
            try clear c2
            try clear p2
            try clear c3
            try clear c4
            try clear c5
            try clear c8
            try clear c9
            try clear c11
            try clear c12
            try clear c13
            try clear c14
            try clear c15
            try clear c16
            try clear c17
            try clear c18
            try clear c19
            try clear c20
            try clear c21
            try clear c23
            try clear c23b0
            try clear c23b1
            try clear c25
            try clear c26
            try clear c26b0
            try clear c26b1
            try clear c26b2
            try clear c32
            try clear c32b0
            try clear c32b1
            try clear c32b2
            try clear c38
            try clear c38b0
            try clear c38b1
            try clear c41
            try clear c41b0
            try clear c41b1
            try clear c41b2
            try clear c47
            try clear c47b0
            try clear c47b1
            try clear c47b2
            try clear c54
            try clear c84
            try clear c87
            try clear c89
            try clear c90
            try clear c90b0
            try clear c90b1
            try clear c93
            try clear c93b0
            try clear c93b1
            try clear c93b2
            try clear c95
            try clear p2
            obtain ⟨kq, x146_84, rfl, HA, HJ84, HB⟩ := hcut
            cases kq with
            | zero => exact absurd HA.out (by simp [laws_FnSets.j1])
            | succ kj84 =>
              have H := HA.out
              clear HA
              simp only [laws_FnSets.j1] at H
              by_cases c97 : x146_84 = true
              · subst c97
                have H1 : (some false) = some r := by rw [if_pos rfl] at H; exact H
                clear H
                have H := H1
                clear H1
                exact absurd (Option.some.inj H) (by rw [HRR.out]; decide)
              · replace c97 := Bool.eq_false_iff.mpr c97
                subst c97
                have H1 : ((impl_SetText.f kj84 t393).bind fun t437 => ((impl_ParseSet.f kj84 t437).bind fun bt438 => ((spec_DrawParseSet.f kj84 l0).bind fun t440 => ((impl_ParseSet.f kj84 t440).bind fun bt441 => ((spec_ParseSet.f kj84 t440).bind fun bt443 => ((spec_SetText.f kj84 t393).bind fun t445 => (if t437.toList = t445.toList then (if (bt438.2 == (t437.toList != ([] : List UInt8))) = true then (if bt438.2 = true then (if bt438.1 = t393 then (if (bt441.2 == bt443.2) = true then (some (bt441.1 == bt443.1)) else (some false)) else (some false)) else (if (bt441.2 == bt443.2) = true then (some (bt441.1 == bt443.1)) else (some false))) else (some false)) else (some false)))))))) = some r := by rw [if_neg (show ¬ (false = true) by decide)] at H; exact H
                clear H
                have H := H1
                clear H1
                replace H := Option.bind_eq_some_iff.mp H
                obtain ⟨t437, A980, H⟩ := H
                replace H : ((impl_ParseSet.f kj84 t437).bind fun bt438 => ((spec_DrawParseSet.f kj84 l0).bind fun t440 => ((impl_ParseSet.f kj84 t440).bind fun bt441 => ((spec_ParseSet.f kj84 t440).bind fun bt443 => ((spec_SetText.f kj84 t393).bind fun t445 => (if t437.toList = t445.toList then (if (bt438.2 == (t437.toList != ([] : List UInt8))) = true then (if bt438.2 = true then (if bt438.1 = t393 then (if (bt441.2 == bt443.2) = true then (some (bt441.1 == bt443.1)) else (some false)) else (some false)) else (if (bt441.2 == bt443.2) = true then (some (bt441.1 == bt443.1)) else (some false))) else (some false)) else (some false))))))) = some r := H
                have A98 := Aside0.mk A980
                clear A980
                replace H := Option.bind_eq_some_iff.mp H
                obtain ⟨⟨t438, t439⟩, A990, H⟩ := H
                replace H : ((spec_DrawParseSet.f kj84 l0).bind fun t440 => ((impl_ParseSet.f kj84 t440).bind fun bt441 => ((spec_ParseSet.f kj84 t440).bind fun bt443 => ((spec_SetText.f kj84 t393).bind fun t445 => (if t437.toList = t445.toList then (if (t439 == (t437.toList != ([] : List UInt8))) = true then (if t439 = true then (if t438 = t393 then (if (bt441.2 == bt443.2) = true then (some (bt441.1 == bt443.1)) else (some false)) else (some false)) else (if (bt441.2 == bt443.2) = true then (some (bt441.1 == bt443.1)) else (some false))) else (some false)) else (some false)))))) = some r := H
                have A99 := Aside0.mk A990
                clear A990
                replace H := Option.bind_eq_some_iff.mp H
                obtain ⟨t440, A1000, H⟩ := H
                replace H : ((impl_ParseSet.f kj84 t440).bind fun bt441 => ((spec_ParseSet.f kj84 t440).bind fun bt443 => ((spec_SetText.f kj84 t393).bind fun t445 => (if t437.toList = t445.toList then (if (t439 == (t437.toList != ([] : List UInt8))) = true then (if t439 = true then (if t438 = t393 then (if (bt441.2 == bt443.2) = true then (some (bt441.1 == bt443.1)) else (some false)) else (some false)) else (if (bt441.2 == bt443.2) = true then (some (bt441.1 == bt443.1)) else (some false))) else (some false)) else (some false))))) = some r := H
                have A100 := Aside0.mk A1000
                clear A1000
                replace H := Option.bind_eq_some_iff.mp H
                obtain ⟨⟨t441, t442⟩, A1010, H⟩ := H
                replace H : ((spec_ParseSet.f kj84 t440).bind fun bt443 => ((spec_SetText.f kj84 t393).bind fun t445 => (if t437.toList = t445.toList then (if (t439 == (t437.toList != ([] : List UInt8))) = true then (if t439 = true then (if t438 = t393 then (if (t442 == bt443.2) = true then (some (t441 == bt443.1)) else (some false)) else (some false)) else (if (t442 == bt443.2) = true then (some (t441 == bt443.1)) else (some false))) else (some false)) else (some false)))) = some r := H
                have A101 := Aside0.mk A1010
                clear A1010
                replace H := Option.bind_eq_some_iff.mp H
                obtain ⟨⟨t443, t444⟩, A1020, H⟩ := H
                replace H : ((spec_SetText.f kj84 t393).bind fun t445 => (if t437.toList = t445.toList then (if (t439 == (t437.toList != ([] : List UInt8))) = true then (if t439 = true then (if t438 = t393 then (if (t442 == t444) = true then (some (t441 == t443)) else (some false)) else (some false)) else (if (t442 == t444) = true then (some (t441 == t443)) else (some false))) else (some false)) else (some false))) = some r := H
                have A102 := Aside0.mk A1020
                clear A1020
                replace H := Option.bind_eq_some_iff.mp H
                obtain ⟨t445, A1030, H⟩ := H
                replace H : (if t437.toList = t445.toList then (if (t439 == (t437.toList != ([] : List UInt8))) = true then (if t439 = true then (if t438 = t393 then (if (t442 == t444) = true then (some (t441 == t443)) else (some false)) else (some false)) else (if (t442 == t444) = true then (some (t441 == t443)) else (some false))) else (some false)) else (some false)) = some r := H
                have A103 := Aside0.mk A1030
                clear A1030
                by_cases c104 : t437.toList = t445.toList
                · rw [if_pos c104] at H
                  have c104b0 : (t437.toList == t445.toList) = true := beq_iff_eq.mpr c104
                  have c104b1 : (t437.toList != t445.toList) = false := bne_eq_false_iff_eq.mpr c104
                  clear c104
                  by_cases c105 : (t439 == (t437.toList != ([] : List UInt8))) = true
                  · rw [if_pos c105] at H
                    have c105b0 : (t439 == (t437.toList != ([] : List UInt8))) = true := c105
                    (try (have c105b1 : decide (t439 = (t437.toList != ([] : List UInt8))) = true := by simpa using c105))
                    (try (have c105b2 : (t439 == (t437.toList != ([] : List UInt8))) = true := by simpa using c105))
                    clear c105
                    by_cases c106 : t439 = true
                    · subst c106
                      have e0_ : t437.toList.isEmpty = false := by simp at c105b0; simp [c105b0]
                      have H1 : (if t438 = t393 then (if (t442 == t444) = true then (some (t441 == t443)) else (some false)) else (some false)) = some r := by rw [if_pos rfl] at H; exact H
                      clear H
                      have H := H1
                      clear H1
                      by_cases c107 : t438 = t393
                      · rw [if_pos c107] at H
                        have c107b0 : (t438 == t393) = true := beq_iff_eq.mpr c107
                        have c107b1 : (t438 != t393) = false := bne_eq_false_iff_eq.mpr c107
                        clear c107
                        by_cases c108 : (t442 == t444) = true
                        · rw [if_pos c108] at H
                          obtain rfl : t442 = t444 := beq_iff_eq.mp c108
                          have c108b0 : (t442 == t442) = true := c108
                          clear c108
                          obtain rfl : t441 = t443 := beq_iff_eq.mp ((Option.some.inj H).trans HRR.out)
                          obtain rfl := Option.some.inj H
                          go_wp2_with (first | ((with_reducible refine gate_callee (f := 36) rfl ?_); refine goesL_ (some 148) rfl rfl Tryd.func36 (by kernel_rfl) rfl #[.int .i64 t393] rfl (by (try simp only [List.map_toArray, List.map_cons, List.map_nil]); first | done | rfl | (simp only [List.length_drop, List.length_take]; rfl)) ?_; (with_reducible refine (impl_SetText.calls kj84 t393 t437 _ A98.out).mono ?_); rintro e w109 ⟨rfl, hb⟩; refine ⟨_, rfl, ?_⟩; have n0_ := Aside0.mk (below_step (by repeat (first | (with_reducible first | exact HB.out | apply below_alloc | apply pw_below_drewN | apply below_drew1) | exact HB.out)) hb); clear HB; have HB := n0_; clear n0_; (try clear hb); (try clear hb2); (try clear hk); (try clear hi)) | (go_at_call 36; (with_reducible refine (impl_SetText.calls kj84 t393 t437 _ A98.out).mono ?_); rintro e w109 ⟨rfl, hb⟩; have n0_ := Aside0.mk (below_step (by repeat (first | (with_reducible first | exact HB.out | apply below_alloc | apply pw_below_drewN | apply below_drew1) | exact HB.out)) hb); clear HB; have HB := n0_; clear n0_; (try clear hb); (try clear hb2); (try clear hk); (try clear hi)) | ((with_reducible refine gate_callee (f := 37) rfl ?_); refine goesL_ (some 151) rfl rfl Tryd.func37 (by kernel_rfl) rfl #[.string t437] rfl (by (try simp only [List.map_toArray, List.map_cons, List.map_nil]); first | done | rfl | (simp only [List.length_drop, List.length_take]; rfl)) ?_; (with_reducible refine (impl_ParseSet.calls kj84 t437 t438 true _ A99.out).mono ?_); rintro e w110 ⟨rfl, hb⟩; refine ⟨_, rfl, ?_⟩; have n0_ := Aside0.mk (below_step (by repeat (first | (with_reducible first | exact HB.out | apply below_alloc | apply pw_below_drewN | apply below_drew1) | exact HB.out)) hb); clear HB; have HB := n0_; clear n0_; (try clear hb); (try clear hb2); (try clear hk); (try clear hi)) | (go_at_call 37; (with_reducible refine (impl_ParseSet.calls kj84 t437 t438 true _ A99.out).mono ?_); rintro e w110 ⟨rfl, hb⟩; have n0_ := Aside0.mk (below_step (by repeat (first | (with_reducible first | exact HB.out | apply below_alloc | apply pw_below_drewN | apply below_drew1) | exact HB.out)) hb); clear HB; have HB := n0_; clear n0_; (try clear hb); (try clear hb2); (try clear hk); (try clear hi)) | ((with_reducible refine gate_callee (f := 38) rfl ?_); refine goesL_ (some 155) rfl rfl Tryd.func38 (by kernel_rfl) rfl #[.slice A0 l0.length c0] rfl (by (try simp only [List.map_toArray, List.map_cons, List.map_nil]); first | done | rfl | (simp only [List.length_drop, List.length_take]; rfl)) ?_; (with_reducible refine (spec_DrawParseSet.calls kj84 _ _ l0 t440 _ ?side1 ?side2 A100.out).mono ?_); (case side1 => repeat (first | exact (Kd.C_below HR0.out HB.out) | (with_reducible refine Kd.C_alloc ?_ _) | (with_reducible refine Kd.C_drewN ?_ _) | (with_reducible refine Kd.C_drew ?_))); (case side2 => exact HC0.out); rintro e w111 ⟨rfl, hb⟩; refine ⟨_, rfl, ?_⟩; have n0_ := Aside0.mk (below_step (by repeat (first | (with_reducible first | exact HB.out | apply below_alloc | apply pw_below_drewN | apply below_drew1) | exact HB.out)) hb); clear HB; have HB := n0_; clear n0_; (try clear hb); (try clear hb2); (try clear hk); (try clear hi)) | (go_at_call 38; (with_reducible refine (spec_DrawParseSet.calls kj84 _ _ l0 t440 _ ?side1 ?side2 A100.out).mono ?_); (case side1 => repeat (first | exact (Kd.C_below HR0.out HB.out) | (with_reducible refine Kd.C_alloc ?_ _) | (with_reducible refine Kd.C_drewN ?_ _) | (with_reducible refine Kd.C_drew ?_))); (case side2 => exact HC0.out); rintro e w111 ⟨rfl, hb⟩; have n0_ := Aside0.mk (below_step (by repeat (first | (with_reducible first | exact HB.out | apply below_alloc | apply pw_below_drewN | apply below_drew1) | exact HB.out)) hb); clear HB; have HB := n0_; clear n0_; (try clear hb); (try clear hb2); (try clear hk); (try clear hi)) | ((with_reducible refine gate_callee (f := 37) rfl ?_); refine goesL_ (some 158) rfl rfl Tryd.func37 (by kernel_rfl) rfl #[.string t440] rfl (by (try simp only [List.map_toArray, List.map_cons, List.map_nil]); first | done | rfl | (simp only [List.length_drop, List.length_take]; rfl)) ?_; (with_reducible refine (impl_ParseSet.calls kj84 t440 t441 t442 _ A101.out).mono ?_); rintro e w112 ⟨rfl, hb⟩; refine ⟨_, rfl, ?_⟩; have n0_ := Aside0.mk (below_step (by repeat (first | (with_reducible first | exact HB.out | apply below_alloc | apply pw_below_drewN | apply below_drew1) | exact HB.out)) hb); clear HB; have HB := n0_; clear n0_; (try clear hb); (try clear hb2); (try clear hk); (try clear hi)) | (go_at_call 37; (with_reducible refine (impl_ParseSet.calls kj84 t440 t441 t442 _ A101.out).mono ?_); rintro e w112 ⟨rfl, hb⟩; have n0_ := Aside0.mk (below_step (by repeat (first | (with_reducible first | exact HB.out | apply below_alloc | apply pw_below_drewN | apply below_drew1) | exact HB.out)) hb); clear HB; have HB := n0_; clear n0_; (try clear hb); (try clear hb2); (try clear hk); (try clear hi)) | ((with_reducible refine gate_callee (f := 39) rfl ?_); refine goesL_ (some 163) rfl rfl Tryd.func39 (by kernel_rfl) rfl #[.string t440] rfl (by (try simp only [List.map_toArray, List.map_cons, List.map_nil]); first | done | rfl | (simp only [List.length_drop, List.length_take]; rfl)) ?_; (with_reducible refine (spec_ParseSet.calls kj84 t440 t441 t442 _ A102.out).mono ?_); rintro e w113 ⟨rfl, hb⟩; refine ⟨_, rfl, ?_⟩; have n0_ := Aside0.mk (below_step (by repeat (first | (with_reducible first | exact HB.out | apply below_alloc | apply pw_below_drewN | apply below_drew1) | exact HB.out)) hb); clear HB; have HB := n0_; clear n0_; (try clear hb); (try clear hb2); (try clear hk); (try clear hi)) | (go_at_call 39; (with_reducible refine (spec_ParseSet.calls kj84 t440 t441 t442 _ A102.out).mono ?_); rintro e w113 ⟨rfl, hb⟩; have n0_ := Aside0.mk (below_step (by repeat (first | (with_reducible first | exact HB.out | apply below_alloc | apply pw_below_drewN | apply below_drew1) | exact HB.out)) hb); clear HB; have HB := n0_; clear n0_; (try clear hb); (try clear hb2); (try clear hk); (try clear hi)) | ((with_reducible refine gate_callee (f := 40) rfl ?_); refine goesL_ (some 168) rfl rfl Tryd.func40 (by kernel_rfl) rfl #[.int .i64 t393] rfl (by (try simp only [List.map_toArray, List.map_cons, List.map_nil]); first | done | rfl | (simp only [List.length_drop, List.length_take]; rfl)) ?_; (with_reducible refine (spec_SetText.calls kj84 t393 t445 _ A103.out).mono ?_); rintro e w114 ⟨rfl, hb⟩; refine ⟨_, rfl, ?_⟩; have n0_ := Aside0.mk (below_step (by repeat (first | (with_reducible first | exact HB.out | apply below_alloc | apply pw_below_drewN | apply below_drew1) | exact HB.out)) hb); clear HB; have HB := n0_; clear n0_; (try clear hb); (try clear hb2); (try clear hk); (try clear hi)) | (go_at_call 40; (with_reducible refine (spec_SetText.calls kj84 t393 t445 _ A103.out).mono ?_); rintro e w114 ⟨rfl, hb⟩; have n0_ := Aside0.mk (below_step (by repeat (first | (with_reducible first | exact HB.out | apply below_alloc | apply pw_below_drewN | apply below_drew1) | exact HB.out)) hb); clear HB; have HB := n0_; clear n0_; (try clear hb); (try clear hb2); (try clear hk); (try clear hi)))
                          go_ret
                          exact ⟨by first | rfl | (simp [errW_none, errW_some] <;> rfl) | (simp [*, errW_none, errW_some] <;> rfl), by repeat (first | (with_reducible first | exact HB.out | apply below_alloc | apply pw_below_drewN | apply below_drew1) | exact HB.out)⟩
                        · rw [if_neg c108] at H
                          have c108b0 : (t442 == t444) = false := by simpa using c108
                          (try (have c108b1 : decide (t442 = t444) = false := by simpa using c108))
                          (try (have c108b2 : (t442 == t444) = false := by simpa using c108))
                          (try (have c108b3 : ¬ (t442 = t444) := by simpa using c108))
                          clear c108
                          exact absurd (Option.some.inj H) (by rw [HRR.out]; decide)
                      · rw [if_neg c107] at H
                        have c107b0 : (t438 == t393) = false := beq_eq_false_iff_ne.mpr c107
                        have c107b1 : (t438 != t393) = true := bne_iff_ne.mpr c107
                        exact absurd (Option.some.inj H) (by rw [HRR.out]; decide)
                    · replace c106 := Bool.eq_false_iff.mpr c106
                      subst c106
                      have e1_ : t437.toList.isEmpty = true := by simp at c105b0; simp [c105b0]
                      have H1 : (if (t442 == t444) = true then (some (t441 == t443)) else (some false)) = some r := by rw [if_neg (show ¬ (false = true) by decide)] at H; exact H
                      clear H
                      have H := H1
                      clear H1
                      by_cases c127 : (t442 == t444) = true
                      · rw [if_pos c127] at H
                        obtain rfl : t442 = t444 := beq_iff_eq.mp c127
                        have c127b0 : (t442 == t442) = true := c127
                        clear c127
                        obtain rfl : t441 = t443 := beq_iff_eq.mp ((Option.some.inj H).trans HRR.out)
                        obtain rfl := Option.some.inj H
                        go_wp2_with (first | ((with_reducible refine gate_callee (f := 36) rfl ?_); refine goesL_ (some 148) rfl rfl Tryd.func36 (by kernel_rfl) rfl #[.int .i64 t393] rfl (by (try simp only [List.map_toArray, List.map_cons, List.map_nil]); first | done | rfl | (simp only [List.length_drop, List.length_take]; rfl)) ?_; (with_reducible refine (impl_SetText.calls kj84 t393 t437 _ A98.out).mono ?_); rintro e w128 ⟨rfl, hb⟩; refine ⟨_, rfl, ?_⟩; have n0_ := Aside0.mk (below_step (by repeat (first | (with_reducible first | exact HB.out | apply below_alloc | apply pw_below_drewN | apply below_drew1) | exact HB.out)) hb); clear HB; have HB := n0_; clear n0_; (try clear hb); (try clear hb2); (try clear hk); (try clear hi)) | (go_at_call 36; (with_reducible refine (impl_SetText.calls kj84 t393 t437 _ A98.out).mono ?_); rintro e w128 ⟨rfl, hb⟩; have n0_ := Aside0.mk (below_step (by repeat (first | (with_reducible first | exact HB.out | apply below_alloc | apply pw_below_drewN | apply below_drew1) | exact HB.out)) hb); clear HB; have HB := n0_; clear n0_; (try clear hb); (try clear hb2); (try clear hk); (try clear hi)) | ((with_reducible refine gate_callee (f := 37) rfl ?_); refine goesL_ (some 151) rfl rfl Tryd.func37 (by kernel_rfl) rfl #[.string t437] rfl (by (try simp only [List.map_toArray, List.map_cons, List.map_nil]); first | done | rfl | (simp only [List.length_drop, List.length_take]; rfl)) ?_; (with_reducible refine (impl_ParseSet.calls kj84 t437 t438 false _ A99.out).mono ?_); rintro e w129 ⟨rfl, hb⟩; refine ⟨_, rfl, ?_⟩; have n0_ := Aside0.mk (below_step (by repeat (first | (with_reducible first | exact HB.out | apply below_alloc | apply pw_below_drewN | apply below_drew1) | exact HB.out)) hb); clear HB; have HB := n0_; clear n0_; (try clear hb); (try clear hb2); (try clear hk); (try clear hi)) | (go_at_call 37; (with_reducible refine (impl_ParseSet.calls kj84 t437 t438 false _ A99.out).mono ?_); rintro e w129 ⟨rfl, hb⟩; have n0_ := Aside0.mk (below_step (by repeat (first | (with_reducible first | exact HB.out | apply below_alloc | apply pw_below_drewN | apply below_drew1) | exact HB.out)) hb); clear HB; have HB := n0_; clear n0_; (try clear hb); (try clear hb2); (try clear hk); (try clear hi)) | ((with_reducible refine gate_callee (f := 38) rfl ?_); refine goesL_ (some 155) rfl rfl Tryd.func38 (by kernel_rfl) rfl #[.slice A0 l0.length c0] rfl (by (try simp only [List.map_toArray, List.map_cons, List.map_nil]); first | done | rfl | (simp only [List.length_drop, List.length_take]; rfl)) ?_; (with_reducible refine (spec_DrawParseSet.calls kj84 _ _ l0 t440 _ ?side1 ?side2 A100.out).mono ?_); (case side1 => repeat (first | exact (Kd.C_below HR0.out HB.out) | (with_reducible refine Kd.C_alloc ?_ _) | (with_reducible refine Kd.C_drewN ?_ _) | (with_reducible refine Kd.C_drew ?_))); (case side2 => exact HC0.out); rintro e w130 ⟨rfl, hb⟩; refine ⟨_, rfl, ?_⟩; have n0_ := Aside0.mk (below_step (by repeat (first | (with_reducible first | exact HB.out | apply below_alloc | apply pw_below_drewN | apply below_drew1) | exact HB.out)) hb); clear HB; have HB := n0_; clear n0_; (try clear hb); (try clear hb2); (try clear hk); (try clear hi)) | (go_at_call 38; (with_reducible refine (spec_DrawParseSet.calls kj84 _ _ l0 t440 _ ?side1 ?side2 A100.out).mono ?_); (case side1 => repeat (first | exact (Kd.C_below HR0.out HB.out) | (with_reducible refine Kd.C_alloc ?_ _) | (with_reducible refine Kd.C_drewN ?_ _) | (with_reducible refine Kd.C_drew ?_))); (case side2 => exact HC0.out); rintro e w130 ⟨rfl, hb⟩; have n0_ := Aside0.mk (below_step (by repeat (first | (with_reducible first | exact HB.out | apply below_alloc | apply pw_below_drewN | apply below_drew1) | exact HB.out)) hb); clear HB; have HB := n0_; clear n0_; (try clear hb); (try clear hb2); (try clear hk); (try clear hi)) | ((with_reducible refine gate_callee (f := 37) rfl ?_); refine goesL_ (some 158) rfl rfl Tryd.func37 (by kernel_rfl) rfl #[.string t440] rfl (by (try simp only [List.map_toArray, List.map_cons, List.map_nil]); first | done | rfl | (simp only [List.length_drop, List.length_take]; rfl)) ?_; (with_reducible refine (impl_ParseSet.calls kj84 t440 t441 t442 _ A101.out).mono ?_); rintro e w131 ⟨rfl, hb⟩; refine ⟨_, rfl, ?_⟩; have n0_ := Aside0.mk (below_step (by repeat (first | (with_reducible first | exact HB.out | apply below_alloc | apply pw_below_drewN | apply below_drew1) | exact HB.out)) hb); clear HB; have HB := n0_; clear n0_; (try clear hb); (try clear hb2); (try clear hk); (try clear hi)) | (go_at_call 37; (with_reducible refine (impl_ParseSet.calls kj84 t440 t441 t442 _ A101.out).mono ?_); rintro e w131 ⟨rfl, hb⟩; have n0_ := Aside0.mk (below_step (by repeat (first | (with_reducible first | exact HB.out | apply below_alloc | apply pw_below_drewN | apply below_drew1) | exact HB.out)) hb); clear HB; have HB := n0_; clear n0_; (try clear hb); (try clear hb2); (try clear hk); (try clear hi)) | ((with_reducible refine gate_callee (f := 39) rfl ?_); refine goesL_ (some 163) rfl rfl Tryd.func39 (by kernel_rfl) rfl #[.string t440] rfl (by (try simp only [List.map_toArray, List.map_cons, List.map_nil]); first | done | rfl | (simp only [List.length_drop, List.length_take]; rfl)) ?_; (with_reducible refine (spec_ParseSet.calls kj84 t440 t441 t442 _ A102.out).mono ?_); rintro e w132 ⟨rfl, hb⟩; refine ⟨_, rfl, ?_⟩; have n0_ := Aside0.mk (below_step (by repeat (first | (with_reducible first | exact HB.out | apply below_alloc | apply pw_below_drewN | apply below_drew1) | exact HB.out)) hb); clear HB; have HB := n0_; clear n0_; (try clear hb); (try clear hb2); (try clear hk); (try clear hi)) | (go_at_call 39; (with_reducible refine (spec_ParseSet.calls kj84 t440 t441 t442 _ A102.out).mono ?_); rintro e w132 ⟨rfl, hb⟩; have n0_ := Aside0.mk (below_step (by repeat (first | (with_reducible first | exact HB.out | apply below_alloc | apply pw_below_drewN | apply below_drew1) | exact HB.out)) hb); clear HB; have HB := n0_; clear n0_; (try clear hb); (try clear hb2); (try clear hk); (try clear hi)) | ((with_reducible refine gate_callee (f := 40) rfl ?_); refine goesL_ (some 168) rfl rfl Tryd.func40 (by kernel_rfl) rfl #[.int .i64 t393] rfl (by (try simp only [List.map_toArray, List.map_cons, List.map_nil]); first | done | rfl | (simp only [List.length_drop, List.length_take]; rfl)) ?_; (with_reducible refine (spec_SetText.calls kj84 t393 t445 _ A103.out).mono ?_); rintro e w133 ⟨rfl, hb⟩; refine ⟨_, rfl, ?_⟩; have n0_ := Aside0.mk (below_step (by repeat (first | (with_reducible first | exact HB.out | apply below_alloc | apply pw_below_drewN | apply below_drew1) | exact HB.out)) hb); clear HB; have HB := n0_; clear n0_; (try clear hb); (try clear hb2); (try clear hk); (try clear hi)) | (go_at_call 40; (with_reducible refine (spec_SetText.calls kj84 t393 t445 _ A103.out).mono ?_); rintro e w133 ⟨rfl, hb⟩; have n0_ := Aside0.mk (below_step (by repeat (first | (with_reducible first | exact HB.out | apply below_alloc | apply pw_below_drewN | apply below_drew1) | exact HB.out)) hb); clear HB; have HB := n0_; clear n0_; (try clear hb); (try clear hb2); (try clear hk); (try clear hi)))
                        go_ret
                        exact ⟨by first | rfl | (simp [errW_none, errW_some] <;> rfl) | (simp [*, errW_none, errW_some] <;> rfl), by repeat (first | (with_reducible first | exact HB.out | apply below_alloc | apply pw_below_drewN | apply below_drew1) | exact HB.out)⟩
                      · rw [if_neg c127] at H
                        have c127b0 : (t442 == t444) = false := by simpa using c127
                        (try (have c127b1 : decide (t442 = t444) = false := by simpa using c127))
                        (try (have c127b2 : (t442 == t444) = false := by simpa using c127))
                        (try (have c127b3 : ¬ (t442 = t444) := by simpa using c127))
                        clear c127
                        exact absurd (Option.some.inj H) (by rw [HRR.out]; decide)
                  · rw [if_neg c105] at H
                    have c105b0 : (t439 == (t437.toList != ([] : List UInt8))) = false := by simpa using c105
                    (try (have c105b1 : decide (t439 = (t437.toList != ([] : List UInt8))) = false := by simpa using c105))
                    (try (have c105b2 : (t439 == (t437.toList != ([] : List UInt8))) = false := by simpa using c105))
                    (try (have c105b3 : ¬ (t439 = (t437.toList != ([] : List UInt8))) := by simpa using c105))
                    clear c105
                    exact absurd (Option.some.inj H) (by rw [HRR.out]; decide)
                · rw [if_neg c104] at H
                  have c104b0 : (t437.toList == t445.toList) = false := beq_eq_false_iff_ne.mpr c104
                  have c104b1 : (t437.toList != t445.toList) = true := bne_iff_ne.mpr c104
                  exact absurd (Option.some.inj H) (by rw [HRR.out]; decide)

/-- THE ONE PURE STATEMENT of laws_FnSets. -/
def laws_FnSets.Pure : Prop := ∀ (l0 : List Int), l0.length ≤ maxLen → (∀ x ∈ l0, (Lit.int .u8 x).wf = true) → ∃ k, laws_FnSets.f k l0 = some true

end Go.Proofs.YtapfgfkpnmjhnaaDoor.PFnSets
