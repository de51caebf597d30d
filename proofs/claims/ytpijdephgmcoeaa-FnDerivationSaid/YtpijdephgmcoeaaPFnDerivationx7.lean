-- Written by a program of this session (wip/myprint.py), which runs the kit's print with contracts proved by hand; not the kit's own print. Lean checks it.
import Derived.Test.YtpijdephgmcoeaaPFnDerivationx0
import Derived.Test.YtpijdephgmcoeaaPFnDerivationx1
import Derived.Test.YtpijdephgmcoeaaPFnDerivationx2
import Derived.Test.YtpijdephgmcoeaaPFnDerivationx3
import Derived.Test.YtpijdephgmcoeaaPFnDerivationx4
import Derived.Test.YtpijdephgmcoeaaPFnDerivationx6
namespace Go.Proofs.Ytpijdephgmcoeaa.PFnDerivation
open Go.RowKit Go.Proofs.YtpijdephgmcoeaaW.PrintWords Go.Proofs.YtpijdephgmcoeaaW.PrintLast Go.Proofs.YtpijdephgmcoeaaW.PrintMore
attribute [local go_sem] max2_int min2_int max_two min_two max_three min_three max_four min_four   -- for this text's walks alone
set_option linter.unusedVariables false
set_option linter.unusedSimpArgs false

/-! ### laws_FnDerivation: function 19 -/
mutual
def laws_FnDerivation.j0 : Nat → Int → Int → Int → Int → Int → Int → Bool → Int → List Int → Int → List Int → Option (Bool)
  | 0, _, _, _, _, _, _, _, _, _, _, _ => none
  | k + 1, x4, x6, x7, x8, x9, x10, x70, x365000, x365001, x371000, x371001 => if x70 = true then (some false) else ((spec_IsContext.f k x365000 x365001).bind fun t381 => (if t381 = true then ((spec_IsSet.f (x365001.length : Int) x4).bind fun t382 => (if t382 = true then ((impl_IntentOf.f k x365000 x365001 x10).bind fun t383 => (if t383 = x7 then ((spec_IsSubset.f x4 x10).bind fun t384 => (laws_FnDerivation.j1 k x6 x8 x9 (!t384) x371000 x371001)) else (laws_FnDerivation.j1 k x6 x8 x9 true x371000 x371001))) else (laws_FnDerivation.j1 k x6 x8 x9 false x371000 x371001))) else (laws_FnDerivation.j1 k x6 x8 x9 false x371000 x371001)))
def laws_FnDerivation.j1 : Nat → Int → Int → Int → Bool → Int → List Int → Option (Bool)
  | 0, _, _, _, _, _, _ => none
  | k + 1, x6, x8, x9, x92, x371000, x371001 => if x92 = true then (some false) else ((spec_IsContext.f k x371000 x371001).bind fun t385 => (if t385 = true then ((spec_IsSet.f x371000 x6).bind fun t386 => (laws_FnDerivation.j2 k x6 x8 x9 (!t386) x371000 x371001)) else (laws_FnDerivation.j2 k x6 x8 x9 true x371000 x371001)))
def laws_FnDerivation.j2 : Nat → Int → Int → Int → Bool → Int → List Int → Option (Bool)
  | 0, _, _, _, _, _, _ => none
  | k + 1, x6, x8, x9, x102, x371000, x371001 => if x102 = true then (if x9 = 0 then (some (x8 == 0)) else (some false)) else ((impl_ExtentOf.f k x371000 x371001 x9).bind fun t387 => (if t387 = x8 then ((spec_IsSubset.f x6 x9).bind fun t388 => (if t388 = true then ((impl_ClosureOf.f k x371000 x371001 x9).bind fun t389 => (if t389 = x9 then ((impl_IsClosed.f k x371000 x371001 x6).bind fun t390 => (laws_FnDerivation.j3 k x6 x8 (t390 != (x9 == x6)) x371000 x371001)) else (laws_FnDerivation.j3 k x6 x8 true x371000 x371001))) else (laws_FnDerivation.j3 k x6 x8 true x371000 x371001))) else (laws_FnDerivation.j3 k x6 x8 true x371000 x371001)))
def laws_FnDerivation.j3 : Nat → Int → Int → Bool → Int → List Int → Option (Bool)
  | 0, _, _, _, _, _ => none
  | k + 1, x6, x8, x135, x371000, x371001 => if x135 = true then (some false) else (laws_FnDerivation.l0 k x6 x8 0 x371000 x371001)
def laws_FnDerivation.l0 : Nat → Int → Int → Int → Int → List Int → Option (Bool)
  | 0, _, _, _, _, _ => none
  | k + 1, x6, x8, x11, x371000, x371001 => (spec_FullSet.f x371000).bind fun t391 => (if x11 ≤ t391 then ((spec_IsSubset.f x6 x11).bind fun t392 => (if t392 = true then ((impl_ExtentOf.f k x371000 x371001 x11).bind fun t393 => ((spec_IsSubset.f t393 x8).bind fun t394 => (if t394 = true then (laws_FnDerivation.l0 k x6 x8 (wrap64 (x11 + 1)) x371000 x371001) else (some false)))) else (laws_FnDerivation.l0 k x6 x8 (wrap64 (x11 + 1)) x371000 x371001))) else (some true))
end
def laws_FnDerivation.f (k : Nat) (l0 : List Int) : Option (Bool) := (laws_big.f l0).bind fun t358 => (if t358 = true then (some true) else ((spec_DrawIntentOf.f k l0).bind fun bt359 => ((spec_DrawExtentOf.f k l0).bind fun bt365 => ((impl_IntentOf.f k bt359.1 bt359.2.1 bt359.2.2).bind fun t371 => ((impl_ExtentOf.f k bt365.1 bt365.2.1 bt365.2.2).bind fun t372 => ((impl_ClosureOf.f k bt365.1 bt365.2.1 bt365.2.2).bind fun t373 => ((impl_ObjectClosure.f k bt359.1 bt359.2.1 bt359.2.2).bind fun t374 => ((spec_IntentOf.f k bt359.1 bt359.2.1 bt359.2.2).bind fun t375 => (if t371 = t375 then ((spec_ExtentOf.f k bt365.1 bt365.2.1 bt365.2.2).bind fun t376 => (if t372 = t376 then ((spec_ClosureOf.f k bt365.1 bt365.2.1 bt365.2.2).bind fun t377 => (if t373 = t377 then ((spec_ObjectClosure.f k bt359.1 bt359.2.1 bt359.2.2).bind fun t378 => (if t374 = t378 then ((impl_IsClosed.f k bt365.1 bt365.2.1 bt365.2.2).bind fun t379 => ((spec_IsClosed.f k bt365.1 bt365.2.1 bt365.2.2).bind fun t380 => (laws_FnDerivation.j0 k bt359.2.2 bt365.2.2 t371 t372 t373 t374 (t379 != t380) bt359.1 bt359.2.1 bt365.1 bt365.2.1))) else (laws_FnDerivation.j0 k bt359.2.2 bt365.2.2 t371 t372 t373 t374 true bt359.1 bt359.2.1 bt365.1 bt365.2.1))) else (laws_FnDerivation.j0 k bt359.2.2 bt365.2.2 t371 t372 t373 t374 true bt359.1 bt359.2.1 bt365.1 bt365.2.1))) else (laws_FnDerivation.j0 k bt359.2.2 bt365.2.2 t371 t372 t373 t374 true bt359.1 bt359.2.1 bt365.1 bt365.2.1))) else (laws_FnDerivation.j0 k bt359.2.2 bt365.2.2 t371 t372 t373 t374 true bt359.1 bt359.2.1 bt365.1 bt365.2.1))))))))))
theorem laws_FnDerivation.mono_l : ∀ k, (∀ y0 y1 y2 y3 y4 y5 y6 y7 y8 y9 y10, LeO (laws_FnDerivation.j0 k y0 y1 y2 y3 y4 y5 y6 y7 y8 y9 y10) (laws_FnDerivation.j0 (k + 1) y0 y1 y2 y3 y4 y5 y6 y7 y8 y9 y10)) ∧ (∀ y0 y1 y2 y3 y4 y5, LeO (laws_FnDerivation.j1 k y0 y1 y2 y3 y4 y5) (laws_FnDerivation.j1 (k + 1) y0 y1 y2 y3 y4 y5)) ∧ (∀ y0 y1 y2 y3 y4 y5, LeO (laws_FnDerivation.j2 k y0 y1 y2 y3 y4 y5) (laws_FnDerivation.j2 (k + 1) y0 y1 y2 y3 y4 y5)) ∧ (∀ y0 y1 y2 y3 y4, LeO (laws_FnDerivation.j3 k y0 y1 y2 y3 y4) (laws_FnDerivation.j3 (k + 1) y0 y1 y2 y3 y4)) ∧ (∀ y0 y1 y2 y3 y4, LeO (laws_FnDerivation.l0 k y0 y1 y2 y3 y4) (laws_FnDerivation.l0 (k + 1) y0 y1 y2 y3 y4))
  | 0 => ⟨fun _ _ _ _ _ _ _ _ _ _ _ r h => by simp [laws_FnDerivation.j0] at h, fun _ _ _ _ _ _ r h => by simp [laws_FnDerivation.j1] at h, fun _ _ _ _ _ _ r h => by simp [laws_FnDerivation.j2] at h, fun _ _ _ _ _ r h => by simp [laws_FnDerivation.j3] at h, fun _ _ _ _ _ r h => by simp [laws_FnDerivation.l0] at h⟩
  | k + 1 => by
    obtain ⟨ih0, ih1, ih2, ih3, ih4⟩ := laws_FnDerivation.mono_l k
    refine ⟨?_, ?_, ?_, ?_, ?_⟩
    · intro y0 y1 y2 y3 y4 y5 y6 y7 y8 y9 y10
      unfold laws_FnDerivation.j0
      repeat' first
      | (with_reducible exact ih0 _ _ _ _ _ _ _ _ _ _ _)
      | (with_reducible exact ih1 _ _ _ _ _ _)
      | (with_reducible exact ih2 _ _ _ _ _ _)
      | (with_reducible exact ih3 _ _ _ _ _)
      | (with_reducible exact ih4 _ _ _ _ _)
      | (with_reducible exact impl_ClosureOf.mono _ _ _ _)
      | (with_reducible exact impl_ExtentOf.mono _ _ _ _)
      | (with_reducible exact impl_IntentOf.mono _ _ _ _)
      | (with_reducible exact impl_IsClosed.mono _ _ _ _)
      | (with_reducible exact impl_ObjectClosure.mono _ _ _ _)
      | (with_reducible exact spec_ClosureOf.mono _ _ _ _)
      | (with_reducible exact spec_DrawExtentOf.mono _ _)
      | (with_reducible exact spec_DrawIntentOf.mono _ _)
      | (with_reducible exact spec_ExtentOf.mono _ _ _ _)
      | (with_reducible exact spec_IntentOf.mono _ _ _ _)
      | (with_reducible exact spec_IsClosed.mono _ _ _ _)
      | (with_reducible exact spec_IsContext.mono _ _ _)
      | (with_reducible exact spec_ObjectClosure.mono _ _ _ _)
      | (with_reducible exact LeO.refl _)
      | (with_reducible exact LeO.none _)
      | (with_reducible refine LeO.ite ?_ ?_)
      | (with_reducible refine LeO.bind ?_ (fun _ => ?_))
      | exact ih0 _ _ _ _ _ _ _ _ _ _ _
      | exact ih1 _ _ _ _ _ _
      | exact ih2 _ _ _ _ _ _
      | exact ih3 _ _ _ _ _
      | exact ih4 _ _ _ _ _
      | exact impl_ClosureOf.mono _ _ _ _
      | exact impl_ExtentOf.mono _ _ _ _
      | exact impl_IntentOf.mono _ _ _ _
      | exact impl_IsClosed.mono _ _ _ _
      | exact impl_ObjectClosure.mono _ _ _ _
      | exact spec_ClosureOf.mono _ _ _ _
      | exact spec_DrawExtentOf.mono _ _
      | exact spec_DrawIntentOf.mono _ _
      | exact spec_ExtentOf.mono _ _ _ _
      | exact spec_IntentOf.mono _ _ _ _
      | exact spec_IsClosed.mono _ _ _ _
      | exact spec_IsContext.mono _ _ _
      | exact spec_ObjectClosure.mono _ _ _ _
      | exact LeO.none _
      | refine LeO.ite ?_ ?_
      | refine LeO.bind ?_ (fun _ => ?_)
    · intro y0 y1 y2 y3 y4 y5
      unfold laws_FnDerivation.j1
      repeat' first
      | (with_reducible exact ih0 _ _ _ _ _ _ _ _ _ _ _)
      | (with_reducible exact ih1 _ _ _ _ _ _)
      | (with_reducible exact ih2 _ _ _ _ _ _)
      | (with_reducible exact ih3 _ _ _ _ _)
      | (with_reducible exact ih4 _ _ _ _ _)
      | (with_reducible exact impl_ClosureOf.mono _ _ _ _)
      | (with_reducible exact impl_ExtentOf.mono _ _ _ _)
      | (with_reducible exact impl_IntentOf.mono _ _ _ _)
      | (with_reducible exact impl_IsClosed.mono _ _ _ _)
      | (with_reducible exact impl_ObjectClosure.mono _ _ _ _)
      | (with_reducible exact spec_ClosureOf.mono _ _ _ _)
      | (with_reducible exact spec_DrawExtentOf.mono _ _)
      | (with_reducible exact spec_DrawIntentOf.mono _ _)
      | (with_reducible exact spec_ExtentOf.mono _ _ _ _)
      | (with_reducible exact spec_IntentOf.mono _ _ _ _)
      | (with_reducible exact spec_IsClosed.mono _ _ _ _)
      | (with_reducible exact spec_IsContext.mono _ _ _)
      | (with_reducible exact spec_ObjectClosure.mono _ _ _ _)
      | (with_reducible exact LeO.refl _)
      | (with_reducible exact LeO.none _)
      | (with_reducible refine LeO.ite ?_ ?_)
      | (with_reducible refine LeO.bind ?_ (fun _ => ?_))
      | exact ih0 _ _ _ _ _ _ _ _ _ _ _
      | exact ih1 _ _ _ _ _ _
      | exact ih2 _ _ _ _ _ _
      | exact ih3 _ _ _ _ _
      | exact ih4 _ _ _ _ _
      | exact impl_ClosureOf.mono _ _ _ _
      | exact impl_ExtentOf.mono _ _ _ _
      | exact impl_IntentOf.mono _ _ _ _
      | exact impl_IsClosed.mono _ _ _ _
      | exact impl_ObjectClosure.mono _ _ _ _
      | exact spec_ClosureOf.mono _ _ _ _
      | exact spec_DrawExtentOf.mono _ _
      | exact spec_DrawIntentOf.mono _ _
      | exact spec_ExtentOf.mono _ _ _ _
      | exact spec_IntentOf.mono _ _ _ _
      | exact spec_IsClosed.mono _ _ _ _
      | exact spec_IsContext.mono _ _ _
      | exact spec_ObjectClosure.mono _ _ _ _
      | exact LeO.none _
      | refine LeO.ite ?_ ?_
      | refine LeO.bind ?_ (fun _ => ?_)
    · intro y0 y1 y2 y3 y4 y5
      unfold laws_FnDerivation.j2
      repeat' first
      | (with_reducible exact ih0 _ _ _ _ _ _ _ _ _ _ _)
      | (with_reducible exact ih1 _ _ _ _ _ _)
      | (with_reducible exact ih2 _ _ _ _ _ _)
      | (with_reducible exact ih3 _ _ _ _ _)
      | (with_reducible exact ih4 _ _ _ _ _)
      | (with_reducible exact impl_ClosureOf.mono _ _ _ _)
      | (with_reducible exact impl_ExtentOf.mono _ _ _ _)
      | (with_reducible exact impl_IntentOf.mono _ _ _ _)
      | (with_reducible exact impl_IsClosed.mono _ _ _ _)
      | (with_reducible exact impl_ObjectClosure.mono _ _ _ _)
      | (with_reducible exact spec_ClosureOf.mono _ _ _ _)
      | (with_reducible exact spec_DrawExtentOf.mono _ _)
      | (with_reducible exact spec_DrawIntentOf.mono _ _)
      | (with_reducible exact spec_ExtentOf.mono _ _ _ _)
      | (with_reducible exact spec_IntentOf.mono _ _ _ _)
      | (with_reducible exact spec_IsClosed.mono _ _ _ _)
      | (with_reducible exact spec_IsContext.mono _ _ _)
      | (with_reducible exact spec_ObjectClosure.mono _ _ _ _)
      | (with_reducible exact LeO.refl _)
      | (with_reducible exact LeO.none _)
      | (with_reducible refine LeO.ite ?_ ?_)
      | (with_reducible refine LeO.bind ?_ (fun _ => ?_))
      | exact ih0 _ _ _ _ _ _ _ _ _ _ _
      | exact ih1 _ _ _ _ _ _
      | exact ih2 _ _ _ _ _ _
      | exact ih3 _ _ _ _ _
      | exact ih4 _ _ _ _ _
      | exact impl_ClosureOf.mono _ _ _ _
      | exact impl_ExtentOf.mono _ _ _ _
      | exact impl_IntentOf.mono _ _ _ _
      | exact impl_IsClosed.mono _ _ _ _
      | exact impl_ObjectClosure.mono _ _ _ _
      | exact spec_ClosureOf.mono _ _ _ _
      | exact spec_DrawExtentOf.mono _ _
      | exact spec_DrawIntentOf.mono _ _
      | exact spec_ExtentOf.mono _ _ _ _
      | exact spec_IntentOf.mono _ _ _ _
      | exact spec_IsClosed.mono _ _ _ _
      | exact spec_IsContext.mono _ _ _
      | exact spec_ObjectClosure.mono _ _ _ _
      | exact LeO.none _
      | refine LeO.ite ?_ ?_
      | refine LeO.bind ?_ (fun _ => ?_)
    · intro y0 y1 y2 y3 y4
      unfold laws_FnDerivation.j3
      repeat' first
      | (with_reducible exact ih0 _ _ _ _ _ _ _ _ _ _ _)
      | (with_reducible exact ih1 _ _ _ _ _ _)
      | (with_reducible exact ih2 _ _ _ _ _ _)
      | (with_reducible exact ih3 _ _ _ _ _)
      | (with_reducible exact ih4 _ _ _ _ _)
      | (with_reducible exact impl_ClosureOf.mono _ _ _ _)
      | (with_reducible exact impl_ExtentOf.mono _ _ _ _)
      | (with_reducible exact impl_IntentOf.mono _ _ _ _)
      | (with_reducible exact impl_IsClosed.mono _ _ _ _)
      | (with_reducible exact impl_ObjectClosure.mono _ _ _ _)
      | (with_reducible exact spec_ClosureOf.mono _ _ _ _)
      | (with_reducible exact spec_DrawExtentOf.mono _ _)
      | (with_reducible exact spec_DrawIntentOf.mono _ _)
      | (with_reducible exact spec_ExtentOf.mono _ _ _ _)
      | (with_reducible exact spec_IntentOf.mono _ _ _ _)
      | (with_reducible exact spec_IsClosed.mono _ _ _ _)
      | (with_reducible exact spec_IsContext.mono _ _ _)
      | (with_reducible exact spec_ObjectClosure.mono _ _ _ _)
      | (with_reducible exact LeO.refl _)
      | (with_reducible exact LeO.none _)
      | (with_reducible refine LeO.ite ?_ ?_)
      | (with_reducible refine LeO.bind ?_ (fun _ => ?_))
      | exact ih0 _ _ _ _ _ _ _ _ _ _ _
      | exact ih1 _ _ _ _ _ _
      | exact ih2 _ _ _ _ _ _
      | exact ih3 _ _ _ _ _
      | exact ih4 _ _ _ _ _
      | exact impl_ClosureOf.mono _ _ _ _
      | exact impl_ExtentOf.mono _ _ _ _
      | exact impl_IntentOf.mono _ _ _ _
      | exact impl_IsClosed.mono _ _ _ _
      | exact impl_ObjectClosure.mono _ _ _ _
      | exact spec_ClosureOf.mono _ _ _ _
      | exact spec_DrawExtentOf.mono _ _
      | exact spec_DrawIntentOf.mono _ _
      | exact spec_ExtentOf.mono _ _ _ _
      | exact spec_IntentOf.mono _ _ _ _
      | exact spec_IsClosed.mono _ _ _ _
      | exact spec_IsContext.mono _ _ _
      | exact spec_ObjectClosure.mono _ _ _ _
      | exact LeO.none _
      | refine LeO.ite ?_ ?_
      | refine LeO.bind ?_ (fun _ => ?_)
    · intro y0 y1 y2 y3 y4
      unfold laws_FnDerivation.l0
      repeat' first
      | (with_reducible exact ih0 _ _ _ _ _ _ _ _ _ _ _)
      | (with_reducible exact ih1 _ _ _ _ _ _)
      | (with_reducible exact ih2 _ _ _ _ _ _)
      | (with_reducible exact ih3 _ _ _ _ _)
      | (with_reducible exact ih4 _ _ _ _ _)
      | (with_reducible exact impl_ClosureOf.mono _ _ _ _)
      | (with_reducible exact impl_ExtentOf.mono _ _ _ _)
      | (with_reducible exact impl_IntentOf.mono _ _ _ _)
      | (with_reducible exact impl_IsClosed.mono _ _ _ _)
      | (with_reducible exact impl_ObjectClosure.mono _ _ _ _)
      | (with_reducible exact spec_ClosureOf.mono _ _ _ _)
      | (with_reducible exact spec_DrawExtentOf.mono _ _)
      | (with_reducible exact spec_DrawIntentOf.mono _ _)
      | (with_reducible exact spec_ExtentOf.mono _ _ _ _)
      | (with_reducible exact spec_IntentOf.mono _ _ _ _)
      | (with_reducible exact spec_IsClosed.mono _ _ _ _)
      | (with_reducible exact spec_IsContext.mono _ _ _)
      | (with_reducible exact spec_ObjectClosure.mono _ _ _ _)
      | (with_reducible exact LeO.refl _)
      | (with_reducible exact LeO.none _)
      | (with_reducible refine LeO.ite ?_ ?_)
      | (with_reducible refine LeO.bind ?_ (fun _ => ?_))
      | exact ih0 _ _ _ _ _ _ _ _ _ _ _
      | exact ih1 _ _ _ _ _ _
      | exact ih2 _ _ _ _ _ _
      | exact ih3 _ _ _ _ _
      | exact ih4 _ _ _ _ _
      | exact impl_ClosureOf.mono _ _ _ _
      | exact impl_ExtentOf.mono _ _ _ _
      | exact impl_IntentOf.mono _ _ _ _
      | exact impl_IsClosed.mono _ _ _ _
      | exact impl_ObjectClosure.mono _ _ _ _
      | exact spec_ClosureOf.mono _ _ _ _
      | exact spec_DrawExtentOf.mono _ _
      | exact spec_DrawIntentOf.mono _ _
      | exact spec_ExtentOf.mono _ _ _ _
      | exact spec_IntentOf.mono _ _ _ _
      | exact spec_IsClosed.mono _ _ _ _
      | exact spec_IsContext.mono _ _ _
      | exact spec_ObjectClosure.mono _ _ _ _
      | exact LeO.none _
      | refine LeO.ite ?_ ?_
      | refine LeO.bind ?_ (fun _ => ?_)
theorem laws_FnDerivation.mono : ∀ a0 k, LeO (laws_FnDerivation.f k a0) (laws_FnDerivation.f (k + 1) a0) := by
  intro a0 k
  obtain ⟨ih0, ih1, ih2, ih3, ih4⟩ := laws_FnDerivation.mono_l k
  unfold laws_FnDerivation.f
  repeat' first
      | (with_reducible exact ih0 _ _ _ _ _ _ _ _ _ _ _)
      | (with_reducible exact ih1 _ _ _ _ _ _)
      | (with_reducible exact ih2 _ _ _ _ _ _)
      | (with_reducible exact ih3 _ _ _ _ _)
      | (with_reducible exact ih4 _ _ _ _ _)
      | (with_reducible exact impl_ClosureOf.mono _ _ _ _)
      | (with_reducible exact impl_ExtentOf.mono _ _ _ _)
      | (with_reducible exact impl_IntentOf.mono _ _ _ _)
      | (with_reducible exact impl_IsClosed.mono _ _ _ _)
      | (with_reducible exact impl_ObjectClosure.mono _ _ _ _)
      | (with_reducible exact spec_ClosureOf.mono _ _ _ _)
      | (with_reducible exact spec_DrawExtentOf.mono _ _)
      | (with_reducible exact spec_DrawIntentOf.mono _ _)
      | (with_reducible exact spec_ExtentOf.mono _ _ _ _)
      | (with_reducible exact spec_IntentOf.mono _ _ _ _)
      | (with_reducible exact spec_IsClosed.mono _ _ _ _)
      | (with_reducible exact spec_IsContext.mono _ _ _)
      | (with_reducible exact spec_ObjectClosure.mono _ _ _ _)
      | (with_reducible exact LeO.refl _)
      | (with_reducible exact LeO.none _)
      | (with_reducible refine LeO.ite ?_ ?_)
      | (with_reducible refine LeO.bind ?_ (fun _ => ?_))
      | exact ih0 _ _ _ _ _ _ _ _ _ _ _
      | exact ih1 _ _ _ _ _ _
      | exact ih2 _ _ _ _ _ _
      | exact ih3 _ _ _ _ _
      | exact ih4 _ _ _ _ _
      | exact impl_ClosureOf.mono _ _ _ _
      | exact impl_ExtentOf.mono _ _ _ _
      | exact impl_IntentOf.mono _ _ _ _
      | exact impl_IsClosed.mono _ _ _ _
      | exact impl_ObjectClosure.mono _ _ _ _
      | exact spec_ClosureOf.mono _ _ _ _
      | exact spec_DrawExtentOf.mono _ _
      | exact spec_DrawIntentOf.mono _ _
      | exact spec_ExtentOf.mono _ _ _ _
      | exact spec_IntentOf.mono _ _ _ _
      | exact spec_IsClosed.mono _ _ _ _
      | exact spec_IsContext.mono _ _ _
      | exact spec_ObjectClosure.mono _ _ _ _
      | exact LeO.none _
      | refine LeO.ite ?_ ?_
      | refine LeO.bind ?_ (fun _ => ?_)

end Go.Proofs.Ytpijdephgmcoeaa.PFnDerivation
