-- Written by a program of this session (wip/myprint.py), which runs the kit's print with contracts proved by hand; not the kit's own print. Lean checks it.
import Derived.Test.YtgmnmimaeklfeaaGreatDoorPFnContextsx0
import Derived.Test.YtgmnmimaeklfeaaGreatDoorPFnContextsx1
import Derived.Test.YtgmnmimaeklfeaaGreatDoorPFnContextsx3
import Derived.Test.YtgmnmimaeklfeaaGreatDoorPFnContextsx4
import Derived.Test.YtgmnmimaeklfeaaGreatDoorPFnContextsx5
import Derived.Test.YtgmnmimaeklfeaaGreatDoorPFnContextsx6
import Derived.Test.YtgmnmimaeklfeaaGreatDoorPFnContextsx7
import Derived.Test.YtgmnmimaeklfeaaGreatDoorPFnContextsx8
import Derived.Test.YtgmnmimaeklfeaaGreatDoorPFnContextsx9
import Derived.Test.YtgmnmimaeklfeaaGreatDoorPFnContextsx10
import Derived.Test.YtgmnmimaeklfeaaGreatDoorPFnContextsx12
import Derived.Test.YtgmnmimaeklfeaaGreatDoorPFnContextsx13
namespace Go.Proofs.YtgmnmimaeklfeaaGreatDoor.PFnContexts
open Go.RowKit Go.Proofs.YtgmnmimaeklfeaaGreatDoorW.PrintWords Go.Proofs.YtgmnmimaeklfeaaGreatDoorW.PrintLast Go.Proofs.YtgmnmimaeklfeaaGreatDoorW.PrintMore
attribute [local go_sem] max2_int min2_int max_two min_two max_three min_three max_four min_four   -- for this text's walks alone
set_option linter.unusedVariables false
set_option linter.unusedSimpArgs false

/-! ### laws_FnContexts: function 3 -/
mutual
def laws_FnContexts.j0 : Nat → Bool → Bool → Bool → Int → List Int → Int → List Int → Int → List Int → Int → List Int → Int → List Int → Option (Bool)
  | 0, _, _, _, _, _, _, _, _, _, _, _, _, _ => none
  | k + 1, x5, x12, x140, x527000, x527001, x533000, x533001, x550000, x550001, x556000, x556001, x571000, x571001 => if x140 = true then (some false) else ((impl_ContextText.f k x571000 x571001).bind fun t595 => ((impl_ParseContext.f k t595).bind fun bt596 => ((spec_ContextText.f k x571000 x571001).bind fun t602 => (if t595.toList = t602.toList then ((spec_IsContext.f k x571000 x571001).bind fun t603 => (if (bt596.2.2 != t603) = true then (laws_FnContexts.j1 k x5 x12 true x527000 x527001 x533000 x533001 x550000 x550001 x556000 x556001) else (if bt596.2.2 = true then ((spec_EqualContext.f k bt596.1 bt596.2.1 x571000 x571001).bind fun t604 => (laws_FnContexts.j1 k x5 x12 (!t604) x527000 x527001 x533000 x533001 x550000 x550001 x556000 x556001)) else (laws_FnContexts.j1 k x5 x12 false x527000 x527001 x533000 x533001 x550000 x550001 x556000 x556001)))) else (laws_FnContexts.j1 k x5 x12 true x527000 x527001 x533000 x533001 x550000 x550001 x556000 x556001)))))
def laws_FnContexts.j1 : Nat → Bool → Bool → Bool → Int → List Int → Int → List Int → Int → List Int → Int → List Int → Option (Bool)
  | 0, _, _, _, _, _, _, _, _, _, _, _ => none
  | k + 1, x5, x12, x166, x527000, x527001, x533000, x533001, x550000, x550001, x556000, x556001 => if x166 = true then (some false) else (if x12 = true then ((impl_ComplementContext.f k x556000 x556001).bind fun bt605 => (if bt605.2.2 = true then ((spec_EqualContext.f k bt605.1 bt605.2.1 x550000 x550001).bind fun t611 => (laws_FnContexts.j2 k x5 (!t611) x527000 x527001 x533000 x533001)) else (laws_FnContexts.j2 k x5 true x527000 x527001 x533000 x533001))) else ((impl_DualContext.f k x533000 x533001).bind fun bt619 => (if x5 = true then (if bt619.2.2 = true then ((spec_EqualContext.f k bt619.1 bt619.2.1 x527000 x527001).bind fun t625 => (some t625)) else (some false)) else (some true))))
def laws_FnContexts.j2 : Nat → Bool → Bool → Int → List Int → Int → List Int → Option (Bool)
  | 0, _, _, _, _, _, _ => none
  | k + 1, x5, x180, x527000, x527001, x533000, x533001 => if x180 = true then (some false) else ((impl_DualContext.f k x533000 x533001).bind fun bt612 => (if x5 = true then (if bt612.2.2 = true then ((spec_EqualContext.f k bt612.1 bt612.2.1 x527000 x527001).bind fun t618 => (some t618)) else (some false)) else (some true)))
end
def laws_FnContexts.f (k : Nat) (l0 : List Int) : Option (Bool) := (laws_big.f l0).bind fun t521 => (if t521 = true then (some true) else ((spec_DrawDualContext.f k l0).bind fun bt522 => ((impl_DualContext.f k bt522.1 bt522.2).bind fun bt527 => ((spec_DualContext.f k bt522.1 bt522.2).bind fun bt533 => ((spec_DrawColumnOf.f k l0).bind fun bt539 => ((spec_DrawComplementContext.f k l0).bind fun bt545 => ((impl_ComplementContext.f k bt545.1 bt545.2).bind fun bt550 => ((spec_ComplementContext.f k bt545.1 bt545.2).bind fun bt556 => ((spec_DrawEqualContext.f k l0).bind fun bt562 => ((spec_DrawParseContext.f k l0).bind fun t572 => ((impl_ParseContext.f k t572).bind fun bt573 => ((spec_ParseContext.f k t572).bind fun bt579 => (if (bt527.2.2 != bt533.2.2) = true then (laws_FnContexts.j0 k bt527.2.2 bt550.2.2 true bt522.1 bt522.2 bt527.1 bt527.2.1 bt545.1 bt545.2 bt550.1 bt550.2.1 bt562.1 bt562.2.1) else ((spec_EqualContext.f k bt527.1 bt527.2.1 bt533.1 bt533.2.1).bind fun t585 => (if t585 = true then ((impl_ColumnOf.f k bt539.1 bt539.2.1 bt539.2.2).bind fun t586 => ((spec_ColumnOf.f k bt539.1 bt539.2.1 bt539.2.2).bind fun t587 => (if t586 = t587 then (if (bt550.2.2 != bt556.2.2) = true then (laws_FnContexts.j0 k bt527.2.2 bt550.2.2 true bt522.1 bt522.2 bt527.1 bt527.2.1 bt545.1 bt545.2 bt550.1 bt550.2.1 bt562.1 bt562.2.1) else ((spec_EqualContext.f k bt550.1 bt550.2.1 bt556.1 bt556.2.1).bind fun t588 => (if t588 = true then ((impl_EqualContext.f k bt562.1 bt562.2.1 bt562.2.2.1 bt562.2.2.2).bind fun t589 => ((spec_EqualContext.f k bt562.1 bt562.2.1 bt562.2.2.1 bt562.2.2.2).bind fun t590 => (if (t589 != t590) = true then (laws_FnContexts.j0 k bt527.2.2 bt550.2.2 true bt522.1 bt522.2 bt527.1 bt527.2.1 bt545.1 bt545.2 bt550.1 bt550.2.1 bt562.1 bt562.2.1) else (if (bt573.2.2 != bt579.2.2) = true then (laws_FnContexts.j0 k bt527.2.2 bt550.2.2 true bt522.1 bt522.2 bt527.1 bt527.2.1 bt545.1 bt545.2 bt550.1 bt550.2.1 bt562.1 bt562.2.1) else ((spec_EqualContext.f k bt573.1 bt573.2.1 bt579.1 bt579.2.1).bind fun t591 => (if t591 = true then ((impl_IsContext.f bt562.1 bt562.2.1).bind fun t592 => ((spec_IsContext.f k bt562.1 bt562.2.1).bind fun t593 => (if (t592 != t593) = true then (laws_FnContexts.j0 k bt527.2.2 bt550.2.2 true bt522.1 bt522.2 bt527.1 bt527.2.1 bt545.1 bt545.2 bt550.1 bt550.2.1 bt562.1 bt562.2.1) else ((impl_ObjectCount.f bt562.1 bt562.2.1).bind fun t594 => (laws_FnContexts.j0 k bt527.2.2 bt550.2.2 (t594 != (bt562.2.1.length : Int)) bt522.1 bt522.2 bt527.1 bt527.2.1 bt545.1 bt545.2 bt550.1 bt550.2.1 bt562.1 bt562.2.1))))) else (laws_FnContexts.j0 k bt527.2.2 bt550.2.2 true bt522.1 bt522.2 bt527.1 bt527.2.1 bt545.1 bt545.2 bt550.1 bt550.2.1 bt562.1 bt562.2.1))))))) else (laws_FnContexts.j0 k bt527.2.2 bt550.2.2 true bt522.1 bt522.2 bt527.1 bt527.2.1 bt545.1 bt545.2 bt550.1 bt550.2.1 bt562.1 bt562.2.1)))) else (laws_FnContexts.j0 k bt527.2.2 bt550.2.2 true bt522.1 bt522.2 bt527.1 bt527.2.1 bt545.1 bt545.2 bt550.1 bt550.2.1 bt562.1 bt562.2.1)))) else (laws_FnContexts.j0 k bt527.2.2 bt550.2.2 true bt522.1 bt522.2 bt527.1 bt527.2.1 bt545.1 bt545.2 bt550.1 bt550.2.1 bt562.1 bt562.2.1))))))))))))))))
theorem laws_FnContexts.mono_l : ∀ k, (∀ y0 y1 y2 y3 y4 y5 y6 y7 y8 y9 y10 y11 y12, LeO (laws_FnContexts.j0 k y0 y1 y2 y3 y4 y5 y6 y7 y8 y9 y10 y11 y12) (laws_FnContexts.j0 (k + 1) y0 y1 y2 y3 y4 y5 y6 y7 y8 y9 y10 y11 y12)) ∧ (∀ y0 y1 y2 y3 y4 y5 y6 y7 y8 y9 y10, LeO (laws_FnContexts.j1 k y0 y1 y2 y3 y4 y5 y6 y7 y8 y9 y10) (laws_FnContexts.j1 (k + 1) y0 y1 y2 y3 y4 y5 y6 y7 y8 y9 y10)) ∧ (∀ y0 y1 y2 y3 y4 y5, LeO (laws_FnContexts.j2 k y0 y1 y2 y3 y4 y5) (laws_FnContexts.j2 (k + 1) y0 y1 y2 y3 y4 y5))
  | 0 => ⟨fun _ _ _ _ _ _ _ _ _ _ _ _ _ r h => by simp [laws_FnContexts.j0] at h, fun _ _ _ _ _ _ _ _ _ _ _ r h => by simp [laws_FnContexts.j1] at h, fun _ _ _ _ _ _ r h => by simp [laws_FnContexts.j2] at h⟩
  | k + 1 => by
    obtain ⟨ih0, ih1, ih2⟩ := laws_FnContexts.mono_l k
    refine ⟨?_, ?_, ?_⟩
    · intro y0 y1 y2 y3 y4 y5 y6 y7 y8 y9 y10 y11 y12
      unfold laws_FnContexts.j0
      repeat' first
      | (with_reducible exact ih0 _ _ _ _ _ _ _ _ _ _ _ _ _)
      | (with_reducible exact ih1 _ _ _ _ _ _ _ _ _ _ _)
      | (with_reducible exact ih2 _ _ _ _ _ _)
      | (with_reducible exact impl_ColumnOf.mono _ _ _ _)
      | (with_reducible exact impl_ComplementContext.mono _ _ _)
      | (with_reducible exact impl_ContextText.mono _ _ _)
      | (with_reducible exact impl_DualContext.mono _ _ _)
      | (with_reducible exact impl_EqualContext.mono _ _ _ _ _)
      | (with_reducible exact impl_ParseContext.mono _ _)
      | (with_reducible exact spec_ColumnOf.mono _ _ _ _)
      | (with_reducible exact spec_ComplementContext.mono _ _ _)
      | (with_reducible exact spec_ContextText.mono _ _ _)
      | (with_reducible exact spec_DrawColumnOf.mono _ _)
      | (with_reducible exact spec_DrawComplementContext.mono _ _)
      | (with_reducible exact spec_DrawDualContext.mono _ _)
      | (with_reducible exact spec_DrawEqualContext.mono _ _)
      | (with_reducible exact spec_DrawParseContext.mono _ _)
      | (with_reducible exact spec_DualContext.mono _ _ _)
      | (with_reducible exact spec_EqualContext.mono _ _ _ _ _)
      | (with_reducible exact spec_IsContext.mono _ _ _)
      | (with_reducible exact spec_ParseContext.mono _ _)
      | (with_reducible exact LeO.refl _)
      | (with_reducible exact LeO.none _)
      | (with_reducible refine LeO.ite ?_ ?_)
      | (with_reducible refine LeO.bind ?_ (fun _ => ?_))
      | exact ih0 _ _ _ _ _ _ _ _ _ _ _ _ _
      | exact ih1 _ _ _ _ _ _ _ _ _ _ _
      | exact ih2 _ _ _ _ _ _
      | exact impl_ColumnOf.mono _ _ _ _
      | exact impl_ComplementContext.mono _ _ _
      | exact impl_ContextText.mono _ _ _
      | exact impl_DualContext.mono _ _ _
      | exact impl_EqualContext.mono _ _ _ _ _
      | exact impl_ParseContext.mono _ _
      | exact spec_ColumnOf.mono _ _ _ _
      | exact spec_ComplementContext.mono _ _ _
      | exact spec_ContextText.mono _ _ _
      | exact spec_DrawColumnOf.mono _ _
      | exact spec_DrawComplementContext.mono _ _
      | exact spec_DrawDualContext.mono _ _
      | exact spec_DrawEqualContext.mono _ _
      | exact spec_DrawParseContext.mono _ _
      | exact spec_DualContext.mono _ _ _
      | exact spec_EqualContext.mono _ _ _ _ _
      | exact spec_IsContext.mono _ _ _
      | exact spec_ParseContext.mono _ _
      | exact LeO.none _
      | refine LeO.ite ?_ ?_
      | refine LeO.bind ?_ (fun _ => ?_)
    · intro y0 y1 y2 y3 y4 y5 y6 y7 y8 y9 y10
      unfold laws_FnContexts.j1
      repeat' first
      | (with_reducible exact ih0 _ _ _ _ _ _ _ _ _ _ _ _ _)
      | (with_reducible exact ih1 _ _ _ _ _ _ _ _ _ _ _)
      | (with_reducible exact ih2 _ _ _ _ _ _)
      | (with_reducible exact impl_ColumnOf.mono _ _ _ _)
      | (with_reducible exact impl_ComplementContext.mono _ _ _)
      | (with_reducible exact impl_ContextText.mono _ _ _)
      | (with_reducible exact impl_DualContext.mono _ _ _)
      | (with_reducible exact impl_EqualContext.mono _ _ _ _ _)
      | (with_reducible exact impl_ParseContext.mono _ _)
      | (with_reducible exact spec_ColumnOf.mono _ _ _ _)
      | (with_reducible exact spec_ComplementContext.mono _ _ _)
      | (with_reducible exact spec_ContextText.mono _ _ _)
      | (with_reducible exact spec_DrawColumnOf.mono _ _)
      | (with_reducible exact spec_DrawComplementContext.mono _ _)
      | (with_reducible exact spec_DrawDualContext.mono _ _)
      | (with_reducible exact spec_DrawEqualContext.mono _ _)
      | (with_reducible exact spec_DrawParseContext.mono _ _)
      | (with_reducible exact spec_DualContext.mono _ _ _)
      | (with_reducible exact spec_EqualContext.mono _ _ _ _ _)
      | (with_reducible exact spec_IsContext.mono _ _ _)
      | (with_reducible exact spec_ParseContext.mono _ _)
      | (with_reducible exact LeO.refl _)
      | (with_reducible exact LeO.none _)
      | (with_reducible refine LeO.ite ?_ ?_)
      | (with_reducible refine LeO.bind ?_ (fun _ => ?_))
      | exact ih0 _ _ _ _ _ _ _ _ _ _ _ _ _
      | exact ih1 _ _ _ _ _ _ _ _ _ _ _
      | exact ih2 _ _ _ _ _ _
      | exact impl_ColumnOf.mono _ _ _ _
      | exact impl_ComplementContext.mono _ _ _
      | exact impl_ContextText.mono _ _ _
      | exact impl_DualContext.mono _ _ _
      | exact impl_EqualContext.mono _ _ _ _ _
      | exact impl_ParseContext.mono _ _
      | exact spec_ColumnOf.mono _ _ _ _
      | exact spec_ComplementContext.mono _ _ _
      | exact spec_ContextText.mono _ _ _
      | exact spec_DrawColumnOf.mono _ _
      | exact spec_DrawComplementContext.mono _ _
      | exact spec_DrawDualContext.mono _ _
      | exact spec_DrawEqualContext.mono _ _
      | exact spec_DrawParseContext.mono _ _
      | exact spec_DualContext.mono _ _ _
      | exact spec_EqualContext.mono _ _ _ _ _
      | exact spec_IsContext.mono _ _ _
      | exact spec_ParseContext.mono _ _
      | exact LeO.none _
      | refine LeO.ite ?_ ?_
      | refine LeO.bind ?_ (fun _ => ?_)
    · intro y0 y1 y2 y3 y4 y5
      unfold laws_FnContexts.j2
      repeat' first
      | (with_reducible exact ih0 _ _ _ _ _ _ _ _ _ _ _ _ _)
      | (with_reducible exact ih1 _ _ _ _ _ _ _ _ _ _ _)
      | (with_reducible exact ih2 _ _ _ _ _ _)
      | (with_reducible exact impl_ColumnOf.mono _ _ _ _)
      | (with_reducible exact impl_ComplementContext.mono _ _ _)
      | (with_reducible exact impl_ContextText.mono _ _ _)
      | (with_reducible exact impl_DualContext.mono _ _ _)
      | (with_reducible exact impl_EqualContext.mono _ _ _ _ _)
      | (with_reducible exact impl_ParseContext.mono _ _)
      | (with_reducible exact spec_ColumnOf.mono _ _ _ _)
      | (with_reducible exact spec_ComplementContext.mono _ _ _)
      | (with_reducible exact spec_ContextText.mono _ _ _)
      | (with_reducible exact spec_DrawColumnOf.mono _ _)
      | (with_reducible exact spec_DrawComplementContext.mono _ _)
      | (with_reducible exact spec_DrawDualContext.mono _ _)
      | (with_reducible exact spec_DrawEqualContext.mono _ _)
      | (with_reducible exact spec_DrawParseContext.mono _ _)
      | (with_reducible exact spec_DualContext.mono _ _ _)
      | (with_reducible exact spec_EqualContext.mono _ _ _ _ _)
      | (with_reducible exact spec_IsContext.mono _ _ _)
      | (with_reducible exact spec_ParseContext.mono _ _)
      | (with_reducible exact LeO.refl _)
      | (with_reducible exact LeO.none _)
      | (with_reducible refine LeO.ite ?_ ?_)
      | (with_reducible refine LeO.bind ?_ (fun _ => ?_))
      | exact ih0 _ _ _ _ _ _ _ _ _ _ _ _ _
      | exact ih1 _ _ _ _ _ _ _ _ _ _ _
      | exact ih2 _ _ _ _ _ _
      | exact impl_ColumnOf.mono _ _ _ _
      | exact impl_ComplementContext.mono _ _ _
      | exact impl_ContextText.mono _ _ _
      | exact impl_DualContext.mono _ _ _
      | exact impl_EqualContext.mono _ _ _ _ _
      | exact impl_ParseContext.mono _ _
      | exact spec_ColumnOf.mono _ _ _ _
      | exact spec_ComplementContext.mono _ _ _
      | exact spec_ContextText.mono _ _ _
      | exact spec_DrawColumnOf.mono _ _
      | exact spec_DrawComplementContext.mono _ _
      | exact spec_DrawDualContext.mono _ _
      | exact spec_DrawEqualContext.mono _ _
      | exact spec_DrawParseContext.mono _ _
      | exact spec_DualContext.mono _ _ _
      | exact spec_EqualContext.mono _ _ _ _ _
      | exact spec_IsContext.mono _ _ _
      | exact spec_ParseContext.mono _ _
      | exact LeO.none _
      | refine LeO.ite ?_ ?_
      | refine LeO.bind ?_ (fun _ => ?_)
theorem laws_FnContexts.mono : ∀ a0 k, LeO (laws_FnContexts.f k a0) (laws_FnContexts.f (k + 1) a0) := by
  intro a0 k
  obtain ⟨ih0, ih1, ih2⟩ := laws_FnContexts.mono_l k
  unfold laws_FnContexts.f
  repeat' first
      | (with_reducible exact ih0 _ _ _ _ _ _ _ _ _ _ _ _ _)
      | (with_reducible exact ih1 _ _ _ _ _ _ _ _ _ _ _)
      | (with_reducible exact ih2 _ _ _ _ _ _)
      | (with_reducible exact impl_ColumnOf.mono _ _ _ _)
      | (with_reducible exact impl_ComplementContext.mono _ _ _)
      | (with_reducible exact impl_ContextText.mono _ _ _)
      | (with_reducible exact impl_DualContext.mono _ _ _)
      | (with_reducible exact impl_EqualContext.mono _ _ _ _ _)
      | (with_reducible exact impl_ParseContext.mono _ _)
      | (with_reducible exact spec_ColumnOf.mono _ _ _ _)
      | (with_reducible exact spec_ComplementContext.mono _ _ _)
      | (with_reducible exact spec_ContextText.mono _ _ _)
      | (with_reducible exact spec_DrawColumnOf.mono _ _)
      | (with_reducible exact spec_DrawComplementContext.mono _ _)
      | (with_reducible exact spec_DrawDualContext.mono _ _)
      | (with_reducible exact spec_DrawEqualContext.mono _ _)
      | (with_reducible exact spec_DrawParseContext.mono _ _)
      | (with_reducible exact spec_DualContext.mono _ _ _)
      | (with_reducible exact spec_EqualContext.mono _ _ _ _ _)
      | (with_reducible exact spec_IsContext.mono _ _ _)
      | (with_reducible exact spec_ParseContext.mono _ _)
      | (with_reducible exact LeO.refl _)
      | (with_reducible exact LeO.none _)
      | (with_reducible refine LeO.ite ?_ ?_)
      | (with_reducible refine LeO.bind ?_ (fun _ => ?_))
      | exact ih0 _ _ _ _ _ _ _ _ _ _ _ _ _
      | exact ih1 _ _ _ _ _ _ _ _ _ _ _
      | exact ih2 _ _ _ _ _ _
      | exact impl_ColumnOf.mono _ _ _ _
      | exact impl_ComplementContext.mono _ _ _
      | exact impl_ContextText.mono _ _ _
      | exact impl_DualContext.mono _ _ _
      | exact impl_EqualContext.mono _ _ _ _ _
      | exact impl_ParseContext.mono _ _
      | exact spec_ColumnOf.mono _ _ _ _
      | exact spec_ComplementContext.mono _ _ _
      | exact spec_ContextText.mono _ _ _
      | exact spec_DrawColumnOf.mono _ _
      | exact spec_DrawComplementContext.mono _ _
      | exact spec_DrawDualContext.mono _ _
      | exact spec_DrawEqualContext.mono _ _
      | exact spec_DrawParseContext.mono _ _
      | exact spec_DualContext.mono _ _ _
      | exact spec_EqualContext.mono _ _ _ _ _
      | exact spec_IsContext.mono _ _ _
      | exact spec_ParseContext.mono _ _
      | exact LeO.none _
      | refine LeO.ite ?_ ?_
      | refine LeO.bind ?_ (fun _ => ?_)

end Go.Proofs.YtgmnmimaeklfeaaGreatDoor.PFnContexts
