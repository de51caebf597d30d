-- Written by a program of this session (wip/myprint.py), which runs the kit's print with contracts proved by hand; not the kit's own print. Lean checks it.
import Derived.Test.YtodmfdkmmpefpaaGreatDoorPFnConceptsx0
import Derived.Test.YtodmfdkmmpefpaaGreatDoorPFnConceptsx1
import Derived.Test.YtodmfdkmmpefpaaGreatDoorPFnConceptsx2
import Derived.Test.YtodmfdkmmpefpaaGreatDoorPFnConceptsx4
import Derived.Test.YtodmfdkmmpefpaaGreatDoorPFnConceptsx5
import Derived.Test.YtodmfdkmmpefpaaGreatDoorPFnConceptsx8
import Derived.Test.YtodmfdkmmpefpaaGreatDoorPFnConceptsx9
import Derived.Test.YtodmfdkmmpefpaaGreatDoorPFnConceptsx10
import Derived.Test.YtodmfdkmmpefpaaGreatDoorPFnConceptsx11
import Derived.Test.YtodmfdkmmpefpaaGreatDoorPFnConceptsx12
import Derived.Test.YtodmfdkmmpefpaaGreatDoorPFnConceptsx13
import Derived.Test.YtodmfdkmmpefpaaGreatDoorPFnConceptsx14
import Derived.Test.YtodmfdkmmpefpaaGreatDoorPFnConceptsx15
import Derived.Test.YtodmfdkmmpefpaaGreatDoorPFnConceptsx16
import Derived.Test.YtodmfdkmmpefpaaGreatDoorPFnConceptsx17
namespace Go.Proofs.YtodmfdkmmpefpaaGreatDoor.PFnConcepts
open Go.RowKit Go.Proofs.YtodmfdkmmpefpaaGreatDoorW.PrintWords Go.Proofs.YtodmfdkmmpefpaaGreatDoorW.PrintLast Go.Proofs.YtodmfdkmmpefpaaGreatDoorW.PrintMore
attribute [local go_sem] max2_int min2_int max_two min_two max_three min_three max_four min_four   -- for this text's walks alone
set_option linter.unusedVariables false
set_option linter.unusedSimpArgs false

/-! ### laws_FnConcepts: function 3 -/
mutual
def laws_FnConcepts.j0 : Nat → List (S31) → Int → Int → Bool → Bool → Int → List Int → Int → List Int → Option (Bool)
  | 0, _, _, _, _, _, _, _, _, _ => none
  | k + 1, x4, x8, x9, x10, x169, x547000, x547001, x564000, x564001 => if x169 = true then (some false) else (laws_FnConcepts.l0 k x4 x8 x9 x10 0 0 x547000 x547001 x564000 x564001)
def laws_FnConcepts.l0 : Nat → List (S31) → Int → Int → Bool → Int → Int → Int → List Int → Int → List Int → Option (Bool)
  | 0, _, _, _, _, _, _, _, _, _, _ => none
  | k + 1, x4, x8, x9, x10, x30, x31, x547000, x547001, x564000, x564001 => (spec_FullSet.f x547000).bind fun t615 => (if x31 ≤ t615 then ((spec_IsContext.f k x547000 x547001).bind fun t616 => (laws_FnConcepts.j2 k x4 x8 x9 x10 x30 x31 t616 x547000 x547001 x564000 x564001)) else (laws_FnConcepts.j2 k x4 x8 x9 x10 x30 x31 false x547000 x547001 x564000 x564001))
def laws_FnConcepts.j2 : Nat → List (S31) → Int → Int → Bool → Int → Int → Bool → Int → List Int → Int → List Int → Option (Bool)
  | 0, _, _, _, _, _, _, _, _, _, _, _ => none
  | k + 1, x4, x8, x9, x10, x30, x31, x178, x547000, x547001, x564000, x564001 => if x178 = true then ((spec_IsClosed.f k x547000 x547001 x31).bind fun t617 => (if t617 = true then (laws_FnConcepts.l0 k x4 x8 x9 x10 (wrap64 (x30 + 1)) (wrap64 (x31 + 1)) x547000 x547001 x564000 x564001) else (laws_FnConcepts.l0 k x4 x8 x9 x10 x30 (wrap64 (x31 + 1)) x547000 x547001 x564000 x564001))) else (laws_FnConcepts.l1 k x4 x8 x9 x10 x30 0 x547000 x547001 x564000 x564001)
def laws_FnConcepts.l1 : Nat → List (S31) → Int → Int → Bool → Int → Int → Int → List Int → Int → List Int → Option (Bool)
  | 0, _, _, _, _, _, _, _, _, _, _ => none
  | k + 1, x4, x8, x9, x10, x30, x32, x547000, x547001, x564000, x564001 => if x32 < (x4.length : Int) then (if 0 ≤ x32 then ((impl_IsConcept.f k x547000 x547001 ((rd_T31 x4 x32).f0) ((rd_T31 x4 x32).f1)).bind fun t621 => (if t621 = true then (if x32 > 0 then (if 0 ≤ (wrap64 (x32 - 1)) then (if (wrap64 (x32 - 1)) < (x4.length : Int) then ((spec_BeforeSet.f ((rd_T31 x4 (wrap64 (x32 - 1))).f1) ((rd_T31 x4 x32).f1)).bind fun t624 => (if t624 = true then (laws_FnConcepts.l1 k x4 x8 x9 x10 x30 (wrap64 (x32 + 1)) x547000 x547001 x564000 x564001) else (some false))) else (none)) else (none)) else (laws_FnConcepts.l1 k x4 x8 x9 x10 x30 (wrap64 (x32 + 1)) x547000 x547001 x564000 x564001)) else (some false))) else (none)) else (if x30 = (x4.length : Int) then (if x10 = true then ((spec_BeforeSet.f x8 x9).bind fun t618 => (if t618 = true then ((spec_IsClosed.f k x564000 x564001 x9).bind fun t619 => (some t619)) else (some false))) else (some true)) else (some false))
end
def laws_FnConcepts.f (k : Nat) (l0 : List Int) : Option (Bool) := (laws_big.f l0).bind fun t541 => (if t541 = true then (some true) else ((spec_DrawConcepts.f k l0).bind fun bt542 => ((impl_Concepts.f k bt542.1 bt542.2).bind fun t547 => ((spec_DrawIsConcept.f k l0).bind fun bt550 => ((spec_DrawNextClosed.f k l0).bind fun bt558 => ((impl_NextClosed.f k bt558.1 bt558.2.1 bt558.2.2).bind fun bt564 => ((spec_NextClosed.f k bt558.1 bt558.2.1 bt558.2.2).bind fun bt566 => ((spec_DrawConceptAt.f k l0).bind fun bt568 => ((impl_ConceptAt.f k bt568.1 bt568.2.1 bt568.2.2).bind fun bt574 => ((spec_ConceptAt.f k bt568.1 bt568.2.1 bt568.2.2).bind fun bt578 => ((spec_DrawObjectConcept.f k l0).bind fun bt582 => ((impl_ObjectConcept.f k bt582.1 bt582.2.1 bt582.2.2).bind fun bt588 => ((spec_ObjectConcept.f k bt582.1 bt582.2.1 bt582.2.2).bind fun bt592 => ((impl_AttributeConcept.f k bt582.1 bt582.2.1 bt582.2.2).bind fun bt596 => ((spec_AttributeConcept.f k bt582.1 bt582.2.1 bt582.2.2).bind fun bt600 => ((spec_DrawConceptText.f k l0).bind fun bt604 => ((spec_Concepts.f k bt542.1 bt542.2).bind fun t607 => ((laws_sameConcepts.f k t547 t607).bind fun t610 => (if t610 = true then ((impl_IsConcept.f k bt550.1 bt550.2.1 bt550.2.2.1 bt550.2.2.2).bind fun t611 => ((spec_IsConcept.f k bt550.1 bt550.2.1 bt550.2.2.1 bt550.2.2.2).bind fun t612 => (if (t611 != t612) = true then (laws_FnConcepts.j0 k t547 bt558.2.2 bt564.1 bt564.2 true bt542.1 bt542.2 bt558.1 bt558.2.1) else (if bt564.1 = bt566.1 then (if (bt564.2 != bt566.2) = true then (laws_FnConcepts.j0 k t547 bt558.2.2 bt564.1 bt564.2 true bt542.1 bt542.2 bt558.1 bt558.2.1) else (if (!(bt574.1 == bt578.1) || (!(bt574.2.1 == bt578.2.1))) = true then (laws_FnConcepts.j0 k t547 bt558.2.2 bt564.1 bt564.2 true bt542.1 bt542.2 bt558.1 bt558.2.1) else (if (bt574.2.2 != bt578.2.2) = true then (laws_FnConcepts.j0 k t547 bt558.2.2 bt564.1 bt564.2 true bt542.1 bt542.2 bt558.1 bt558.2.1) else (if (!(bt588.1 == bt592.1) || (!(bt588.2.1 == bt592.2.1))) = true then (laws_FnConcepts.j0 k t547 bt558.2.2 bt564.1 bt564.2 true bt542.1 bt542.2 bt558.1 bt558.2.1) else (if (bt588.2.2 != bt592.2.2) = true then (laws_FnConcepts.j0 k t547 bt558.2.2 bt564.1 bt564.2 true bt542.1 bt542.2 bt558.1 bt558.2.1) else (if (!(bt596.1 == bt600.1) || (!(bt596.2.1 == bt600.2.1))) = true then (laws_FnConcepts.j0 k t547 bt558.2.2 bt564.1 bt564.2 true bt542.1 bt542.2 bt558.1 bt558.2.1) else (if (bt596.2.2 != bt600.2.2) = true then (laws_FnConcepts.j0 k t547 bt558.2.2 bt564.1 bt564.2 true bt542.1 bt542.2 bt558.1 bt558.2.1) else ((impl_ConceptText.f k bt604.1 bt604.2).bind fun t613 => ((spec_ConceptText.f k bt604.1 bt604.2).bind fun t614 => (laws_FnConcepts.j0 k t547 bt558.2.2 bt564.1 bt564.2 (t613.toList != t614.toList) bt542.1 bt542.2 bt558.1 bt558.2.1)))))))))) else (laws_FnConcepts.j0 k t547 bt558.2.2 bt564.1 bt564.2 true bt542.1 bt542.2 bt558.1 bt558.2.1))))) else (laws_FnConcepts.j0 k t547 bt558.2.2 bt564.1 bt564.2 true bt542.1 bt542.2 bt558.1 bt558.2.1))))))))))))))))))))
theorem laws_FnConcepts.mono_l : ∀ k, (∀ y0 y1 y2 y3 y4 y5 y6 y7 y8, LeO (laws_FnConcepts.j0 k y0 y1 y2 y3 y4 y5 y6 y7 y8) (laws_FnConcepts.j0 (k + 1) y0 y1 y2 y3 y4 y5 y6 y7 y8)) ∧ (∀ y0 y1 y2 y3 y4 y5 y6 y7 y8 y9, LeO (laws_FnConcepts.l0 k y0 y1 y2 y3 y4 y5 y6 y7 y8 y9) (laws_FnConcepts.l0 (k + 1) y0 y1 y2 y3 y4 y5 y6 y7 y8 y9)) ∧ (∀ y0 y1 y2 y3 y4 y5 y6 y7 y8 y9 y10, LeO (laws_FnConcepts.j2 k y0 y1 y2 y3 y4 y5 y6 y7 y8 y9 y10) (laws_FnConcepts.j2 (k + 1) y0 y1 y2 y3 y4 y5 y6 y7 y8 y9 y10)) ∧ (∀ y0 y1 y2 y3 y4 y5 y6 y7 y8 y9, LeO (laws_FnConcepts.l1 k y0 y1 y2 y3 y4 y5 y6 y7 y8 y9) (laws_FnConcepts.l1 (k + 1) y0 y1 y2 y3 y4 y5 y6 y7 y8 y9))
  | 0 => ⟨fun _ _ _ _ _ _ _ _ _ r h => by simp [laws_FnConcepts.j0] at h, fun _ _ _ _ _ _ _ _ _ _ r h => by simp [laws_FnConcepts.l0] at h, fun _ _ _ _ _ _ _ _ _ _ _ r h => by simp [laws_FnConcepts.j2] at h, fun _ _ _ _ _ _ _ _ _ _ r h => by simp [laws_FnConcepts.l1] at h⟩
  | k + 1 => by
    obtain ⟨ih0, ih1, ih2, ih3⟩ := laws_FnConcepts.mono_l k
    refine ⟨?_, ?_, ?_, ?_⟩
    · intro y0 y1 y2 y3 y4 y5 y6 y7 y8
      unfold laws_FnConcepts.j0
      repeat' first
      | (with_reducible exact ih0 _ _ _ _ _ _ _ _ _)
      | (with_reducible exact ih1 _ _ _ _ _ _ _ _ _ _)
      | (with_reducible exact ih2 _ _ _ _ _ _ _ _ _ _ _)
      | (with_reducible exact ih3 _ _ _ _ _ _ _ _ _ _)
      | (with_reducible exact impl_AttributeConcept.mono _ _ _ _)
      | (with_reducible exact impl_ConceptAt.mono _ _ _ _)
      | (with_reducible exact impl_ConceptText.mono _ _ _)
      | (with_reducible exact impl_Concepts.mono _ _ _)
      | (with_reducible exact impl_IsConcept.mono _ _ _ _ _)
      | (with_reducible exact impl_NextClosed.mono _ _ _ _)
      | (with_reducible exact impl_ObjectConcept.mono _ _ _ _)
      | (with_reducible exact laws_sameConcepts.mono _ _ _)
      | (with_reducible exact spec_AttributeConcept.mono _ _ _ _)
      | (with_reducible exact spec_ConceptAt.mono _ _ _ _)
      | (with_reducible exact spec_ConceptText.mono _ _ _)
      | (with_reducible exact spec_Concepts.mono _ _ _)
      | (with_reducible exact spec_DrawConceptAt.mono _ _)
      | (with_reducible exact spec_DrawConceptText.mono _ _)
      | (with_reducible exact spec_DrawConcepts.mono _ _)
      | (with_reducible exact spec_DrawIsConcept.mono _ _)
      | (with_reducible exact spec_DrawNextClosed.mono _ _)
      | (with_reducible exact spec_DrawObjectConcept.mono _ _)
      | (with_reducible exact spec_IsClosed.mono _ _ _ _)
      | (with_reducible exact spec_IsConcept.mono _ _ _ _ _)
      | (with_reducible exact spec_IsContext.mono _ _ _)
      | (with_reducible exact spec_NextClosed.mono _ _ _ _)
      | (with_reducible exact spec_ObjectConcept.mono _ _ _ _)
      | (with_reducible exact LeO.refl _)
      | (with_reducible exact LeO.none _)
      | (with_reducible refine LeO.ite ?_ ?_)
      | (with_reducible refine LeO.bind ?_ (fun _ => ?_))
      | exact ih0 _ _ _ _ _ _ _ _ _
      | exact ih1 _ _ _ _ _ _ _ _ _ _
      | exact ih2 _ _ _ _ _ _ _ _ _ _ _
      | exact ih3 _ _ _ _ _ _ _ _ _ _
      | exact impl_AttributeConcept.mono _ _ _ _
      | exact impl_ConceptAt.mono _ _ _ _
      | exact impl_ConceptText.mono _ _ _
      | exact impl_Concepts.mono _ _ _
      | exact impl_IsConcept.mono _ _ _ _ _
      | exact impl_NextClosed.mono _ _ _ _
      | exact impl_ObjectConcept.mono _ _ _ _
      | exact laws_sameConcepts.mono _ _ _
      | exact spec_AttributeConcept.mono _ _ _ _
      | exact spec_ConceptAt.mono _ _ _ _
      | exact spec_ConceptText.mono _ _ _
      | exact spec_Concepts.mono _ _ _
      | exact spec_DrawConceptAt.mono _ _
      | exact spec_DrawConceptText.mono _ _
      | exact spec_DrawConcepts.mono _ _
      | exact spec_DrawIsConcept.mono _ _
      | exact spec_DrawNextClosed.mono _ _
      | exact spec_DrawObjectConcept.mono _ _
      | exact spec_IsClosed.mono _ _ _ _
      | exact spec_IsConcept.mono _ _ _ _ _
      | exact spec_IsContext.mono _ _ _
      | exact spec_NextClosed.mono _ _ _ _
      | exact spec_ObjectConcept.mono _ _ _ _
      | exact LeO.none _
      | refine LeO.ite ?_ ?_
      | refine LeO.bind ?_ (fun _ => ?_)
    · intro y0 y1 y2 y3 y4 y5 y6 y7 y8 y9
      unfold laws_FnConcepts.l0
      repeat' first
      | (with_reducible exact ih0 _ _ _ _ _ _ _ _ _)
      | (with_reducible exact ih1 _ _ _ _ _ _ _ _ _ _)
      | (with_reducible exact ih2 _ _ _ _ _ _ _ _ _ _ _)
      | (with_reducible exact ih3 _ _ _ _ _ _ _ _ _ _)
      | (with_reducible exact impl_AttributeConcept.mono _ _ _ _)
      | (with_reducible exact impl_ConceptAt.mono _ _ _ _)
      | (with_reducible exact impl_ConceptText.mono _ _ _)
      | (with_reducible exact impl_Concepts.mono _ _ _)
      | (with_reducible exact impl_IsConcept.mono _ _ _ _ _)
      | (with_reducible exact impl_NextClosed.mono _ _ _ _)
      | (with_reducible exact impl_ObjectConcept.mono _ _ _ _)
      | (with_reducible exact laws_sameConcepts.mono _ _ _)
      | (with_reducible exact spec_AttributeConcept.mono _ _ _ _)
      | (with_reducible exact spec_ConceptAt.mono _ _ _ _)
      | (with_reducible exact spec_ConceptText.mono _ _ _)
      | (with_reducible exact spec_Concepts.mono _ _ _)
      | (with_reducible exact spec_DrawConceptAt.mono _ _)
      | (with_reducible exact spec_DrawConceptText.mono _ _)
      | (with_reducible exact spec_DrawConcepts.mono _ _)
      | (with_reducible exact spec_DrawIsConcept.mono _ _)
      | (with_reducible exact spec_DrawNextClosed.mono _ _)
      | (with_reducible exact spec_DrawObjectConcept.mono _ _)
      | (with_reducible exact spec_IsClosed.mono _ _ _ _)
      | (with_reducible exact spec_IsConcept.mono _ _ _ _ _)
      | (with_reducible exact spec_IsContext.mono _ _ _)
      | (with_reducible exact spec_NextClosed.mono _ _ _ _)
      | (with_reducible exact spec_ObjectConcept.mono _ _ _ _)
      | (with_reducible exact LeO.refl _)
      | (with_reducible exact LeO.none _)
      | (with_reducible refine LeO.ite ?_ ?_)
      | (with_reducible refine LeO.bind ?_ (fun _ => ?_))
      | exact ih0 _ _ _ _ _ _ _ _ _
      | exact ih1 _ _ _ _ _ _ _ _ _ _
      | exact ih2 _ _ _ _ _ _ _ _ _ _ _
      | exact ih3 _ _ _ _ _ _ _ _ _ _
      | exact impl_AttributeConcept.mono _ _ _ _
      | exact impl_ConceptAt.mono _ _ _ _
      | exact impl_ConceptText.mono _ _ _
      | exact impl_Concepts.mono _ _ _
      | exact impl_IsConcept.mono _ _ _ _ _
      | exact impl_NextClosed.mono _ _ _ _
      | exact impl_ObjectConcept.mono _ _ _ _
      | exact laws_sameConcepts.mono _ _ _
      | exact spec_AttributeConcept.mono _ _ _ _
      | exact spec_ConceptAt.mono _ _ _ _
      | exact spec_ConceptText.mono _ _ _
      | exact spec_Concepts.mono _ _ _
      | exact spec_DrawConceptAt.mono _ _
      | exact spec_DrawConceptText.mono _ _
      | exact spec_DrawConcepts.mono _ _
      | exact spec_DrawIsConcept.mono _ _
      | exact spec_DrawNextClosed.mono _ _
      | exact spec_DrawObjectConcept.mono _ _
      | exact spec_IsClosed.mono _ _ _ _
      | exact spec_IsConcept.mono _ _ _ _ _
      | exact spec_IsContext.mono _ _ _
      | exact spec_NextClosed.mono _ _ _ _
      | exact spec_ObjectConcept.mono _ _ _ _
      | exact LeO.none _
      | refine LeO.ite ?_ ?_
      | refine LeO.bind ?_ (fun _ => ?_)
    · intro y0 y1 y2 y3 y4 y5 y6 y7 y8 y9 y10
      unfold laws_FnConcepts.j2
      repeat' first
      | (with_reducible exact ih0 _ _ _ _ _ _ _ _ _)
      | (with_reducible exact ih1 _ _ _ _ _ _ _ _ _ _)
      | (with_reducible exact ih2 _ _ _ _ _ _ _ _ _ _ _)
      | (with_reducible exact ih3 _ _ _ _ _ _ _ _ _ _)
      | (with_reducible exact impl_AttributeConcept.mono _ _ _ _)
      | (with_reducible exact impl_ConceptAt.mono _ _ _ _)
      | (with_reducible exact impl_ConceptText.mono _ _ _)
      | (with_reducible exact impl_Concepts.mono _ _ _)
      | (with_reducible exact impl_IsConcept.mono _ _ _ _ _)
      | (with_reducible exact impl_NextClosed.mono _ _ _ _)
      | (with_reducible exact impl_ObjectConcept.mono _ _ _ _)
      | (with_reducible exact laws_sameConcepts.mono _ _ _)
      | (with_reducible exact spec_AttributeConcept.mono _ _ _ _)
      | (with_reducible exact spec_ConceptAt.mono _ _ _ _)
      | (with_reducible exact spec_ConceptText.mono _ _ _)
      | (with_reducible exact spec_Concepts.mono _ _ _)
      | (with_reducible exact spec_DrawConceptAt.mono _ _)
      | (with_reducible exact spec_DrawConceptText.mono _ _)
      | (with_reducible exact spec_DrawConcepts.mono _ _)
      | (with_reducible exact spec_DrawIsConcept.mono _ _)
      | (with_reducible exact spec_DrawNextClosed.mono _ _)
      | (with_reducible exact spec_DrawObjectConcept.mono _ _)
      | (with_reducible exact spec_IsClosed.mono _ _ _ _)
      | (with_reducible exact spec_IsConcept.mono _ _ _ _ _)
      | (with_reducible exact spec_IsContext.mono _ _ _)
      | (with_reducible exact spec_NextClosed.mono _ _ _ _)
      | (with_reducible exact spec_ObjectConcept.mono _ _ _ _)
      | (with_reducible exact LeO.refl _)
      | (with_reducible exact LeO.none _)
      | (with_reducible refine LeO.ite ?_ ?_)
      | (with_reducible refine LeO.bind ?_ (fun _ => ?_))
      | exact ih0 _ _ _ _ _ _ _ _ _
      | exact ih1 _ _ _ _ _ _ _ _ _ _
      | exact ih2 _ _ _ _ _ _ _ _ _ _ _
      | exact ih3 _ _ _ _ _ _ _ _ _ _
      | exact impl_AttributeConcept.mono _ _ _ _
      | exact impl_ConceptAt.mono _ _ _ _
      | exact impl_ConceptText.mono _ _ _
      | exact impl_Concepts.mono _ _ _
      | exact impl_IsConcept.mono _ _ _ _ _
      | exact impl_NextClosed.mono _ _ _ _
      | exact impl_ObjectConcept.mono _ _ _ _
      | exact laws_sameConcepts.mono _ _ _
      | exact spec_AttributeConcept.mono _ _ _ _
      | exact spec_ConceptAt.mono _ _ _ _
      | exact spec_ConceptText.mono _ _ _
      | exact spec_Concepts.mono _ _ _
      | exact spec_DrawConceptAt.mono _ _
      | exact spec_DrawConceptText.mono _ _
      | exact spec_DrawConcepts.mono _ _
      | exact spec_DrawIsConcept.mono _ _
      | exact spec_DrawNextClosed.mono _ _
      | exact spec_DrawObjectConcept.mono _ _
      | exact spec_IsClosed.mono _ _ _ _
      | exact spec_IsConcept.mono _ _ _ _ _
      | exact spec_IsContext.mono _ _ _
      | exact spec_NextClosed.mono _ _ _ _
      | exact spec_ObjectConcept.mono _ _ _ _
      | exact LeO.none _
      | refine LeO.ite ?_ ?_
      | refine LeO.bind ?_ (fun _ => ?_)
    · intro y0 y1 y2 y3 y4 y5 y6 y7 y8 y9
      unfold laws_FnConcepts.l1
      repeat' first
      | (with_reducible exact ih0 _ _ _ _ _ _ _ _ _)
      | (with_reducible exact ih1 _ _ _ _ _ _ _ _ _ _)
      | (with_reducible exact ih2 _ _ _ _ _ _ _ _ _ _ _)
      | (with_reducible exact ih3 _ _ _ _ _ _ _ _ _ _)
      | (with_reducible exact impl_AttributeConcept.mono _ _ _ _)
      | (with_reducible exact impl_ConceptAt.mono _ _ _ _)
      | (with_reducible exact impl_ConceptText.mono _ _ _)
      | (with_reducible exact impl_Concepts.mono _ _ _)
      | (with_reducible exact impl_IsConcept.mono _ _ _ _ _)
      | (with_reducible exact impl_NextClosed.mono _ _ _ _)
      | (with_reducible exact impl_ObjectConcept.mono _ _ _ _)
      | (with_reducible exact laws_sameConcepts.mono _ _ _)
      | (with_reducible exact spec_AttributeConcept.mono _ _ _ _)
      | (with_reducible exact spec_ConceptAt.mono _ _ _ _)
      | (with_reducible exact spec_ConceptText.mono _ _ _)
      | (with_reducible exact spec_Concepts.mono _ _ _)
      | (with_reducible exact spec_DrawConceptAt.mono _ _)
      | (with_reducible exact spec_DrawConceptText.mono _ _)
      | (with_reducible exact spec_DrawConcepts.mono _ _)
      | (with_reducible exact spec_DrawIsConcept.mono _ _)
      | (with_reducible exact spec_DrawNextClosed.mono _ _)
      | (with_reducible exact spec_DrawObjectConcept.mono _ _)
      | (with_reducible exact spec_IsClosed.mono _ _ _ _)
      | (with_reducible exact spec_IsConcept.mono _ _ _ _ _)
      | (with_reducible exact spec_IsContext.mono _ _ _)
      | (with_reducible exact spec_NextClosed.mono _ _ _ _)
      | (with_reducible exact spec_ObjectConcept.mono _ _ _ _)
      | (with_reducible exact LeO.refl _)
      | (with_reducible exact LeO.none _)
      | (with_reducible refine LeO.ite ?_ ?_)
      | (with_reducible refine LeO.bind ?_ (fun _ => ?_))
      | exact ih0 _ _ _ _ _ _ _ _ _
      | exact ih1 _ _ _ _ _ _ _ _ _ _
      | exact ih2 _ _ _ _ _ _ _ _ _ _ _
      | exact ih3 _ _ _ _ _ _ _ _ _ _
      | exact impl_AttributeConcept.mono _ _ _ _
      | exact impl_ConceptAt.mono _ _ _ _
      | exact impl_ConceptText.mono _ _ _
      | exact impl_Concepts.mono _ _ _
      | exact impl_IsConcept.mono _ _ _ _ _
      | exact impl_NextClosed.mono _ _ _ _
      | exact impl_ObjectConcept.mono _ _ _ _
      | exact laws_sameConcepts.mono _ _ _
      | exact spec_AttributeConcept.mono _ _ _ _
      | exact spec_ConceptAt.mono _ _ _ _
      | exact spec_ConceptText.mono _ _ _
      | exact spec_Concepts.mono _ _ _
      | exact spec_DrawConceptAt.mono _ _
      | exact spec_DrawConceptText.mono _ _
      | exact spec_DrawConcepts.mono _ _
      | exact spec_DrawIsConcept.mono _ _
      | exact spec_DrawNextClosed.mono _ _
      | exact spec_DrawObjectConcept.mono _ _
      | exact spec_IsClosed.mono _ _ _ _
      | exact spec_IsConcept.mono _ _ _ _ _
      | exact spec_IsContext.mono _ _ _
      | exact spec_NextClosed.mono _ _ _ _
      | exact spec_ObjectConcept.mono _ _ _ _
      | exact LeO.none _
      | refine LeO.ite ?_ ?_
      | refine LeO.bind ?_ (fun _ => ?_)
theorem laws_FnConcepts.mono : ∀ a0 k, LeO (laws_FnConcepts.f k a0) (laws_FnConcepts.f (k + 1) a0) := by
  intro a0 k
  obtain ⟨ih0, ih1, ih2, ih3⟩ := laws_FnConcepts.mono_l k
  unfold laws_FnConcepts.f
  repeat' first
      | (with_reducible exact ih0 _ _ _ _ _ _ _ _ _)
      | (with_reducible exact ih1 _ _ _ _ _ _ _ _ _ _)
      | (with_reducible exact ih2 _ _ _ _ _ _ _ _ _ _ _)
      | (with_reducible exact ih3 _ _ _ _ _ _ _ _ _ _)
      | (with_reducible exact impl_AttributeConcept.mono _ _ _ _)
      | (with_reducible exact impl_ConceptAt.mono _ _ _ _)
      | (with_reducible exact impl_ConceptText.mono _ _ _)
      | (with_reducible exact impl_Concepts.mono _ _ _)
      | (with_reducible exact impl_IsConcept.mono _ _ _ _ _)
      | (with_reducible exact impl_NextClosed.mono _ _ _ _)
      | (with_reducible exact impl_ObjectConcept.mono _ _ _ _)
      | (with_reducible exact laws_sameConcepts.mono _ _ _)
      | (with_reducible exact spec_AttributeConcept.mono _ _ _ _)
      | (with_reducible exact spec_ConceptAt.mono _ _ _ _)
      | (with_reducible exact spec_ConceptText.mono _ _ _)
      | (with_reducible exact spec_Concepts.mono _ _ _)
      | (with_reducible exact spec_DrawConceptAt.mono _ _)
      | (with_reducible exact spec_DrawConceptText.mono _ _)
      | (with_reducible exact spec_DrawConcepts.mono _ _)
      | (with_reducible exact spec_DrawIsConcept.mono _ _)
      | (with_reducible exact spec_DrawNextClosed.mono _ _)
      | (with_reducible exact spec_DrawObjectConcept.mono _ _)
      | (with_reducible exact spec_IsClosed.mono _ _ _ _)
      | (with_reducible exact spec_IsConcept.mono _ _ _ _ _)
      | (with_reducible exact spec_IsContext.mono _ _ _)
      | (with_reducible exact spec_NextClosed.mono _ _ _ _)
      | (with_reducible exact spec_ObjectConcept.mono _ _ _ _)
      | (with_reducible exact LeO.refl _)
      | (with_reducible exact LeO.none _)
      | (with_reducible refine LeO.ite ?_ ?_)
      | (with_reducible refine LeO.bind ?_ (fun _ => ?_))
      | exact ih0 _ _ _ _ _ _ _ _ _
      | exact ih1 _ _ _ _ _ _ _ _ _ _
      | exact ih2 _ _ _ _ _ _ _ _ _ _ _
      | exact ih3 _ _ _ _ _ _ _ _ _ _
      | exact impl_AttributeConcept.mono _ _ _ _
      | exact impl_ConceptAt.mono _ _ _ _
      | exact impl_ConceptText.mono _ _ _
      | exact impl_Concepts.mono _ _ _
      | exact impl_IsConcept.mono _ _ _ _ _
      | exact impl_NextClosed.mono _ _ _ _
      | exact impl_ObjectConcept.mono _ _ _ _
      | exact laws_sameConcepts.mono _ _ _
      | exact spec_AttributeConcept.mono _ _ _ _
      | exact spec_ConceptAt.mono _ _ _ _
      | exact spec_ConceptText.mono _ _ _
      | exact spec_Concepts.mono _ _ _
      | exact spec_DrawConceptAt.mono _ _
      | exact spec_DrawConceptText.mono _ _
      | exact spec_DrawConcepts.mono _ _
      | exact spec_DrawIsConcept.mono _ _
      | exact spec_DrawNextClosed.mono _ _
      | exact spec_DrawObjectConcept.mono _ _
      | exact spec_IsClosed.mono _ _ _ _
      | exact spec_IsConcept.mono _ _ _ _ _
      | exact spec_IsContext.mono _ _ _
      | exact spec_NextClosed.mono _ _ _ _
      | exact spec_ObjectConcept.mono _ _ _ _
      | exact LeO.none _
      | refine LeO.ite ?_ ?_
      | refine LeO.bind ?_ (fun _ => ?_)

end Go.Proofs.YtodmfdkmmpefpaaGreatDoor.PFnConcepts
