-- LAID BY pp.py (a program of this repo): what the kit's print tells of this seat's functions, with contracts by hand
import Derived.Test.YthkdkiifchefhaaZPFnRingsx0
import Derived.Test.YthkdkiifchefhaaZPFnRingsx1
import Derived.Test.YthkdkiifchefhaaZPFnRingsx2
import Derived.Test.YthkdkiifchefhaaZPFnRingsx3
import Derived.Test.YthkdkiifchefhaaZPFnRingsx4
import Derived.Test.YthkdkiifchefhaaZPFnRingsx5
import Derived.Test.YthkdkiifchefhaaZPFnRingsx6
import Derived.Test.YthkdkiifchefhaaZPFnRingsx7
import Derived.Test.YthkdkiifchefhaaZPFnRingsx8
import Derived.Test.YthkdkiifchefhaaZPFnRingsx9
namespace Go.Proofs.Ythkdkiifchefhaa.PFnRings
open Go.RowKit Go.Proofs.YthkdkiifchefhaaW.PrintWords Go.Proofs.YthkdkiifchefhaaW.PrintLast Go.Proofs.YthkdkiifchefhaaW.PrintMore
attribute [local go_sem] max2_int min2_int max_two min_two max_three min_three max_four min_four   -- for this text's walks alone
set_option linter.unusedVariables false
set_option linter.unusedSimpArgs false

/-! ### laws_FnRings: function 11 -/
mutual
def laws_FnRings.j0 : Nat → List Int → Int → Bool → Int → List Int → Int → List Int → Int → List Int → Option (Bool)
 | 0, _, _, _, _, _, _, _, _, _ => none
 | k + 1, x0, x6, x71, x472000, x472001, x473000, x473001, x479000, x479001 => if x71 = true then (none) else ((spec_DrawAddRings.f k x0).bind fun bt488 => ((impl_AddRings.f k bt488.1 bt488.2.1 bt488.2.2.1 bt488.2.2.2.1 bt488.2.2.2.2).bind fun bt499 => ((spec_AddRings.f k bt488.1 bt488.2.1 bt488.2.2.1 bt488.2.2.2.1 bt488.2.2.2.2).bind fun bt505 => (if bt499.2.2 = bt505.2.2 then ((laws_ring9.f k bt499.1 bt499.2.1 bt505.1 bt505.2.1).bind fun t511 => (laws_FnRings.j1 k x0 x6 bt488.2.2.2.2 bt499.2.2 (!t511) x472000 x472001 x473000 x473001 x479000 x479001 bt488.1 bt488.2.1 bt488.2.2.1 bt488.2.2.2.1 bt499.1 bt499.2.1)) else (none)))))
def laws_FnRings.j1 : Nat → List Int → Int → Int → Int → Bool → Int → List Int → Int → List Int → Int → List Int → Int → List Int → Int → List Int → Int → List Int → Option (Bool)
 | 0, _, _, _, _, _, _, _, _, _, _, _, _, _, _, _, _, _ => none
 | k + 1, x0, x6, x11, x13, x100, x472000, x472001, x473000, x473001, x479000, x479001, x498000, x498001, x499000, x499001, x505000, x505001 => if x100 = true then (none) else ((spec_DrawTurnRing.f k x0).bind fun bt512 => ((impl_TurnRing.f k bt512.1 bt512.2).bind fun bt517 => ((spec_TurnRing.f k bt512.1 bt512.2).bind fun bt523 => (if bt517.2.2 = bt523.2.2 then ((laws_ring9.f k bt517.1 bt517.2.1 bt523.1 bt523.2.1).bind fun t529 => (laws_FnRings.j2 k x0 x6 x11 x13 bt517.2.2 (!t529) x472000 x472001 x473000 x473001 x479000 x479001 x498000 x498001 x499000 x499001 x505000 x505001 bt512.1 bt512.2 bt517.1 bt517.2.1)) else (none)))))
def laws_FnRings.j2 : Nat → List Int → Int → Int → Int → Int → Bool → Int → List Int → Int → List Int → Int → List Int → Int → List Int → Int → List Int → Int → List Int → Int → List Int → Int → List Int → Option (Bool)
 | 0, _, _, _, _, _, _, _, _, _, _, _, _, _, _, _, _, _, _, _, _, _, _ => none
 | k + 1, x0, x6, x11, x13, x18, x121, x472000, x472001, x473000, x473001, x479000, x479001, x498000, x498001, x499000, x499001, x505000, x505001, x517000, x517001, x523000, x523001 => if x121 = true then (none) else ((spec_DrawTotalOfRing.f k x0).bind fun bt530 => ((impl_TotalOfRing.f k bt530.1 bt530.2).bind fun bt535 => ((spec_TotalOfRing.f k bt530.1 bt530.2).bind fun bt537 => (if bt535.2 = bt537.2 then (laws_FnRings.j3 k x0 x6 x11 x13 x18 (bt535.1 != bt537.1) x472000 x472001 x473000 x473001 x479000 x479001 x498000 x498001 x499000 x499001 x505000 x505001 x517000 x517001 x523000 x523001) else (none)))))
def laws_FnRings.j3 : Nat → List Int → Int → Int → Int → Int → Bool → Int → List Int → Int → List Int → Int → List Int → Int → List Int → Int → List Int → Int → List Int → Int → List Int → Int → List Int → Option (Bool)
 | 0, _, _, _, _, _, _, _, _, _, _, _, _, _, _, _, _, _, _, _, _, _, _ => none
 | k + 1, x0, x6, x11, x13, x18, x141, x472000, x472001, x473000, x473001, x479000, x479001, x498000, x498001, x499000, x499001, x505000, x505001, x517000, x517001, x523000, x523001 => if x141 = true then (none) else ((spec_DrawResiduesOf.f k x0).bind fun t539 => ((impl_ResiduesOf.f k t539).bind fun bt540 => ((spec_ResiduesOf.f k t539).bind fun bt544 => (if bt540.2 = bt544.2 then ((laws_likeInts.f k bt540.1 bt544.1).bind fun t548 => (laws_FnRings.j4 k x6 x11 x13 x18 t539 bt540.1 bt540.2 (!t548) x472000 x472001 x473000 x473001 x479000 x479001 x498000 x498001 x499000 x499001 x505000 x505001 x517000 x517001 x523000 x523001)) else (none)))))
def laws_FnRings.j4 : Nat → Int → Int → Int → Int → Int → List Int → Int → Bool → Int → List Int → Int → List Int → Int → List Int → Int → List Int → Int → List Int → Int → List Int → Int → List Int → Int → List Int → Option (Bool)
 | 0, _, _, _, _, _, _, _, _, _, _, _, _, _, _, _, _, _, _, _, _, _, _, _, _ => none
 | k + 1, x6, x11, x13, x18, x26, x27, x28, x162, x472000, x472001, x473000, x473001, x479000, x479001, x498000, x498001, x499000, x499001, x505000, x505001, x517000, x517001, x523000, x523001 => if x162 = true then (none) else (if x28 = 0 then ((impl_TotientOf.f k x26).bind fun bt549 => (if bt549.2 = 0 then (if bt549.1 = (x27.length : Int) then (laws_FnRings.j5 k x6 x11 x13 x18 x472000 x472001 x473000 x473001 x479000 x479001 x498000 x498001 x499000 x499001 x505000 x505001 x517000 x517001 x523000 x523001) else (none)) else (none))) else (laws_FnRings.j5 k x6 x11 x13 x18 x472000 x472001 x473000 x473001 x479000 x479001 x498000 x498001 x499000 x499001 x505000 x505001 x517000 x517001 x523000 x523001))
def laws_FnRings.j5 : Nat → Int → Int → Int → Int → Int → List Int → Int → List Int → Int → List Int → Int → List Int → Int → List Int → Int → List Int → Int → List Int → Int → List Int → Option (Bool)
 | 0, _, _, _, _, _, _, _, _, _, _, _, _, _, _, _, _, _, _, _, _ => none
 | k + 1, x6, x11, x13, x18, x472000, x472001, x473000, x473001, x479000, x479001, x498000, x498001, x499000, x499001, x505000, x505001, x517000, x517001, x523000, x523001 => if x18 = 0 then ((impl_TurnRing.f k x523000 x523001).bind fun bt551 => (if bt551.2.2 = 0 then ((laws_ring9.f k bt551.1 bt551.2.1 x517000 x517001).bind fun t557 => (if t557 = true then ((laws_sum.f k x523001).bind fun t558 => ((laws_sum.f k x517001).bind fun t559 => (if t558 = t559 then (laws_FnRings.j6 k x6 x11 x13 x472000 x472001 x473000 x473001 x479000 x479001 x498000 x498001 x499000 x499001 x505000 x505001) else (none)))) else (none))) else (none))) else (laws_FnRings.j6 k x6 x11 x13 x472000 x472001 x473000 x473001 x479000 x479001 x498000 x498001 x499000 x499001 x505000 x505001)
def laws_FnRings.j6 : Nat → Int → Int → Int → Int → List Int → Int → List Int → Int → List Int → Int → List Int → Int → List Int → Int → List Int → Option (Bool)
 | 0, _, _, _, _, _, _, _, _, _, _, _, _, _, _, _ => none
 | k + 1, x6, x11, x13, x472000, x472001, x473000, x473001, x479000, x479001, x498000, x498001, x499000, x499001, x505000, x505001 => if x13 = 0 then ((laws_sum.f k x505001).bind fun t560 => ((laws_sum.f k x498001).bind fun t561 => ((laws_sum.f k x499001).bind fun t562 => (laws_FnRings.j7 k x6 (t560 != (wrap64 (t561 + (wrap64 (x11 * t562))))) x472000 x472001 x473000 x473001 x479000 x479001)))) else (laws_FnRings.j7 k x6 false x472000 x472001 x473000 x473001 x479000 x479001)
def laws_FnRings.j7 : Nat → Int → Bool → Int → List Int → Int → List Int → Int → List Int → Option (Bool)
 | 0, _, _, _, _, _, _, _, _ => none
 | k + 1, x6, x218, x472000, x472001, x473000, x473001, x479000, x479001 => if x218 = true then (none) else (if x6 = 0 then ((impl_MultiplyRings.f k x473000 x473001 x472000 x472001).bind fun bt563 => (if bt563.2.2 = 0 then ((laws_ring9.f k bt563.1 bt563.2.1 x479000 x479001).bind fun t569 => (if t569 = true then ((laws_sum.f k x479001).bind fun t570 => ((laws_sum.f k x472001).bind fun t571 => ((laws_sum.f k x473001).bind fun t572 => (some (t570 == (wrap64 (t571 * t572))))))) else (none))) else (none))) else (some ((x479001.length : Int) == 0)))
end
def laws_FnRings.f (k : Nat) (l0 : List Int) : Option (Bool) := (laws_big.f l0).bind fun t462 => (if t462 = true then (some true) else ((spec_DrawMultiplyRings.f k l0).bind fun bt463 => ((impl_MultiplyRings.f k bt463.1 bt463.2.1 bt463.2.2.1 bt463.2.2.2).bind fun bt473 => ((spec_MultiplyRings.f k bt463.1 bt463.2.1 bt463.2.2.1 bt463.2.2.2).bind fun bt479 => (if bt473.2.2 = bt479.2.2 then ((laws_ring9.f k bt473.1 bt473.2.1 bt479.1 bt479.2.1).bind fun t485 => (if t485 = true then ((impl_IsRing.f k bt463.1 bt463.2.1).bind fun t486 => ((spec_IsRing.f k bt463.1 bt463.2.1).bind fun t487 => (laws_FnRings.j0 k l0 bt473.2.2 (t486 != t487) bt463.1 bt463.2.1 bt463.2.2.1 bt463.2.2.2 bt473.1 bt473.2.1))) else (none))) else (none))))))
theorem laws_FnRings.mono_l : ∀ k, (∀ y0 y1 y2 y3 y4 y5 y6 y7 y8, LeO (laws_FnRings.j0 k y0 y1 y2 y3 y4 y5 y6 y7 y8) (laws_FnRings.j0 (k + 1) y0 y1 y2 y3 y4 y5 y6 y7 y8)) ∧ (∀ y0 y1 y2 y3 y4 y5 y6 y7 y8 y9 y10 y11 y12 y13 y14 y15 y16, LeO (laws_FnRings.j1 k y0 y1 y2 y3 y4 y5 y6 y7 y8 y9 y10 y11 y12 y13 y14 y15 y16) (laws_FnRings.j1 (k + 1) y0 y1 y2 y3 y4 y5 y6 y7 y8 y9 y10 y11 y12 y13 y14 y15 y16)) ∧ (∀ y0 y1 y2 y3 y4 y5 y6 y7 y8 y9 y10 y11 y12 y13 y14 y15 y16 y17 y18 y19 y20 y21, LeO (laws_FnRings.j2 k y0 y1 y2 y3 y4 y5 y6 y7 y8 y9 y10 y11 y12 y13 y14 y15 y16 y17 y18 y19 y20 y21) (laws_FnRings.j2 (k + 1) y0 y1 y2 y3 y4 y5 y6 y7 y8 y9 y10 y11 y12 y13 y14 y15 y16 y17 y18 y19 y20 y21)) ∧ (∀ y0 y1 y2 y3 y4 y5 y6 y7 y8 y9 y10 y11 y12 y13 y14 y15 y16 y17 y18 y19 y20 y21, LeO (laws_FnRings.j3 k y0 y1 y2 y3 y4 y5 y6 y7 y8 y9 y10 y11 y12 y13 y14 y15 y16 y17 y18 y19 y20 y21) (laws_FnRings.j3 (k + 1) y0 y1 y2 y3 y4 y5 y6 y7 y8 y9 y10 y11 y12 y13 y14 y15 y16 y17 y18 y19 y20 y21)) ∧ (∀ y0 y1 y2 y3 y4 y5 y6 y7 y8 y9 y10 y11 y12 y13 y14 y15 y16 y17 y18 y19 y20 y21 y22 y23, LeO (laws_FnRings.j4 k y0 y1 y2 y3 y4 y5 y6 y7 y8 y9 y10 y11 y12 y13 y14 y15 y16 y17 y18 y19 y20 y21 y22 y23) (laws_FnRings.j4 (k + 1) y0 y1 y2 y3 y4 y5 y6 y7 y8 y9 y10 y11 y12 y13 y14 y15 y16 y17 y18 y19 y20 y21 y22 y23)) ∧ (∀ y0 y1 y2 y3 y4 y5 y6 y7 y8 y9 y10 y11 y12 y13 y14 y15 y16 y17 y18 y19, LeO (laws_FnRings.j5 k y0 y1 y2 y3 y4 y5 y6 y7 y8 y9 y10 y11 y12 y13 y14 y15 y16 y17 y18 y19) (laws_FnRings.j5 (k + 1) y0 y1 y2 y3 y4 y5 y6 y7 y8 y9 y10 y11 y12 y13 y14 y15 y16 y17 y18 y19)) ∧ (∀ y0 y1 y2 y3 y4 y5 y6 y7 y8 y9 y10 y11 y12 y13 y14, LeO (laws_FnRings.j6 k y0 y1 y2 y3 y4 y5 y6 y7 y8 y9 y10 y11 y12 y13 y14) (laws_FnRings.j6 (k + 1) y0 y1 y2 y3 y4 y5 y6 y7 y8 y9 y10 y11 y12 y13 y14)) ∧ (∀ y0 y1 y2 y3 y4 y5 y6 y7, LeO (laws_FnRings.j7 k y0 y1 y2 y3 y4 y5 y6 y7) (laws_FnRings.j7 (k + 1) y0 y1 y2 y3 y4 y5 y6 y7))
 | 0 => ⟨fun _ _ _ _ _ _ _ _ _ r h => by simp [laws_FnRings.j0] at h, fun _ _ _ _ _ _ _ _ _ _ _ _ _ _ _ _ _ r h => by simp [laws_FnRings.j1] at h, fun _ _ _ _ _ _ _ _ _ _ _ _ _ _ _ _ _ _ _ _ _ _ r h => by simp [laws_FnRings.j2] at h, fun _ _ _ _ _ _ _ _ _ _ _ _ _ _ _ _ _ _ _ _ _ _ r h => by simp [laws_FnRings.j3] at h, fun _ _ _ _ _ _ _ _ _ _ _ _ _ _ _ _ _ _ _ _ _ _ _ _ r h => by simp [laws_FnRings.j4] at h, fun _ _ _ _ _ _ _ _ _ _ _ _ _ _ _ _ _ _ _ _ r h => by simp [laws_FnRings.j5] at h, fun _ _ _ _ _ _ _ _ _ _ _ _ _ _ _ r h => by simp [laws_FnRings.j6] at h, fun _ _ _ _ _ _ _ _ r h => by simp [laws_FnRings.j7] at h⟩
 | k + 1 => by
  obtain ⟨ih0, ih1, ih2, ih3, ih4, ih5, ih6, ih7⟩ := laws_FnRings.mono_l k
  refine ⟨?_, ?_, ?_, ?_, ?_, ?_, ?_, ?_⟩
  ·intro y0 y1 y2 y3 y4 y5 y6 y7 y8
   unfold laws_FnRings.j0
   repeat' first | (with_reducible first | exact ih0 _ _ _ _ _ _ _ _ _ | exact ih1 _ _ _ _ _ _ _ _ _ _ _ _ _ _ _ _ _ | exact ih2 _ _ _ _ _ _ _ _ _ _ _ _ _ _ _ _ _ _ _ _ _ _ | exact ih3 _ _ _ _ _ _ _ _ _ _ _ _ _ _ _ _ _ _ _ _ _ _ | exact ih4 _ _ _ _ _ _ _ _ _ _ _ _ _ _ _ _ _ _ _ _ _ _ _ _ | exact ih5 _ _ _ _ _ _ _ _ _ _ _ _ _ _ _ _ _ _ _ _ | exact ih6 _ _ _ _ _ _ _ _ _ _ _ _ _ _ _ | exact ih7 _ _ _ _ _ _ _ _ | exact impl_AddRings.mono _ _ _ _ _ _ | exact impl_IsRing.mono _ _ _ | exact impl_MultiplyRings.mono _ _ _ _ _ | exact impl_ResiduesOf.mono _ _ | exact impl_TotalOfRing.mono _ _ _ | exact impl_TotientOf.mono _ _ | exact impl_TurnRing.mono _ _ _ | exact laws_likeInts.mono _ _ _ | exact laws_ring9.mono _ _ _ _ _ | exact laws_sum.mono _ _ | exact spec_AddRings.mono _ _ _ _ _ _ | exact spec_DrawAddRings.mono _ _ | exact spec_DrawMultiplyRings.mono _ _ | exact spec_DrawResiduesOf.mono _ _ | exact spec_DrawTotalOfRing.mono _ _ | exact spec_DrawTurnRing.mono _ _ | exact spec_IsRing.mono _ _ _ | exact spec_MultiplyRings.mono _ _ _ _ _ | exact spec_ResiduesOf.mono _ _ | exact spec_TotalOfRing.mono _ _ _ | exact spec_TurnRing.mono _ _ _ | exact LeO.refl _ | exact LeO.none _ | refine LeO.ite ?_ ?_ | refine LeO.bind ?_ (fun _ => ?_)) | exact ih0 _ _ _ _ _ _ _ _ _ | exact ih1 _ _ _ _ _ _ _ _ _ _ _ _ _ _ _ _ _ | exact ih2 _ _ _ _ _ _ _ _ _ _ _ _ _ _ _ _ _ _ _ _ _ _ | exact ih3 _ _ _ _ _ _ _ _ _ _ _ _ _ _ _ _ _ _ _ _ _ _ | exact ih4 _ _ _ _ _ _ _ _ _ _ _ _ _ _ _ _ _ _ _ _ _ _ _ _ | exact ih5 _ _ _ _ _ _ _ _ _ _ _ _ _ _ _ _ _ _ _ _ | exact ih6 _ _ _ _ _ _ _ _ _ _ _ _ _ _ _ | exact ih7 _ _ _ _ _ _ _ _ | exact LeO.none _ | refine LeO.ite ?_ ?_ | refine LeO.bind ?_ (fun _ => ?_)
  ·intro y0 y1 y2 y3 y4 y5 y6 y7 y8 y9 y10 y11 y12 y13 y14 y15 y16
   unfold laws_FnRings.j1
   repeat' first | (with_reducible first | exact ih0 _ _ _ _ _ _ _ _ _ | exact ih1 _ _ _ _ _ _ _ _ _ _ _ _ _ _ _ _ _ | exact ih2 _ _ _ _ _ _ _ _ _ _ _ _ _ _ _ _ _ _ _ _ _ _ | exact ih3 _ _ _ _ _ _ _ _ _ _ _ _ _ _ _ _ _ _ _ _ _ _ | exact ih4 _ _ _ _ _ _ _ _ _ _ _ _ _ _ _ _ _ _ _ _ _ _ _ _ | exact ih5 _ _ _ _ _ _ _ _ _ _ _ _ _ _ _ _ _ _ _ _ | exact ih6 _ _ _ _ _ _ _ _ _ _ _ _ _ _ _ | exact ih7 _ _ _ _ _ _ _ _ | exact impl_AddRings.mono _ _ _ _ _ _ | exact impl_IsRing.mono _ _ _ | exact impl_MultiplyRings.mono _ _ _ _ _ | exact impl_ResiduesOf.mono _ _ | exact impl_TotalOfRing.mono _ _ _ | exact impl_TotientOf.mono _ _ | exact impl_TurnRing.mono _ _ _ | exact laws_likeInts.mono _ _ _ | exact laws_ring9.mono _ _ _ _ _ | exact laws_sum.mono _ _ | exact spec_AddRings.mono _ _ _ _ _ _ | exact spec_DrawAddRings.mono _ _ | exact spec_DrawMultiplyRings.mono _ _ | exact spec_DrawResiduesOf.mono _ _ | exact spec_DrawTotalOfRing.mono _ _ | exact spec_DrawTurnRing.mono _ _ | exact spec_IsRing.mono _ _ _ | exact spec_MultiplyRings.mono _ _ _ _ _ | exact spec_ResiduesOf.mono _ _ | exact spec_TotalOfRing.mono _ _ _ | exact spec_TurnRing.mono _ _ _ | exact LeO.refl _ | exact LeO.none _ | refine LeO.ite ?_ ?_ | refine LeO.bind ?_ (fun _ => ?_)) | exact ih0 _ _ _ _ _ _ _ _ _ | exact ih1 _ _ _ _ _ _ _ _ _ _ _ _ _ _ _ _ _ | exact ih2 _ _ _ _ _ _ _ _ _ _ _ _ _ _ _ _ _ _ _ _ _ _ | exact ih3 _ _ _ _ _ _ _ _ _ _ _ _ _ _ _ _ _ _ _ _ _ _ | exact ih4 _ _ _ _ _ _ _ _ _ _ _ _ _ _ _ _ _ _ _ _ _ _ _ _ | exact ih5 _ _ _ _ _ _ _ _ _ _ _ _ _ _ _ _ _ _ _ _ | exact ih6 _ _ _ _ _ _ _ _ _ _ _ _ _ _ _ | exact ih7 _ _ _ _ _ _ _ _ | exact LeO.none _ | refine LeO.ite ?_ ?_ | refine LeO.bind ?_ (fun _ => ?_)
  ·intro y0 y1 y2 y3 y4 y5 y6 y7 y8 y9 y10 y11 y12 y13 y14 y15 y16 y17 y18 y19 y20 y21
   unfold laws_FnRings.j2
   repeat' first | (with_reducible first | exact ih0 _ _ _ _ _ _ _ _ _ | exact ih1 _ _ _ _ _ _ _ _ _ _ _ _ _ _ _ _ _ | exact ih2 _ _ _ _ _ _ _ _ _ _ _ _ _ _ _ _ _ _ _ _ _ _ | exact ih3 _ _ _ _ _ _ _ _ _ _ _ _ _ _ _ _ _ _ _ _ _ _ | exact ih4 _ _ _ _ _ _ _ _ _ _ _ _ _ _ _ _ _ _ _ _ _ _ _ _ | exact ih5 _ _ _ _ _ _ _ _ _ _ _ _ _ _ _ _ _ _ _ _ | exact ih6 _ _ _ _ _ _ _ _ _ _ _ _ _ _ _ | exact ih7 _ _ _ _ _ _ _ _ | exact impl_AddRings.mono _ _ _ _ _ _ | exact impl_IsRing.mono _ _ _ | exact impl_MultiplyRings.mono _ _ _ _ _ | exact impl_ResiduesOf.mono _ _ | exact impl_TotalOfRing.mono _ _ _ | exact impl_TotientOf.mono _ _ | exact impl_TurnRing.mono _ _ _ | exact laws_likeInts.mono _ _ _ | exact laws_ring9.mono _ _ _ _ _ | exact laws_sum.mono _ _ | exact spec_AddRings.mono _ _ _ _ _ _ | exact spec_DrawAddRings.mono _ _ | exact spec_DrawMultiplyRings.mono _ _ | exact spec_DrawResiduesOf.mono _ _ | exact spec_DrawTotalOfRing.mono _ _ | exact spec_DrawTurnRing.mono _ _ | exact spec_IsRing.mono _ _ _ | exact spec_MultiplyRings.mono _ _ _ _ _ | exact spec_ResiduesOf.mono _ _ | exact spec_TotalOfRing.mono _ _ _ | exact spec_TurnRing.mono _ _ _ | exact LeO.refl _ | exact LeO.none _ | refine LeO.ite ?_ ?_ | refine LeO.bind ?_ (fun _ => ?_)) | exact ih0 _ _ _ _ _ _ _ _ _ | exact ih1 _ _ _ _ _ _ _ _ _ _ _ _ _ _ _ _ _ | exact ih2 _ _ _ _ _ _ _ _ _ _ _ _ _ _ _ _ _ _ _ _ _ _ | exact ih3 _ _ _ _ _ _ _ _ _ _ _ _ _ _ _ _ _ _ _ _ _ _ | exact ih4 _ _ _ _ _ _ _ _ _ _ _ _ _ _ _ _ _ _ _ _ _ _ _ _ | exact ih5 _ _ _ _ _ _ _ _ _ _ _ _ _ _ _ _ _ _ _ _ | exact ih6 _ _ _ _ _ _ _ _ _ _ _ _ _ _ _ | exact ih7 _ _ _ _ _ _ _ _ | exact LeO.none _ | refine LeO.ite ?_ ?_ | refine LeO.bind ?_ (fun _ => ?_)
  ·intro y0 y1 y2 y3 y4 y5 y6 y7 y8 y9 y10 y11 y12 y13 y14 y15 y16 y17 y18 y19 y20 y21
   unfold laws_FnRings.j3
   repeat' first | (with_reducible first | exact ih0 _ _ _ _ _ _ _ _ _ | exact ih1 _ _ _ _ _ _ _ _ _ _ _ _ _ _ _ _ _ | exact ih2 _ _ _ _ _ _ _ _ _ _ _ _ _ _ _ _ _ _ _ _ _ _ | exact ih3 _ _ _ _ _ _ _ _ _ _ _ _ _ _ _ _ _ _ _ _ _ _ | exact ih4 _ _ _ _ _ _ _ _ _ _ _ _ _ _ _ _ _ _ _ _ _ _ _ _ | exact ih5 _ _ _ _ _ _ _ _ _ _ _ _ _ _ _ _ _ _ _ _ | exact ih6 _ _ _ _ _ _ _ _ _ _ _ _ _ _ _ | exact ih7 _ _ _ _ _ _ _ _ | exact impl_AddRings.mono _ _ _ _ _ _ | exact impl_IsRing.mono _ _ _ | exact impl_MultiplyRings.mono _ _ _ _ _ | exact impl_ResiduesOf.mono _ _ | exact impl_TotalOfRing.mono _ _ _ | exact impl_TotientOf.mono _ _ | exact impl_TurnRing.mono _ _ _ | exact laws_likeInts.mono _ _ _ | exact laws_ring9.mono _ _ _ _ _ | exact laws_sum.mono _ _ | exact spec_AddRings.mono _ _ _ _ _ _ | exact spec_DrawAddRings.mono _ _ | exact spec_DrawMultiplyRings.mono _ _ | exact spec_DrawResiduesOf.mono _ _ | exact spec_DrawTotalOfRing.mono _ _ | exact spec_DrawTurnRing.mono _ _ | exact spec_IsRing.mono _ _ _ | exact spec_MultiplyRings.mono _ _ _ _ _ | exact spec_ResiduesOf.mono _ _ | exact spec_TotalOfRing.mono _ _ _ | exact spec_TurnRing.mono _ _ _ | exact LeO.refl _ | exact LeO.none _ | refine LeO.ite ?_ ?_ | refine LeO.bind ?_ (fun _ => ?_)) | exact ih0 _ _ _ _ _ _ _ _ _ | exact ih1 _ _ _ _ _ _ _ _ _ _ _ _ _ _ _ _ _ | exact ih2 _ _ _ _ _ _ _ _ _ _ _ _ _ _ _ _ _ _ _ _ _ _ | exact ih3 _ _ _ _ _ _ _ _ _ _ _ _ _ _ _ _ _ _ _ _ _ _ | exact ih4 _ _ _ _ _ _ _ _ _ _ _ _ _ _ _ _ _ _ _ _ _ _ _ _ | exact ih5 _ _ _ _ _ _ _ _ _ _ _ _ _ _ _ _ _ _ _ _ | exact ih6 _ _ _ _ _ _ _ _ _ _ _ _ _ _ _ | exact ih7 _ _ _ _ _ _ _ _ | exact LeO.none _ | refine LeO.ite ?_ ?_ | refine LeO.bind ?_ (fun _ => ?_)
  ·intro y0 y1 y2 y3 y4 y5 y6 y7 y8 y9 y10 y11 y12 y13 y14 y15 y16 y17 y18 y19 y20 y21 y22 y23
   unfold laws_FnRings.j4
   repeat' first | (with_reducible first | exact ih0 _ _ _ _ _ _ _ _ _ | exact ih1 _ _ _ _ _ _ _ _ _ _ _ _ _ _ _ _ _ | exact ih2 _ _ _ _ _ _ _ _ _ _ _ _ _ _ _ _ _ _ _ _ _ _ | exact ih3 _ _ _ _ _ _ _ _ _ _ _ _ _ _ _ _ _ _ _ _ _ _ | exact ih4 _ _ _ _ _ _ _ _ _ _ _ _ _ _ _ _ _ _ _ _ _ _ _ _ | exact ih5 _ _ _ _ _ _ _ _ _ _ _ _ _ _ _ _ _ _ _ _ | exact ih6 _ _ _ _ _ _ _ _ _ _ _ _ _ _ _ | exact ih7 _ _ _ _ _ _ _ _ | exact impl_AddRings.mono _ _ _ _ _ _ | exact impl_IsRing.mono _ _ _ | exact impl_MultiplyRings.mono _ _ _ _ _ | exact impl_ResiduesOf.mono _ _ | exact impl_TotalOfRing.mono _ _ _ | exact impl_TotientOf.mono _ _ | exact impl_TurnRing.mono _ _ _ | exact laws_likeInts.mono _ _ _ | exact laws_ring9.mono _ _ _ _ _ | exact laws_sum.mono _ _ | exact spec_AddRings.mono _ _ _ _ _ _ | exact spec_DrawAddRings.mono _ _ | exact spec_DrawMultiplyRings.mono _ _ | exact spec_DrawResiduesOf.mono _ _ | exact spec_DrawTotalOfRing.mono _ _ | exact spec_DrawTurnRing.mono _ _ | exact spec_IsRing.mono _ _ _ | exact spec_MultiplyRings.mono _ _ _ _ _ | exact spec_ResiduesOf.mono _ _ | exact spec_TotalOfRing.mono _ _ _ | exact spec_TurnRing.mono _ _ _ | exact LeO.refl _ | exact LeO.none _ | refine LeO.ite ?_ ?_ | refine LeO.bind ?_ (fun _ => ?_)) | exact ih0 _ _ _ _ _ _ _ _ _ | exact ih1 _ _ _ _ _ _ _ _ _ _ _ _ _ _ _ _ _ | exact ih2 _ _ _ _ _ _ _ _ _ _ _ _ _ _ _ _ _ _ _ _ _ _ | exact ih3 _ _ _ _ _ _ _ _ _ _ _ _ _ _ _ _ _ _ _ _ _ _ | exact ih4 _ _ _ _ _ _ _ _ _ _ _ _ _ _ _ _ _ _ _ _ _ _ _ _ | exact ih5 _ _ _ _ _ _ _ _ _ _ _ _ _ _ _ _ _ _ _ _ | exact ih6 _ _ _ _ _ _ _ _ _ _ _ _ _ _ _ | exact ih7 _ _ _ _ _ _ _ _ | exact LeO.none _ | refine LeO.ite ?_ ?_ | refine LeO.bind ?_ (fun _ => ?_)
  ·intro y0 y1 y2 y3 y4 y5 y6 y7 y8 y9 y10 y11 y12 y13 y14 y15 y16 y17 y18 y19
   unfold laws_FnRings.j5
   repeat' first | (with_reducible first | exact ih0 _ _ _ _ _ _ _ _ _ | exact ih1 _ _ _ _ _ _ _ _ _ _ _ _ _ _ _ _ _ | exact ih2 _ _ _ _ _ _ _ _ _ _ _ _ _ _ _ _ _ _ _ _ _ _ | exact ih3 _ _ _ _ _ _ _ _ _ _ _ _ _ _ _ _ _ _ _ _ _ _ | exact ih4 _ _ _ _ _ _ _ _ _ _ _ _ _ _ _ _ _ _ _ _ _ _ _ _ | exact ih5 _ _ _ _ _ _ _ _ _ _ _ _ _ _ _ _ _ _ _ _ | exact ih6 _ _ _ _ _ _ _ _ _ _ _ _ _ _ _ | exact ih7 _ _ _ _ _ _ _ _ | exact impl_AddRings.mono _ _ _ _ _ _ | exact impl_IsRing.mono _ _ _ | exact impl_MultiplyRings.mono _ _ _ _ _ | exact impl_ResiduesOf.mono _ _ | exact impl_TotalOfRing.mono _ _ _ | exact impl_TotientOf.mono _ _ | exact impl_TurnRing.mono _ _ _ | exact laws_likeInts.mono _ _ _ | exact laws_ring9.mono _ _ _ _ _ | exact laws_sum.mono _ _ | exact spec_AddRings.mono _ _ _ _ _ _ | exact spec_DrawAddRings.mono _ _ | exact spec_DrawMultiplyRings.mono _ _ | exact spec_DrawResiduesOf.mono _ _ | exact spec_DrawTotalOfRing.mono _ _ | exact spec_DrawTurnRing.mono _ _ | exact spec_IsRing.mono _ _ _ | exact spec_MultiplyRings.mono _ _ _ _ _ | exact spec_ResiduesOf.mono _ _ | exact spec_TotalOfRing.mono _ _ _ | exact spec_TurnRing.mono _ _ _ | exact LeO.refl _ | exact LeO.none _ | refine LeO.ite ?_ ?_ | refine LeO.bind ?_ (fun _ => ?_)) | exact ih0 _ _ _ _ _ _ _ _ _ | exact ih1 _ _ _ _ _ _ _ _ _ _ _ _ _ _ _ _ _ | exact ih2 _ _ _ _ _ _ _ _ _ _ _ _ _ _ _ _ _ _ _ _ _ _ | exact ih3 _ _ _ _ _ _ _ _ _ _ _ _ _ _ _ _ _ _ _ _ _ _ | exact ih4 _ _ _ _ _ _ _ _ _ _ _ _ _ _ _ _ _ _ _ _ _ _ _ _ | exact ih5 _ _ _ _ _ _ _ _ _ _ _ _ _ _ _ _ _ _ _ _ | exact ih6 _ _ _ _ _ _ _ _ _ _ _ _ _ _ _ | exact ih7 _ _ _ _ _ _ _ _ | exact LeO.none _ | refine LeO.ite ?_ ?_ | refine LeO.bind ?_ (fun _ => ?_)
  ·intro y0 y1 y2 y3 y4 y5 y6 y7 y8 y9 y10 y11 y12 y13 y14
   unfold laws_FnRings.j6
   repeat' first | (with_reducible first | exact ih0 _ _ _ _ _ _ _ _ _ | exact ih1 _ _ _ _ _ _ _ _ _ _ _ _ _ _ _ _ _ | exact ih2 _ _ _ _ _ _ _ _ _ _ _ _ _ _ _ _ _ _ _ _ _ _ | exact ih3 _ _ _ _ _ _ _ _ _ _ _ _ _ _ _ _ _ _ _ _ _ _ | exact ih4 _ _ _ _ _ _ _ _ _ _ _ _ _ _ _ _ _ _ _ _ _ _ _ _ | exact ih5 _ _ _ _ _ _ _ _ _ _ _ _ _ _ _ _ _ _ _ _ | exact ih6 _ _ _ _ _ _ _ _ _ _ _ _ _ _ _ | exact ih7 _ _ _ _ _ _ _ _ | exact impl_AddRings.mono _ _ _ _ _ _ | exact impl_IsRing.mono _ _ _ | exact impl_MultiplyRings.mono _ _ _ _ _ | exact impl_ResiduesOf.mono _ _ | exact impl_TotalOfRing.mono _ _ _ | exact impl_TotientOf.mono _ _ | exact impl_TurnRing.mono _ _ _ | exact laws_likeInts.mono _ _ _ | exact laws_ring9.mono _ _ _ _ _ | exact laws_sum.mono _ _ | exact spec_AddRings.mono _ _ _ _ _ _ | exact spec_DrawAddRings.mono _ _ | exact spec_DrawMultiplyRings.mono _ _ | exact spec_DrawResiduesOf.mono _ _ | exact spec_DrawTotalOfRing.mono _ _ | exact spec_DrawTurnRing.mono _ _ | exact spec_IsRing.mono _ _ _ | exact spec_MultiplyRings.mono _ _ _ _ _ | exact spec_ResiduesOf.mono _ _ | exact spec_TotalOfRing.mono _ _ _ | exact spec_TurnRing.mono _ _ _ | exact LeO.refl _ | exact LeO.none _ | refine LeO.ite ?_ ?_ | refine LeO.bind ?_ (fun _ => ?_)) | exact ih0 _ _ _ _ _ _ _ _ _ | exact ih1 _ _ _ _ _ _ _ _ _ _ _ _ _ _ _ _ _ | exact ih2 _ _ _ _ _ _ _ _ _ _ _ _ _ _ _ _ _ _ _ _ _ _ | exact ih3 _ _ _ _ _ _ _ _ _ _ _ _ _ _ _ _ _ _ _ _ _ _ | exact ih4 _ _ _ _ _ _ _ _ _ _ _ _ _ _ _ _ _ _ _ _ _ _ _ _ | exact ih5 _ _ _ _ _ _ _ _ _ _ _ _ _ _ _ _ _ _ _ _ | exact ih6 _ _ _ _ _ _ _ _ _ _ _ _ _ _ _ | exact ih7 _ _ _ _ _ _ _ _ | exact LeO.none _ | refine LeO.ite ?_ ?_ | refine LeO.bind ?_ (fun _ => ?_)
  ·intro y0 y1 y2 y3 y4 y5 y6 y7
   unfold laws_FnRings.j7
   repeat' first | (with_reducible first | exact ih0 _ _ _ _ _ _ _ _ _ | exact ih1 _ _ _ _ _ _ _ _ _ _ _ _ _ _ _ _ _ | exact ih2 _ _ _ _ _ _ _ _ _ _ _ _ _ _ _ _ _ _ _ _ _ _ | exact ih3 _ _ _ _ _ _ _ _ _ _ _ _ _ _ _ _ _ _ _ _ _ _ | exact ih4 _ _ _ _ _ _ _ _ _ _ _ _ _ _ _ _ _ _ _ _ _ _ _ _ | exact ih5 _ _ _ _ _ _ _ _ _ _ _ _ _ _ _ _ _ _ _ _ | exact ih6 _ _ _ _ _ _ _ _ _ _ _ _ _ _ _ | exact ih7 _ _ _ _ _ _ _ _ | exact impl_AddRings.mono _ _ _ _ _ _ | exact impl_IsRing.mono _ _ _ | exact impl_MultiplyRings.mono _ _ _ _ _ | exact impl_ResiduesOf.mono _ _ | exact impl_TotalOfRing.mono _ _ _ | exact impl_TotientOf.mono _ _ | exact impl_TurnRing.mono _ _ _ | exact laws_likeInts.mono _ _ _ | exact laws_ring9.mono _ _ _ _ _ | exact laws_sum.mono _ _ | exact spec_AddRings.mono _ _ _ _ _ _ | exact spec_DrawAddRings.mono _ _ | exact spec_DrawMultiplyRings.mono _ _ | exact spec_DrawResiduesOf.mono _ _ | exact spec_DrawTotalOfRing.mono _ _ | exact spec_DrawTurnRing.mono _ _ | exact spec_IsRing.mono _ _ _ | exact spec_MultiplyRings.mono _ _ _ _ _ | exact spec_ResiduesOf.mono _ _ | exact spec_TotalOfRing.mono _ _ _ | exact spec_TurnRing.mono _ _ _ | exact LeO.refl _ | exact LeO.none _ | refine LeO.ite ?_ ?_ | refine LeO.bind ?_ (fun _ => ?_)) | exact ih0 _ _ _ _ _ _ _ _ _ | exact ih1 _ _ _ _ _ _ _ _ _ _ _ _ _ _ _ _ _ | exact ih2 _ _ _ _ _ _ _ _ _ _ _ _ _ _ _ _ _ _ _ _ _ _ | exact ih3 _ _ _ _ _ _ _ _ _ _ _ _ _ _ _ _ _ _ _ _ _ _ | exact ih4 _ _ _ _ _ _ _ _ _ _ _ _ _ _ _ _ _ _ _ _ _ _ _ _ | exact ih5 _ _ _ _ _ _ _ _ _ _ _ _ _ _ _ _ _ _ _ _ | exact ih6 _ _ _ _ _ _ _ _ _ _ _ _ _ _ _ | exact ih7 _ _ _ _ _ _ _ _ | exact LeO.none _ | refine LeO.ite ?_ ?_ | refine LeO.bind ?_ (fun _ => ?_)
theorem laws_FnRings.mono : ∀ a0 k, LeO (laws_FnRings.f k a0) (laws_FnRings.f (k + 1) a0) := by
 intro a0 k
 obtain ⟨ih0, ih1, ih2, ih3, ih4, ih5, ih6, ih7⟩ := laws_FnRings.mono_l k
 unfold laws_FnRings.f
 repeat' first | (with_reducible first | exact ih0 _ _ _ _ _ _ _ _ _ | exact ih1 _ _ _ _ _ _ _ _ _ _ _ _ _ _ _ _ _ | exact ih2 _ _ _ _ _ _ _ _ _ _ _ _ _ _ _ _ _ _ _ _ _ _ | exact ih3 _ _ _ _ _ _ _ _ _ _ _ _ _ _ _ _ _ _ _ _ _ _ | exact ih4 _ _ _ _ _ _ _ _ _ _ _ _ _ _ _ _ _ _ _ _ _ _ _ _ | exact ih5 _ _ _ _ _ _ _ _ _ _ _ _ _ _ _ _ _ _ _ _ | exact ih6 _ _ _ _ _ _ _ _ _ _ _ _ _ _ _ | exact ih7 _ _ _ _ _ _ _ _ | exact impl_AddRings.mono _ _ _ _ _ _ | exact impl_IsRing.mono _ _ _ | exact impl_MultiplyRings.mono _ _ _ _ _ | exact impl_ResiduesOf.mono _ _ | exact impl_TotalOfRing.mono _ _ _ | exact impl_TotientOf.mono _ _ | exact impl_TurnRing.mono _ _ _ | exact laws_likeInts.mono _ _ _ | exact laws_ring9.mono _ _ _ _ _ | exact laws_sum.mono _ _ | exact spec_AddRings.mono _ _ _ _ _ _ | exact spec_DrawAddRings.mono _ _ | exact spec_DrawMultiplyRings.mono _ _ | exact spec_DrawResiduesOf.mono _ _ | exact spec_DrawTotalOfRing.mono _ _ | exact spec_DrawTurnRing.mono _ _ | exact spec_IsRing.mono _ _ _ | exact spec_MultiplyRings.mono _ _ _ _ _ | exact spec_ResiduesOf.mono _ _ | exact spec_TotalOfRing.mono _ _ _ | exact spec_TurnRing.mono _ _ _ | exact LeO.refl _ | exact LeO.none _ | refine LeO.ite ?_ ?_ | refine LeO.bind ?_ (fun _ => ?_)) | exact ih0 _ _ _ _ _ _ _ _ _ | exact ih1 _ _ _ _ _ _ _ _ _ _ _ _ _ _ _ _ _ | exact ih2 _ _ _ _ _ _ _ _ _ _ _ _ _ _ _ _ _ _ _ _ _ _ | exact ih3 _ _ _ _ _ _ _ _ _ _ _ _ _ _ _ _ _ _ _ _ _ _ | exact ih4 _ _ _ _ _ _ _ _ _ _ _ _ _ _ _ _ _ _ _ _ _ _ _ _ | exact ih5 _ _ _ _ _ _ _ _ _ _ _ _ _ _ _ _ _ _ _ _ | exact ih6 _ _ _ _ _ _ _ _ _ _ _ _ _ _ _ | exact ih7 _ _ _ _ _ _ _ _ | exact LeO.none _ | refine LeO.ite ?_ ?_ | refine LeO.bind ?_ (fun _ => ?_)
def laws_FnRings.T6 : Bool × List (List Nat × List Nat) := (true, [([], []), ([], []), ([0, 1], [0, 1]), ([2], [2]), ([3], [3]), ([3], [3]), ([4, 5, 3, 3], [3, 4, 5]), ([6, 3], [3, 6]), ([3, 7], [3, 7]), ([8, 6], [8]), ([9], [9]), ([10, 9, 9], [9, 10]), ([9], [9]), ([12, 11, 9], [9, 12]), ([11, 13, 9], [9, 11, 13]), ([9, 14], [9, 14])])
def laws_FnRings.B6 : List Nat := [0, 0, 3, 7, 15, 15, 63, 127, 255, 511, 1023, 2047, 1023, 8191, 16383, 32767]
theorem laws_FnRings.tab6 : rtab .any (opsOf Try.f11 6) = laws_FnRings.T6 := by kernel_rfl
theorem laws_FnRings.bits6 : waitsOk laws_FnRings.T6.2 laws_FnRings.B6 = true := by kernel_rfl
def laws_FnRings.T34 : Bool × List (List Nat × List Nat) := (true, [([], []), ([0], [0]), ([1], [1]), ([2], [2]), ([2], [2]), ([3, 4, 2, 2], [2, 3, 4]), ([5, 2], [2, 5]), ([2, 6], [2, 6]), ([7, 5], [7]), ([8], [8]), ([9, 8], [8, 9]), ([10, 8, 8], [8, 10]), ([8], [8]), ([12, 8], [8, 12]), ([13, 11, 8], [8, 13]), ([11, 14, 8], [8, 11, 14]), ([8, 15], [8, 15])])
def laws_FnRings.B34 : List Nat := [0, 1, 3, 7, 7, 31, 63, 127, 255, 511, 1023, 2047, 511, 4607, 16383, 32767, 65535]
theorem laws_FnRings.tab34 : rtab .any (opsOf Try.f11 34) = laws_FnRings.T34 := by kernel_rfl
theorem laws_FnRings.bits34 : waitsOk laws_FnRings.T34.2 laws_FnRings.B34 = true := by kernel_rfl
def laws_FnRings.T36 : Bool × List (List Nat × List Nat) := (true, [([], []), ([0], [0]), ([1], [1]), ([2], [2]), ([3, 2], [2, 3]), ([4, 2, 2], [2, 4]), ([2], [2]), ([6, 2], [2, 6]), ([7, 5, 2], [2, 7]), ([2], [2]), ([2], [2]), ([10, 2], [2, 10]), ([11, 8, 2], [2, 11]), ([9, 12, 2], [2, 9, 12]), ([8, 13, 2], [2, 8, 13]), ([5, 14, 2], [2, 5, 14]), ([2, 15], [2, 15])])
def laws_FnRings.B36 : List Nat := [0, 1, 3, 7, 15, 31, 7, 71, 255, 7, 7, 1031, 3583, 8191, 16383, 32767, 65535]
theorem laws_FnRings.tab36 : rtab .any (opsOf Try.f11 36) = laws_FnRings.T36 := by kernel_rfl
theorem laws_FnRings.bits36 : waitsOk laws_FnRings.T36.2 laws_FnRings.B36 = true := by kernel_rfl
def laws_FnRings.T41 : Bool × List (List Nat × List Nat) := (true, [([], []), ([0], [0]), ([1], [1]), ([2], [2]), ([2], [2]), ([3, 4, 2, 2], [2, 3, 4]), ([2, 5], [2, 5]), ([6, 5], [6]), ([7], [7]), ([8, 7], [7, 8]), ([9, 7, 7], [7, 9]), ([7], [7]), ([11, 7], [7, 11]), ([12, 10, 7], [7, 12]), ([7], [7]), ([14, 7], [7, 14]), ([15, 13, 7], [7, 15]), ([13, 16, 7], [7, 13, 16]), ([10, 17, 7], [7, 10, 17]), ([7, 18], [7, 18]), ([19, 16, 0, 1, 2, 3, 4, 5, 6, 7, 8, 9, 10, 11, 12, 13, 14, 15, 16, 17, 18, 19], [19])])
def laws_FnRings.B41 : List Nat := [0, 1, 3, 7, 7, 31, 63, 127, 255, 511, 1023, 255, 2303, 8191, 255, 16639, 65535, 131071, 262143, 524287, 1048575]
theorem laws_FnRings.tab41 : rtab .any (opsOf Try.f11 41) = laws_FnRings.T41 := by kernel_rfl
theorem laws_FnRings.bits41 : waitsOk laws_FnRings.T41.2 laws_FnRings.B41 = true := by kernel_rfl
set_option maxHeartbeats 8000000 in
set_option maxRecDepth 100000 in
theorem laws_FnRings.calls (k : Nat) (A0 : Option Addr) (c0 : Nat) (l0 : List Int) (r : Bool) (w : World) (hr0 : Kd.C (Kd.int .u8) w A0 l0.length l0) (hc0 : l0.length ≤ c0) (h : laws_FnRings.f k l0 = some r) :
  Calls Try.prog 11 #[.slice A0 l0.length c0] w fun e w' => e = .returned (.bool r) ∧ Below w.heap.size w w' := by
 have hu24 := Try.underlying24
 have HR0 := Aside0.mk hr0
 have HC0 := Aside0.mk hc0
 clear hr0 hc0
 have HB := Aside0.mk (Below.refl w.heap.size w)
 have H := h
 unfold laws_FnRings.f at H
 clear h
 replace H := Option.bind_eq_some_iff.mp H
 obtain ⟨t462, A20, H⟩ := H
 try dsimp only at H
 have A2 := Aside0.mk A20
 clear A20
 by_cases c3 : t462 = true
 ·subst c3
  have H1 : (some true) = some r := by rw [if_pos rfl] at H; exact H
  clear H
  have H := H1
  clear H1
  obtain rfl := Option.some.inj H
  go_enter Try.func11, Try.ntmps11
  go_wp2_with (first | ((with_reducible refine gate_callee (f := 39) rfl ?_); refine gl (some 38) Try.func39 #[.slice A0 l0.length c0] ?_; (with_reducible refine (laws_big.calls _ _ l0 true _ ?side1 ?side2 A2.out).mono ?_); (case side1 => repeat (first | exact HR0.out | (with_reducible refine Kd.C_alloc ?_ _) | (with_reducible refine Kd.C_drewN ?_ _) | (with_reducible refine Kd.C_drew ?_))); (case side2 => exact HC0.out); rintro e w' ⟨rfl, ⟨nd, rfl⟩⟩; refine ⟨_, rfl, ?_⟩))
  go_ret
  exact ⟨by first | rfl | (simp [errW_none, errW_some] <;> rfl) | (simp [*, errW_none, errW_some] <;> rfl), bk HB.out⟩
 ·replace c3 := Bool.eq_false_iff.mpr c3
  subst c3
  have H1 : ((spec_DrawMultiplyRings.f k l0).bind fun bt463 => ((impl_MultiplyRings.f k bt463.1 bt463.2.1 bt463.2.2.1 bt463.2.2.2).bind fun bt473 => ((spec_MultiplyRings.f k bt463.1 bt463.2.1 bt463.2.2.1 bt463.2.2.2).bind fun bt479 => (if bt473.2.2 = bt479.2.2 then ((laws_ring9.f k bt473.1 bt473.2.1 bt479.1 bt479.2.1).bind fun t485 => (if t485 = true then ((impl_IsRing.f k bt463.1 bt463.2.1).bind fun t486 => ((spec_IsRing.f k bt463.1 bt463.2.1).bind fun t487 => (laws_FnRings.j0 k l0 bt473.2.2 (t486 != t487) bt463.1 bt463.2.1 bt463.2.2.1 bt463.2.2.2 bt473.1 bt473.2.1))) else (none))) else (none))))) = some r := by rw [if_neg (show ¬ (false = true) by decide)] at H; exact H
  clear H
  have H := H1
  clear H1
  replace H := Option.bind_eq_some_iff.mp H
  obtain ⟨⟨t463, t464, t467, t468⟩, A40, H⟩ := H
  try dsimp only at H
  have A4 := Aside0.mk A40
  clear A40
  replace H := Option.bind_eq_some_iff.mp H
  obtain ⟨⟨t473, t474, t477⟩, A50, H⟩ := H
  try dsimp only at H
  have A5 := Aside0.mk A50
  clear A50
  replace H := Option.bind_eq_some_iff.mp H
  obtain ⟨⟨t479, t480, t483⟩, A60, H⟩ := H
  try dsimp only at H
  have A6 := Aside0.mk A60
  clear A60
  have HC7 := Aside0.mk H
  clear H
  go_enter Try.func11, Try.ntmps11
  go_upto_region 6 with (first | ((with_reducible refine gate_callee (f := 39) rfl ?_); refine gl (some 38) Try.func39 #[.slice A0 l0.length c0] ?_; (with_reducible refine (laws_big.calls _ _ l0 false _ ?side1 ?side2 A2.out).mono ?_); (case side1 => repeat (first | exact HR0.out | (with_reducible refine Kd.C_alloc ?_ _) | (with_reducible refine Kd.C_drewN ?_ _) | (with_reducible refine Kd.C_drew ?_))); (case side2 => exact HC0.out); rintro e w' ⟨rfl, ⟨nd, rfl⟩⟩; refine ⟨_, rfl, ?_⟩) | ((with_reducible refine gate_callee (f := 40) rfl ?_); refine gl (some 41) Try.func40 #[.slice A0 l0.length c0] ?_; (with_reducible refine (spec_DrawMultiplyRings.calls k _ _ l0 t463 t464 t467 t468 _ ?side1 ?side2 A4.out).mono ?_); (case side1 => repeat (first | exact HR0.out | (with_reducible refine Kd.C_alloc ?_ _) | (with_reducible refine Kd.C_drewN ?_ _) | (with_reducible refine Kd.C_drew ?_))); (case side2 => exact HC0.out); rintro e w8 ⟨v465, v469, rfl, ho0, ho1, hb⟩; refine ⟨_, rfl, ?_⟩; have HO466 := Aside0.mk (Kd.R_mono (ok' := fun _ => True) (Kd.R_lower ho0 (below_size (bk HB.out))) (fun _ _ => trivial)); have HO470 := Aside0.mk (Kd.R_mono (ok' := fun _ => True) (Kd.R_lower ho1 (below_size (bk HB.out))) (fun _ _ => trivial)); replace HB := hs HB hb; (try clear hb ho0 ho1)) | ((with_reducible refine gate_dst (N := 3) rfl ?_); (try (refine gate_guard (by rfl) ?_; dsimp only)); refine bx 3 #[.int .i64 0, .slice none 0 0] 24 (fun gb471 hg w9 hbox hb => ?_); have BK471 := Aside0.mk hbox; have GW471 := ge HB hg; have GE471 := GW471; replace HO466 := rb HO466 hb; replace HO470 := rb HO470 hb; replace HB := hs HB hb; clear hb hbox hg) | ((with_reducible refine gate_dst (N := 4) rfl ?_); (try (refine gate_guard (by rfl) ?_; dsimp only)); refine bx 4 #[.int .i64 0, .slice none 0 0] 24 (fun gb472 hg w10 hbox hb => ?_); have BK472 := Aside0.mk hbox; have GW472 := ge HB hg; have GE472 := GW472; obtain ⟨NB471_472, NB472_471⟩ := nb BK471 hg; replace HO466 := rb HO466 hb; replace HO470 := rb HO470 hb; replace BK471 := bb BK471 hb; replace HB := hs HB hb; clear hb hbox hg; have hnb11 := NB471_472.out; have hnc11 := NB472_471.out; have hcz12_0 : w10.cell? ⟨gb471, 0, none⟩ = some (.int .i64 0) := (blk_cell BK471.out 0).trans rfl; have hcz12_1 : w10.cell? ⟨gb471, 1, none⟩ = some (.slice none 0 0) := (blk_cell BK471.out 1).trans rfl; have hfz12_0 := blk_frozen BK471.out 0; have hfz12_1 := blk_frozen BK471.out 1; obtain ⟨Ao13, co13, eo13⟩ := Kd.R_slice HO466.out; subst eo13; have hcz14_0 : w10.cell? ⟨gb472, 0, none⟩ = some (.int .i64 0) := (blk_cell BK472.out 0).trans rfl; have hcz14_1 : w10.cell? ⟨gb472, 1, none⟩ = some (.slice none 0 0) := (blk_cell BK472.out 1).trans rfl; have hfz14_0 := blk_frozen BK472.out 0; have hfz14_1 := blk_frozen BK472.out 1; obtain ⟨Ao15, co15, eo15⟩ := Kd.R_slice HO470.out; subst eo15) | ((with_reducible refine gate_callee (f := 28) rfl ?_); refine gl (some 47) Try.func28 #[.agg #[.int .i64 t463, .slice Ao13 t464.length co13], .agg #[.int .i64 t467, .slice Ao15 t468.length co15]] ?_; (with_reducible refine (impl_MultiplyRings.calls k t463 _ _ t464 t467 _ _ t468 t473 t474 t477 _ ?side1 ?side2 ?side3 ?side4 A5.out).mono ?_); (case side1 => exact (Kd.R_reads' (rk (Kd.R_mono (Kd.R_far (p := ⟨gb472, 1, none⟩) (Kd.R_far (p := ⟨gb472, 0, none⟩) (Kd.R_far (p := ⟨gb471, 1, none⟩) (Kd.R_far (p := ⟨gb471, 0, none⟩) (Kd.R_types (Kd.R_types HO466.out BK471.out (by decide)) BK472.out (by decide)) (fun _ hk => hk.1.2) (.int .i64 t463)) (fun _ hk => hk.1.2) (.slice Ao13 t464.length co13)) (fun _ hk => hk.2) (.int .i64 t467)) (fun _ hk => hk.2) (.slice Ao15 t468.length co15)) (fun _ h_ => h_.1)))).2.2); (case side2 => exact (Kd.R_reads' HO466.out).2.1); (case side3 => exact (Kd.R_reads' (rk (Kd.R_mono (Kd.R_far (p := ⟨gb472, 1, none⟩) (Kd.R_far (p := ⟨gb472, 0, none⟩) (Kd.R_far (p := ⟨gb471, 1, none⟩) (Kd.R_far (p := ⟨gb471, 0, none⟩) (Kd.R_types (Kd.R_types HO470.out BK471.out (by decide)) BK472.out (by decide)) (fun _ hk => hk.1.2) (.int .i64 t463)) (fun _ hk => hk.1.2) (.slice Ao13 t464.length co13)) (fun _ hk => hk.2) (.int .i64 t467)) (fun _ hk => hk.2) (.slice Ao15 t468.length co15)) (fun _ h_ => h_.1)))).2.2); (case side4 => exact (Kd.R_reads' HO470.out).2.1); rintro e w16 ⟨v475, rfl, ho0, hb⟩; refine ⟨_, rfl, ?_⟩; have HO476 := Aside0.mk (Kd.R_mono (ok' := fun _ => True) (Kd.R_lower ho0 (below_size (bks HB.out))) (fun _ _ => trivial)); replace HO466 := rb HO466 hb; replace HO470 := rb HO470 hb; replace BK471 := Aside0.mk (blk_below (g := gb471) (o := .cells #[.int .i64 t463, .slice Ao13 t464.length co13] 24 (0, 0)) (by (with_reducible repeat (first | refine blk_drewN ?_ _ | refine blk_drew ?_ | refine blk_alloc ?_ _)); refine blk_far ?_ NB471_472.out _; (with_reducible repeat (first | refine blk_drewN ?_ _ | refine blk_drew ?_ | refine blk_alloc ?_ _)); refine blk_far ?_ NB471_472.out _; (with_reducible repeat (first | refine blk_drewN ?_ _ | refine blk_drew ?_ | refine blk_alloc ?_ _)); refine blk_put (cs := #[.int .i64 t463, .slice none 0 0]) ?_ 1 _ rfl; (with_reducible repeat (first | refine blk_drewN ?_ _ | refine blk_drew ?_ | refine blk_alloc ?_ _)); refine blk_put (cs := #[.int .i64 0, .slice none 0 0]) ?_ 0 _ rfl; (with_reducible repeat (first | refine blk_drewN ?_ _ | refine blk_drew ?_ | refine blk_alloc ?_ _)); exact BK471.out) hb); replace BK472 := Aside0.mk (blk_below (g := gb472) (o := .cells #[.int .i64 t467, .slice Ao15 t468.length co15] 24 (0, 0)) (by (with_reducible repeat (first | refine blk_drewN ?_ _ | refine blk_drew ?_ | refine blk_alloc ?_ _)); refine blk_put (cs := #[.int .i64 t467, .slice none 0 0]) ?_ 1 _ rfl; (with_reducible repeat (first | refine blk_drewN ?_ _ | refine blk_drew ?_ | refine blk_alloc ?_ _)); refine blk_put (cs := #[.int .i64 0, .slice none 0 0]) ?_ 0 _ rfl; (with_reducible repeat (first | refine blk_drewN ?_ _ | refine blk_drew ?_ | refine blk_alloc ?_ _)); refine blk_far ?_ NB472_471.out _; (with_reducible repeat (first | refine blk_drewN ?_ _ | refine blk_drew ?_ | refine blk_alloc ?_ _)); refine blk_far ?_ NB472_471.out _; (with_reducible repeat (first | refine blk_drewN ?_ _ | refine blk_drew ?_ | refine blk_alloc ?_ _)); exact BK472.out) hb); replace HB := hs HB hb; (try clear hb ho0)) | ((with_reducible refine gate_dst (N := 5) rfl ?_); (try (refine gate_guard (by rfl) ?_; dsimp only)); refine bx 5 #[.int .i64 0, .slice none 0 0] 24 (fun gb478 hg w17 hbox hb => ?_); have BK478 := Aside0.mk hbox; have GW478 := ge HB hg; have GE478 := GW478; obtain ⟨NB471_478, NB478_471⟩ := nb BK471 hg; obtain ⟨NB472_478, NB478_472⟩ := nb BK472 hg; replace HO466 := rb HO466 hb; replace HO470 := rb HO470 hb; replace HO476 := rb HO476 hb; replace BK471 := bb BK471 hb; replace BK472 := bb BK472 hb; replace HB := hs HB hb; clear hb hbox hg; have hnb18 := NB478_471.out; have hnc18 := NB471_478.out; have hnb19 := NB478_472.out; have hnc19 := NB472_478.out; have hcz20_0 : w17.cell? ⟨gb478, 0, none⟩ = some (.int .i64 0) := (blk_cell BK478.out 0).trans rfl; have hcz20_1 : w17.cell? ⟨gb478, 1, none⟩ = some (.slice none 0 0) := (blk_cell BK478.out 1).trans rfl; have hfz20_0 := blk_frozen BK478.out 0; have hfz20_1 := blk_frozen BK478.out 1; obtain ⟨Ao21, co21, eo21⟩ := Kd.R_slice HO476.out; subst eo21; have hcz22_0 : w17.cell? ⟨gb471, 0, none⟩ = some (.int .i64 t463) := (blk_cell BK471.out 0).trans rfl; have hcz22_1 : w17.cell? ⟨gb471, 1, none⟩ = some (.slice Ao13 t464.length co13) := (blk_cell BK471.out 1).trans rfl; have hfz22_0 := blk_frozen BK471.out 0; have hfz22_1 := blk_frozen BK471.out 1; have hcz23_0 : w17.cell? ⟨gb472, 0, none⟩ = some (.int .i64 t467) := (blk_cell BK472.out 0).trans rfl; have hcz23_1 : w17.cell? ⟨gb472, 1, none⟩ = some (.slice Ao15 t468.length co15) := (blk_cell BK472.out 1).trans rfl; have hfz23_0 := blk_frozen BK472.out 0; have hfz23_1 := blk_frozen BK472.out 1) | ((with_reducible refine gate_callee (f := 27) rfl ?_); refine gl (some 53) Try.func27 #[.agg #[.int .i64 t463, .slice Ao13 t464.length co13], .agg #[.int .i64 t467, .slice Ao15 t468.length co15]] ?_; (with_reducible refine (spec_MultiplyRings.calls k t463 _ _ t464 t467 _ _ t468 t479 t480 t483 _ ?side1 ?side2 ?side3 ?side4 A6.out).mono ?_); (case side1 => exact (Kd.R_reads' (rx HO466)).2.2); (case side2 => exact (Kd.R_reads' HO466.out).2.1); (case side3 => exact (Kd.R_reads' (rx HO470)).2.2); (case side4 => exact (Kd.R_reads' HO470.out).2.1); rintro e w24 ⟨v481, rfl, ho0, hb⟩; refine ⟨_, rfl, ?_⟩; have HO482 := Aside0.mk (Kd.R_mono (ok' := fun _ => True) (Kd.R_lower ho0 (below_size (bks HB.out))) (fun _ _ => trivial)); replace HO466 := rb HO466 hb; replace HO470 := rb HO470 hb; replace HO476 := rb HO476 hb; replace BK471 := bb BK471 hb; replace BK472 := bb BK472 hb; replace BK478 := Aside0.mk (blk_below (g := gb478) (o := .cells #[.int .i64 t473, .slice Ao21 t474.length co21] 24 (0, 0)) (by (with_reducible repeat (first | refine blk_drewN ?_ _ | refine blk_drew ?_ | refine blk_alloc ?_ _)); refine blk_put (cs := #[.int .i64 t473, .slice none 0 0]) ?_ 1 _ rfl; (with_reducible repeat (first | refine blk_drewN ?_ _ | refine blk_drew ?_ | refine blk_alloc ?_ _)); refine blk_put (cs := #[.int .i64 0, .slice none 0 0]) ?_ 0 _ rfl; (with_reducible repeat (first | refine blk_drewN ?_ _ | refine blk_drew ?_ | refine blk_alloc ?_ _)); exact BK478.out) hb); replace HB := hs HB hb; (try clear hb ho0)) | ((with_reducible refine gate_dst (N := 7) rfl ?_); (try (refine gate_guard (by rfl) ?_; dsimp only)); refine bx 7 #[.int .i64 0, .slice none 0 0] 24 (fun gb484 hg w25 hbox hb => ?_); have BK484 := Aside0.mk hbox; have GW484 := ge HB hg; have GE484 := GW484; obtain ⟨NB471_484, NB484_471⟩ := nb BK471 hg; obtain ⟨NB472_484, NB484_472⟩ := nb BK472 hg; obtain ⟨NB478_484, NB484_478⟩ := nb BK478 hg; replace HO466 := rb HO466 hb; replace HO470 := rb HO470 hb; replace HO476 := rb HO476 hb; replace HO482 := rb HO482 hb; replace BK471 := bb BK471 hb; replace BK472 := bb BK472 hb; replace BK478 := bb BK478 hb; replace HB := hs HB hb; clear hb hbox hg; have hnb26 := NB484_471.out; have hnc26 := NB471_484.out; have hnb27 := NB484_472.out; have hnc27 := NB472_484.out; have hnb28 := NB484_478.out; have hnc28 := NB478_484.out; have hcz29_0 : w25.cell? ⟨gb484, 0, none⟩ = some (.int .i64 0) := (blk_cell BK484.out 0).trans rfl; have hcz29_1 : w25.cell? ⟨gb484, 1, none⟩ = some (.slice none 0 0) := (blk_cell BK484.out 1).trans rfl; have hfz29_0 := blk_frozen BK484.out 0; have hfz29_1 := blk_frozen BK484.out 1; obtain ⟨Ao30, co30, eo30⟩ := Kd.R_slice HO482.out; subst eo30))
  (try simp only [Act.put, List.setIfInBounds_toArray, List.set_cons_zero, List.set_cons_succ])
  go_cut [71] (fun v71 wc => ∃ (kq : Nat) (x71_6 : Bool), v71 = .bool x71_6 ∧ Aside0 (laws_FnRings.j0 kq l0 t477 x71_6 t463 t464 t467 t468 t473 t474 = some r) ∧ Aside0 (kq ≤ k) ∧ Aside0 (Kd.R (Kd.int .i64) 2 wc w.heap.size (fun _ => True) (.slice Ao13 t464.length co13) t464) ∧ Aside0 (Kd.R (Kd.int .i64) 2 wc w.heap.size (fun _ => True) (.slice Ao15 t468.length co15) t468) ∧ Aside0 (Kd.R (Kd.int .i64) 2 wc w.heap.size (fun _ => True) (.slice Ao21 t474.length co21) t474) ∧ Aside0 (Kd.R (Kd.int .i64) 2 wc w.heap.size (fun _ => True) (.slice Ao30 t480.length co30) t480) ∧ Aside0 (wc.heap[gb471]? = some (.cells #[.int .i64 t463, (.slice Ao13 t464.length co13)] 24 (0, 0))) ∧ Aside0 (wc.heap[gb472]? = some (.cells #[.int .i64 t467, (.slice Ao15 t468.length co15)] 24 (0, 0))) ∧ Aside0 (wc.heap[gb478]? = some (.cells #[.int .i64 t473, (.slice Ao21 t474.length co21)] 24 (0, 0))) ∧ Aside0 (wc.heap[gb484]? = some (.cells #[.int .i64 t479, (.slice Ao30 t480.length co30)] 24 (0, 0))) ∧ Aside0 (Below w.heap.size w wc))
  case first =>
   have H := HC7.out
   clear HC7
   by_cases c31 : t477 = t483
   rotate_left
   ·rw [if_neg c31] at H; exact absurd H (by simp)
   rw [if_pos c31] at H
   have c31b0 : (t477 == t483) = true := beq_iff_eq.mpr c31
   have c31b1 : (t477 != t483) = false := bne_eq_false_iff_eq.mpr c31
   clear c31
   (first | rw [c31b0] | (simp only [i64_w, i32_w]; rw [c31b0]) | skip)
   replace H := Option.bind_eq_some_iff.mp H
   obtain ⟨t485, A320, H⟩ := H
   try dsimp only at H
   have A32 := Aside0.mk A320
   clear A320
   by_cases c33 : t485 = true
   rotate_left
   ·replace c33 := Bool.eq_false_iff.mpr c33
    subst c33
    have H1 : (none) = some r := by rw [if_neg (show ¬ (false = true) by decide)] at H; exact H
    clear H
    have H := H1
    clear H1
    exact absurd H (by simp)
   subst c33
   have H1 : ((impl_IsRing.f k t463 t464).bind fun t486 => ((spec_IsRing.f k t463 t464).bind fun t487 => (laws_FnRings.j0 k l0 t477 (t486 != t487) t463 t464 t467 t468 t473 t474))) = some r := by rw [if_pos rfl] at H; exact H
   clear H
   have H := H1
   clear H1
   replace H := Option.bind_eq_some_iff.mp H
   obtain ⟨t486, A340, H⟩ := H
   try dsimp only at H
   have A34 := Aside0.mk A340
   clear A340
   replace H := Option.bind_eq_some_iff.mp H
   obtain ⟨t487, A350, H⟩ := H
   try dsimp only at H
   have A35 := Aside0.mk A350
   clear A350
   have H' := Aside0.mk H
   clear H
   try go_wp2
   obtain ⟨w36, hq⟩ : ∃ w_, w_ = ((w25.setCell ⟨gb484, 0, none⟩ (.int .i64 t479)).setCell ⟨gb484, 1, none⟩ (.slice Ao30 t480.length co30)) := ⟨_, rfl⟩
   rw [← hq]
   have n7_ : Aside0 (w36.heap[gb484]? = some (.cells #[.int .i64 t479, .slice Ao30 t480.length co30] 24 (0, 0))) := ⟨by rw [hq]; exact (by (with_reducible repeat (first | refine blk_drewN ?_ _ | refine blk_drew ?_ | refine blk_alloc ?_ _)); refine blk_put (cs := #[.int .i64 t479, .slice none 0 0]) ?_ 1 _ rfl; (with_reducible repeat (first | refine blk_drewN ?_ _ | refine blk_drew ?_ | refine blk_alloc ?_ _)); refine blk_put (cs := #[.int .i64 0, .slice none 0 0]) ?_ 0 _ rfl; (with_reducible repeat (first | refine blk_drewN ?_ _ | refine blk_drew ?_ | refine blk_alloc ?_ _)); exact BK484.out)⟩
   replace HO466 := rq HO466 hq
   replace HO470 := rq HO470 hq
   replace HO476 := rq HO476 hq
   replace HO482 := rq HO482 hq
   replace BK471 := bq BK471 hq
   replace BK472 := bq BK472 hq
   replace BK478 := bq BK478 hq
   clear BK484
   have BK484 := n7_
   clear n7_
   replace HB := hq0 HB hq
   clear hq
   replace HO466 := rd0 HO466
   replace HO470 := rd0 HO470
   replace HO476 := rd0 HO476
   replace HO482 := rd0 HO482
   replace BK471 := bd BK471
   replace BK472 := bd BK472
   replace BK478 := bd BK478
   replace BK484 := bd BK484
   replace HB := hd0 HB
   refine start_ (n := 16) (S := fun w' => w'.cell? ⟨gb478, 0, none⟩ = some (.int .i64 t473) ∧ w'.cell? ⟨gb478, 1, none⟩ = some (.slice Ao21 t474.length co21) ∧ w'.cell? ⟨gb484, 0, none⟩ = some (.int .i64 t479) ∧ w'.cell? ⟨gb484, 1, none⟩ = some (.slice Ao30 t480.length co30) ∧ w'.cell? ⟨gb471, 0, none⟩ = some (.int .i64 t463) ∧ w'.cell? ⟨gb471, 1, none⟩ = some (.slice Ao13 t464.length co13)) (ds := []) #[false, false, false, false, false, false, false, false, false, false, false, false, false, false, false, false] (by kernel_rfl) rfl rfl ⟨(blk_cell BK478.out 0).trans rfl, (blk_cell BK478.out 1).trans rfl, (blk_cell BK484.out 0).trans rfl, (blk_cell BK484.out 1).trans rfl, (blk_cell BK471.out 0).trans rfl, (blk_cell BK471.out 1).trans rfl⟩ (fun hHeld => ?_); refine with_tabW laws_FnRings.tab6 laws_FnRings.bits6 (fun HT_ HW_ => ?_)
   generalize w36.drew = w37 at HO466 HO470 HO476 HO482 BK471 BK472 BK478 BK484 HB hHeld ⊢
   refine pu 0 (some 56) HT_ ?_
   refine pu 1 (some 57) HT_ ?_
   refine pu 2 (some 58) HT_ ?_
   refine pu 3 (some 59) HT_ ?_
   refine tk 4 (some 60) HT_ HW_ hHeld ?_ (hy := by rintro w' ⟨s0, s1, s2, s3, s4, s5⟩; go_simp; with_reducible rfl)
   refine tk 5 (some 61) HT_ HW_ hHeld ?_ (hy := by rintro w' ⟨s0, s1, s2, s3, s4, s5⟩; go_simp; with_reducible rfl)
   refine on 6 (some 62) HT_ (fun K hK => ?_)
   refine gs Try.func41 #[.agg #[.int .i64 t473, .slice Ao21 t474.length co21], .agg #[.int .i64 t479, .slice Ao30 t480.length co30]] ?_
   with_reducible refine (laws_ring9.calls k t473 _ _ t474 t479 _ _ t480 true _ ?side1 ?side2 ?side3 ?side4 A32.out).mono ?_
   (case side1 => repeat (first | exact (Kd.R_reads' HO476.out).2.2 | (with_reducible refine Kd.C_alloc ?_ _) | (with_reducible refine Kd.C_drewN ?_ _) | (with_reducible refine Kd.C_drew ?_)))
   (case side2 => exact (Kd.R_reads' HO476.out).2.1)
   (case side3 => repeat (first | exact (Kd.R_reads' HO482.out).2.2 | (with_reducible refine Kd.C_alloc ?_ _) | (with_reducible refine Kd.C_drewN ?_ _) | (with_reducible refine Kd.C_drew ?_)))
   (case side4 => exact (Kd.R_reads' HO482.out).2.1)
   rintro e w38 ⟨rfl, hb⟩
   refine ⟨_, rfl, ?_⟩
   replace HO466 := rb HO466 hb
   replace HO470 := rb HO470 hb
   replace HO476 := rb HO476 hb
   replace HO482 := rb HO482 hb
   replace BK471 := bb BK471 hb
   replace BK472 := bb BK472 hb
   replace BK478 := bb BK478 hb
   replace BK484 := bb BK484 hb
   replace HB := hs HB hb
   (try clear hb)
   refine hK.out _ _ ⟨(blk_cell BK478.out 0).trans rfl, (blk_cell BK478.out 1).trans rfl, (blk_cell BK484.out 0).trans rfl, (blk_cell BK484.out 1).trans rfl, (blk_cell BK471.out 0).trans rfl, (blk_cell BK471.out 1).trans rfl⟩ (fun hHeld => ?_)
   clear hK K
   refine nm ?_
   refine pu 7 (some 63) HT_ ?_
   refine pu 8 (some 64) HT_ ?_
   refine pu 9 (some 65) HT_ ?_
   refine tk 10 (some 66) HT_ HW_ hHeld ?_ (hy := by rintro w' ⟨s0, s1, s2, s3, s4, s5⟩; go_simp; with_reducible rfl)
   refine tk 12 (some 68) HT_ HW_ hHeld ?_ (hy := by rintro w' ⟨s0, s1, s2, s3, s4, s5⟩; go_simp; with_reducible rfl)
   refine on 11 (some 67) HT_ (fun K hK => ?_)
   refine gs Try.func42 #[.agg #[.int .i64 t463, .slice Ao13 t464.length co13]] ?_
   with_reducible refine (impl_IsRing.calls k t463 _ _ t464 t486 _ ?side1 ?side2 A34.out).mono ?_
   (case side1 => repeat (first | exact (Kd.R_reads' HO466.out).2.2 | (with_reducible refine Kd.C_alloc ?_ _) | (with_reducible refine Kd.C_drewN ?_ _) | (with_reducible refine Kd.C_drew ?_)))
   (case side2 => exact (Kd.R_reads' HO466.out).2.1)
   rintro e w39 ⟨rfl, hb⟩
   refine ⟨_, rfl, ?_⟩
   replace HO466 := rb HO466 hb
   replace HO470 := rb HO470 hb
   replace HO476 := rb HO476 hb
   replace HO482 := rb HO482 hb
   replace BK471 := bb BK471 hb
   replace BK472 := bb BK472 hb
   replace BK478 := bb BK478 hb
   replace BK484 := bb BK484 hb
   replace HB := hs HB hb
   (try clear hb)
   refine hK.out _ _ ⟨(blk_cell BK478.out 0).trans rfl, (blk_cell BK478.out 1).trans rfl, (blk_cell BK484.out 0).trans rfl, (blk_cell BK484.out 1).trans rfl, (blk_cell BK471.out 0).trans rfl, (blk_cell BK471.out 1).trans rfl⟩ (fun hHeld => ?_)
   clear hK K
   refine nm ?_
   refine on 13 (some 69) HT_ (fun K hK => ?_)
   refine gs Try.func43 #[.agg #[.int .i64 t463, .slice Ao13 t464.length co13]] ?_
   with_reducible refine (spec_IsRing.calls k t463 _ _ t464 t487 _ ?side1 ?side2 A35.out).mono ?_
   (case side1 => repeat (first | exact (Kd.R_reads' HO466.out).2.2 | (with_reducible refine Kd.C_alloc ?_ _) | (with_reducible refine Kd.C_drewN ?_ _) | (with_reducible refine Kd.C_drew ?_)))
   (case side2 => exact (Kd.R_reads' HO466.out).2.1)
   rintro e w40 ⟨rfl, hb⟩
   refine ⟨_, rfl, ?_⟩
   replace HO466 := rb HO466 hb
   replace HO470 := rb HO470 hb
   replace HO476 := rb HO476 hb
   replace HO482 := rb HO482 hb
   replace BK471 := bb BK471 hb
   replace BK472 := bb BK472 hb
   replace BK478 := bb BK478 hb
   replace BK484 := bb BK484 hb
   replace HB := hs HB hb
   (try clear hb)
   refine hK.out _ _ ⟨(blk_cell BK478.out 0).trans rfl, (blk_cell BK478.out 1).trans rfl, (blk_cell BK484.out 0).trans rfl, (blk_cell BK484.out 1).trans rfl, (blk_cell BK471.out 0).trans rfl, (blk_cell BK471.out 1).trans rfl⟩ (fun hHeld => ?_)
   clear hK K
   refine nm ?_
   refine pu 14 (some 70) HT_ ?_
   refine pu 15 (some 71) HT_ ?_
   refine done_ (done_of HT_.out (by kernel_rfl)) ?_
   try go_wp2
   go_meet
   case rel => exact ⟨_, ((t486 != t487)), (by first | rfl | (simp; done) | (simp [*]; done)), H', ⟨by first | omega | exact Nat.le_refl _⟩, ⟨rk HO466.out⟩, ⟨rk HO470.out⟩, ⟨rk HO476.out⟩, ⟨rk HO482.out⟩, ⟨pk BK471.out⟩, ⟨pk BK472.out⟩, ⟨pk BK478.out⟩, ⟨pk BK484.out⟩, ⟨bks HB.out⟩⟩
  case rest => as_aux_lemma =>
   clear HC7
   try clear c1; try clear c2; try clear p2; try clear c3; try clear c4; try clear c11; try clear c18; try clear c19; try clear c26; try clear c27; try clear c28; try clear c31; try clear c31b0; try clear c31b1; try clear c33; try clear c39; try clear c40; try clear hcz12_0; try clear hcz12_1; try clear hcz14_0; try clear hcz14_1; try clear hcz20_0; try clear hcz20_1; try clear hcz22_0; try clear hcz22_1; try clear hcz23_0; try clear hcz23_1; try clear hcz29_0; try clear hcz29_1; try clear hfz12_0; try clear hfz12_1; try clear hfz14_0; try clear hfz14_1; try clear hfz20_0; try clear hfz20_1; try clear hfz22_0; try clear hfz22_1; try clear hfz23_0; try clear hfz23_1; try clear hfz29_0; try clear hfz29_1
   obtain ⟨kq, x71_6, rfl, HA, HJ6, HO_472001, HO_473001, HO_479001, HO_485001, BK471, BK472, BK478, BK484, HB⟩ := hcut
   cases kq with
   | zero => exact absurd HA.out (by simp [laws_FnRings.j0])
   | succ kj6 =>
    have H := HA.out
    clear HA
    simp only [laws_FnRings.j0] at H
    by_cases c41 : x71_6 = true
    ·subst c41
     have H1 : (none) = some r := by rw [if_pos rfl] at H; exact H
     clear H
     have H := H1
     clear H1
     exact absurd H (by simp)
    replace c41 := Bool.eq_false_iff.mpr c41
    subst c41
    have H1 : ((spec_DrawAddRings.f kj6 l0).bind fun bt488 => ((impl_AddRings.f kj6 bt488.1 bt488.2.1 bt488.2.2.1 bt488.2.2.2.1 bt488.2.2.2.2).bind fun bt499 => ((spec_AddRings.f kj6 bt488.1 bt488.2.1 bt488.2.2.1 bt488.2.2.2.1 bt488.2.2.2.2).bind fun bt505 => (if bt499.2.2 = bt505.2.2 then ((laws_ring9.f kj6 bt499.1 bt499.2.1 bt505.1 bt505.2.1).bind fun t511 => (laws_FnRings.j1 kj6 l0 t477 bt488.2.2.2.2 bt499.2.2 (!t511) t463 t464 t467 t468 t473 t474 bt488.1 bt488.2.1 bt488.2.2.1 bt488.2.2.2.1 bt499.1 bt499.2.1)) else (none))))) = some r := by rw [if_neg (show ¬ (false = true) by decide)] at H; exact H
    clear H
    have H := H1
    clear H1
    replace H := Option.bind_eq_some_iff.mp H
    obtain ⟨⟨t488, t489, t492, t493, t496⟩, A420, H⟩ := H
    try dsimp only at H
    have A42 := Aside0.mk A420
    clear A420
    replace H := Option.bind_eq_some_iff.mp H
    obtain ⟨⟨t499, t500, t503⟩, A430, H⟩ := H
    try dsimp only at H
    have A43 := Aside0.mk A430
    clear A430
    replace H := Option.bind_eq_some_iff.mp H
    obtain ⟨⟨t505, t506, t509⟩, A440, H⟩ := H
    try dsimp only at H
    have A44 := Aside0.mk A440
    clear A440
    have HC45 := Aside0.mk H
    clear H
    go_upto_region 11 with (first | ((with_reducible refine gate_callee (f := 44) rfl ?_); refine gl (some 74) Try.func44 #[.slice A0 l0.length c0] ?_; (with_reducible refine (spec_DrawAddRings.calls kj6 _ _ l0 t488 t489 t492 t493 t496 _ ?side1 ?side2 A42.out).mono ?_); (case side1 => repeat (first | exact (Kd.C_below HR0.out HB.out) | (with_reducible refine Kd.C_alloc ?_ _) | (with_reducible refine Kd.C_drewN ?_ _) | (with_reducible refine Kd.C_drew ?_))); (case side2 => exact HC0.out); rintro e w46 ⟨v490, v494, rfl, ho0, ho1, hb⟩; refine ⟨_, rfl, ?_⟩; have HO491 := Aside0.mk (Kd.R_mono (ok' := fun _ => True) (Kd.R_lower ho0 (below_size (bks HB.out))) (fun _ _ => trivial)); have HO495 := Aside0.mk (Kd.R_mono (ok' := fun _ => True) (Kd.R_lower ho1 (below_size (bks HB.out))) (fun _ _ => trivial)); replace HO_472001 := rb HO_472001 hb; replace HO_473001 := rb HO_473001 hb; replace HO_479001 := rb HO_479001 hb; replace HO_485001 := rb HO_485001 hb; replace BK471 := bb BK471 hb; replace BK472 := bb BK472 hb; replace BK478 := bb BK478 hb; replace BK484 := bb BK484 hb; replace HB := hs HB hb; (try clear hb ho0 ho1)) | ((with_reducible refine gate_dst (N := 9) rfl ?_); (try (refine gate_guard (by rfl) ?_; dsimp only)); refine bx 9 #[.int .i64 0, .slice none 0 0] 24 (fun gb497 hg w47 hbox hb => ?_); have BK497 := Aside0.mk hbox; have GW497 := ge HB hg; have GE497 := GW497; obtain ⟨NB471_497, NB497_471⟩ := nb BK471 hg; obtain ⟨NB472_497, NB497_472⟩ := nb BK472 hg; obtain ⟨NB478_497, NB497_478⟩ := nb BK478 hg; obtain ⟨NB484_497, NB497_484⟩ := nb BK484 hg; replace HO_472001 := rb HO_472001 hb; replace HO_473001 := rb HO_473001 hb; replace HO_479001 := rb HO_479001 hb; replace HO_485001 := rb HO_485001 hb; replace HO491 := rb HO491 hb; replace HO495 := rb HO495 hb; replace BK471 := bb BK471 hb; replace BK472 := bb BK472 hb; replace BK478 := bb BK478 hb; replace BK484 := bb BK484 hb; replace HB := hs HB hb; clear hb hbox hg) | ((with_reducible refine gate_dst (N := 10) rfl ?_); (try (refine gate_guard (by rfl) ?_; dsimp only)); refine bx 10 #[.int .i64 0, .slice none 0 0] 24 (fun gb498 hg w48 hbox hb => ?_); have BK498 := Aside0.mk hbox; have GW498 := ge HB hg; have GE498 := GW498; obtain ⟨NB471_498, NB498_471⟩ := nb BK471 hg; obtain ⟨NB472_498, NB498_472⟩ := nb BK472 hg; obtain ⟨NB478_498, NB498_478⟩ := nb BK478 hg; obtain ⟨NB484_498, NB498_484⟩ := nb BK484 hg; obtain ⟨NB497_498, NB498_497⟩ := nb BK497 hg; replace HO_472001 := rb HO_472001 hb; replace HO_473001 := rb HO_473001 hb; replace HO_479001 := rb HO_479001 hb; replace HO_485001 := rb HO_485001 hb; replace HO491 := rb HO491 hb; replace HO495 := rb HO495 hb; replace BK471 := bb BK471 hb; replace BK472 := bb BK472 hb; replace BK478 := bb BK478 hb; replace BK484 := bb BK484 hb; replace BK497 := bb BK497 hb; replace HB := hs HB hb; clear hb hbox hg; have hnb49 := NB497_471.out; have hnc49 := NB471_497.out; have hnb50 := NB497_472.out; have hnc50 := NB472_497.out; have hnb51 := NB497_478.out; have hnc51 := NB478_497.out; have hnb52 := NB497_484.out; have hnc52 := NB484_497.out; have hnb53 := NB497_498.out; have hnc53 := NB498_497.out; have hcz54_0 : w48.cell? ⟨gb497, 0, none⟩ = some (.int .i64 0) := (blk_cell BK497.out 0).trans rfl; have hcz54_1 : w48.cell? ⟨gb497, 1, none⟩ = some (.slice none 0 0) := (blk_cell BK497.out 1).trans rfl; have hfz54_0 := blk_frozen BK497.out 0; have hfz54_1 := blk_frozen BK497.out 1; obtain ⟨Ao55, co55, eo55⟩ := Kd.R_slice HO491.out; subst eo55; have hnb56 := NB498_471.out; have hnc56 := NB471_498.out; have hnb57 := NB498_472.out; have hnc57 := NB472_498.out; have hnb58 := NB498_478.out; have hnc58 := NB478_498.out; have hnb59 := NB498_484.out; have hnc59 := NB484_498.out; have hcz60_0 : w48.cell? ⟨gb498, 0, none⟩ = some (.int .i64 0) := (blk_cell BK498.out 0).trans rfl; have hcz60_1 : w48.cell? ⟨gb498, 1, none⟩ = some (.slice none 0 0) := (blk_cell BK498.out 1).trans rfl; have hfz60_0 := blk_frozen BK498.out 0; have hfz60_1 := blk_frozen BK498.out 1; obtain ⟨Ao61, co61, eo61⟩ := Kd.R_slice HO495.out; subst eo61) | ((with_reducible refine gate_callee (f := 26) rfl ?_); refine gl (some 82) Try.func26 #[.agg #[.int .i64 t488, .slice Ao55 t489.length co55], .agg #[.int .i64 t492, .slice Ao61 t493.length co61], .int .i64 t496] ?_; (with_reducible refine (impl_AddRings.calls kj6 t488 _ _ t489 t492 _ _ t493 t496 t499 t500 t503 _ ?side1 ?side2 ?side3 ?side4 A43.out).mono ?_); (case side1 => exact (Kd.R_reads' (rk (Kd.R_mono (Kd.R_far (p := ⟨gb498, 1, none⟩) (Kd.R_far (p := ⟨gb498, 0, none⟩) (Kd.R_far (p := ⟨gb497, 1, none⟩) (Kd.R_far (p := ⟨gb497, 0, none⟩) (Kd.R_types (Kd.R_types HO491.out BK497.out (by decide)) BK498.out (by decide)) (fun _ hk => hk.1.2) (.int .i64 t488)) (fun _ hk => hk.1.2) (.slice Ao55 t489.length co55)) (fun _ hk => hk.2) (.int .i64 t492)) (fun _ hk => hk.2) (.slice Ao61 t493.length co61)) (fun _ h_ => h_.1)))).2.2); (case side2 => exact (Kd.R_reads' HO491.out).2.1); (case side3 => exact (Kd.R_reads' (rk (Kd.R_mono (Kd.R_far (p := ⟨gb498, 1, none⟩) (Kd.R_far (p := ⟨gb498, 0, none⟩) (Kd.R_far (p := ⟨gb497, 1, none⟩) (Kd.R_far (p := ⟨gb497, 0, none⟩) (Kd.R_types (Kd.R_types HO495.out BK497.out (by decide)) BK498.out (by decide)) (fun _ hk => hk.1.2) (.int .i64 t488)) (fun _ hk => hk.1.2) (.slice Ao55 t489.length co55)) (fun _ hk => hk.2) (.int .i64 t492)) (fun _ hk => hk.2) (.slice Ao61 t493.length co61)) (fun _ h_ => h_.1)))).2.2); (case side4 => exact (Kd.R_reads' HO495.out).2.1); rintro e w62 ⟨v501, rfl, ho0, hb⟩; refine ⟨_, rfl, ?_⟩; have HO502 := Aside0.mk (Kd.R_mono (ok' := fun _ => True) (Kd.R_lower ho0 (below_size (bks HB.out))) (fun _ _ => trivial)); replace HO_472001 := rb HO_472001 hb; replace HO_473001 := rb HO_473001 hb; replace HO_479001 := rb HO_479001 hb; replace HO_485001 := rb HO_485001 hb; replace HO491 := rb HO491 hb; replace HO495 := rb HO495 hb; replace BK471 := bb BK471 hb; replace BK472 := bb BK472 hb; replace BK478 := bb BK478 hb; replace BK484 := bb BK484 hb; replace BK497 := Aside0.mk (blk_below (g := gb497) (o := .cells #[.int .i64 t488, .slice Ao55 t489.length co55] 24 (0, 0)) (by (with_reducible repeat (first | refine blk_drewN ?_ _ | refine blk_drew ?_ | refine blk_alloc ?_ _)); refine blk_far ?_ NB497_498.out _; (with_reducible repeat (first | refine blk_drewN ?_ _ | refine blk_drew ?_ | refine blk_alloc ?_ _)); refine blk_far ?_ NB497_498.out _; (with_reducible repeat (first | refine blk_drewN ?_ _ | refine blk_drew ?_ | refine blk_alloc ?_ _)); refine blk_put (cs := #[.int .i64 t488, .slice none 0 0]) ?_ 1 _ rfl; (with_reducible repeat (first | refine blk_drewN ?_ _ | refine blk_drew ?_ | refine blk_alloc ?_ _)); refine blk_put (cs := #[.int .i64 0, .slice none 0 0]) ?_ 0 _ rfl; (with_reducible repeat (first | refine blk_drewN ?_ _ | refine blk_drew ?_ | refine blk_alloc ?_ _)); exact BK497.out) hb); replace BK498 := Aside0.mk (blk_below (g := gb498) (o := .cells #[.int .i64 t492, .slice Ao61 t493.length co61] 24 (0, 0)) (by (with_reducible repeat (first | refine blk_drewN ?_ _ | refine blk_drew ?_ | refine blk_alloc ?_ _)); refine blk_put (cs := #[.int .i64 t492, .slice none 0 0]) ?_ 1 _ rfl; (with_reducible repeat (first | refine blk_drewN ?_ _ | refine blk_drew ?_ | refine blk_alloc ?_ _)); refine blk_put (cs := #[.int .i64 0, .slice none 0 0]) ?_ 0 _ rfl; (with_reducible repeat (first | refine blk_drewN ?_ _ | refine blk_drew ?_ | refine blk_alloc ?_ _)); refine blk_far ?_ NB498_497.out _; (with_reducible repeat (first | refine blk_drewN ?_ _ | refine blk_drew ?_ | refine blk_alloc ?_ _)); refine blk_far ?_ NB498_497.out _; (with_reducible repeat (first | refine blk_drewN ?_ _ | refine blk_drew ?_ | refine blk_alloc ?_ _)); exact BK498.out) hb); replace HB := hs HB hb; (try clear hb ho0)) | ((with_reducible refine gate_dst (N := 12) rfl ?_); (try (refine gate_guard (by rfl) ?_; dsimp only)); refine bx 12 #[.int .i64 0, .slice none 0 0] 24 (fun gb504 hg w63 hbox hb => ?_); have BK504 := Aside0.mk hbox; have GW504 := ge HB hg; have GE504 := GW504; obtain ⟨NB471_504, NB504_471⟩ := nb BK471 hg; obtain ⟨NB472_504, NB504_472⟩ := nb BK472 hg; obtain ⟨NB478_504, NB504_478⟩ := nb BK478 hg; obtain ⟨NB484_504, NB504_484⟩ := nb BK484 hg; obtain ⟨NB497_504, NB504_497⟩ := nb BK497 hg; obtain ⟨NB498_504, NB504_498⟩ := nb BK498 hg; replace HO_472001 := rb HO_472001 hb; replace HO_473001 := rb HO_473001 hb; replace HO_479001 := rb HO_479001 hb; replace HO_485001 := rb HO_485001 hb; replace HO491 := rb HO491 hb; replace HO495 := rb HO495 hb; replace HO502 := rb HO502 hb; replace BK471 := bb BK471 hb; replace BK472 := bb BK472 hb; replace BK478 := bb BK478 hb; replace BK484 := bb BK484 hb; replace BK497 := bb BK497 hb; replace BK498 := bb BK498 hb; replace HB := hs HB hb; clear hb hbox hg; have hnb64 := NB504_471.out; have hnc64 := NB471_504.out; have hnb65 := NB504_472.out; have hnc65 := NB472_504.out; have hnb66 := NB504_478.out; have hnc66 := NB478_504.out; have hnb67 := NB504_484.out; have hnc67 := NB484_504.out; have hnb68 := NB504_497.out; have hnc68 := NB497_504.out; have hnb69 := NB504_498.out; have hnc69 := NB498_504.out; have hcz70_0 : w63.cell? ⟨gb504, 0, none⟩ = some (.int .i64 0) := (blk_cell BK504.out 0).trans rfl; have hcz70_1 : w63.cell? ⟨gb504, 1, none⟩ = some (.slice none 0 0) := (blk_cell BK504.out 1).trans rfl; have hfz70_0 := blk_frozen BK504.out 0; have hfz70_1 := blk_frozen BK504.out 1; obtain ⟨Ao71, co71, eo71⟩ := Kd.R_slice HO502.out; subst eo71; have hcz72_0 : w63.cell? ⟨gb497, 0, none⟩ = some (.int .i64 t488) := (blk_cell BK497.out 0).trans rfl; have hcz72_1 : w63.cell? ⟨gb497, 1, none⟩ = some (.slice Ao55 t489.length co55) := (blk_cell BK497.out 1).trans rfl; have hfz72_0 := blk_frozen BK497.out 0; have hfz72_1 := blk_frozen BK497.out 1; have hcz73_0 : w63.cell? ⟨gb498, 0, none⟩ = some (.int .i64 t492) := (blk_cell BK498.out 0).trans rfl; have hcz73_1 : w63.cell? ⟨gb498, 1, none⟩ = some (.slice Ao61 t493.length co61) := (blk_cell BK498.out 1).trans rfl; have hfz73_0 := blk_frozen BK498.out 0; have hfz73_1 := blk_frozen BK498.out 1) | ((with_reducible refine gate_callee (f := 25) rfl ?_); refine gl (some 89) Try.func25 #[.agg #[.int .i64 t488, .slice Ao55 t489.length co55], .agg #[.int .i64 t492, .slice Ao61 t493.length co61], .int .i64 t496] ?_; (with_reducible refine (spec_AddRings.calls kj6 t488 _ _ t489 t492 _ _ t493 t496 t505 t506 t509 _ ?side1 ?side2 ?side3 ?side4 A44.out).mono ?_); (case side1 => exact (Kd.R_reads' (rx HO491)).2.2); (case side2 => exact (Kd.R_reads' HO491.out).2.1); (case side3 => exact (Kd.R_reads' (rx HO495)).2.2); (case side4 => exact (Kd.R_reads' HO495.out).2.1); rintro e w74 ⟨v507, rfl, ho0, hb⟩; refine ⟨_, rfl, ?_⟩; have HO508 := Aside0.mk (Kd.R_mono (ok' := fun _ => True) (Kd.R_lower ho0 (below_size (bks HB.out))) (fun _ _ => trivial)); replace HO_472001 := rb HO_472001 hb; replace HO_473001 := rb HO_473001 hb; replace HO_479001 := rb HO_479001 hb; replace HO_485001 := rb HO_485001 hb; replace HO491 := rb HO491 hb; replace HO495 := rb HO495 hb; replace HO502 := rb HO502 hb; replace BK471 := bb BK471 hb; replace BK472 := bb BK472 hb; replace BK478 := bb BK478 hb; replace BK484 := bb BK484 hb; replace BK497 := bb BK497 hb; replace BK498 := bb BK498 hb; replace BK504 := Aside0.mk (blk_below (g := gb504) (o := .cells #[.int .i64 t499, .slice Ao71 t500.length co71] 24 (0, 0)) (by (with_reducible repeat (first | refine blk_drewN ?_ _ | refine blk_drew ?_ | refine blk_alloc ?_ _)); refine blk_put (cs := #[.int .i64 t499, .slice none 0 0]) ?_ 1 _ rfl; (with_reducible repeat (first | refine blk_drewN ?_ _ | refine blk_drew ?_ | refine blk_alloc ?_ _)); refine blk_put (cs := #[.int .i64 0, .slice none 0 0]) ?_ 0 _ rfl; (with_reducible repeat (first | refine blk_drewN ?_ _ | refine blk_drew ?_ | refine blk_alloc ?_ _)); exact BK504.out) hb); replace HB := hs HB hb; (try clear hb ho0)) | ((with_reducible refine gate_dst (N := 14) rfl ?_); (try (refine gate_guard (by rfl) ?_; dsimp only)); refine bx 14 #[.int .i64 0, .slice none 0 0] 24 (fun gb510 hg w75 hbox hb => ?_); have BK510 := Aside0.mk hbox; have GW510 := ge HB hg; have GE510 := GW510; obtain ⟨NB471_510, NB510_471⟩ := nb BK471 hg; obtain ⟨NB472_510, NB510_472⟩ := nb BK472 hg; obtain ⟨NB478_510, NB510_478⟩ := nb BK478 hg; obtain ⟨NB484_510, NB510_484⟩ := nb BK484 hg; obtain ⟨NB497_510, NB510_497⟩ := nb BK497 hg; obtain ⟨NB498_510, NB510_498⟩ := nb BK498 hg; obtain ⟨NB504_510, NB510_504⟩ := nb BK504 hg; replace HO_472001 := rb HO_472001 hb; replace HO_473001 := rb HO_473001 hb; replace HO_479001 := rb HO_479001 hb; replace HO_485001 := rb HO_485001 hb; replace HO491 := rb HO491 hb; replace HO495 := rb HO495 hb; replace HO502 := rb HO502 hb; replace HO508 := rb HO508 hb; replace BK471 := bb BK471 hb; replace BK472 := bb BK472 hb; replace BK478 := bb BK478 hb; replace BK484 := bb BK484 hb; replace BK497 := bb BK497 hb; replace BK498 := bb BK498 hb; replace BK504 := bb BK504 hb; replace HB := hs HB hb; clear hb hbox hg; have hnb76 := NB510_471.out; have hnc76 := NB471_510.out; have hnb77 := NB510_472.out; have hnc77 := NB472_510.out; have hnb78 := NB510_478.out; have hnc78 := NB478_510.out; have hnb79 := NB510_484.out; have hnc79 := NB484_510.out; have hnb80 := NB510_497.out; have hnc80 := NB497_510.out; have hnb81 := NB510_498.out; have hnc81 := NB498_510.out; have hnb82 := NB510_504.out; have hnc82 := NB504_510.out; have hcz83_0 : w75.cell? ⟨gb510, 0, none⟩ = some (.int .i64 0) := (blk_cell BK510.out 0).trans rfl; have hcz83_1 : w75.cell? ⟨gb510, 1, none⟩ = some (.slice none 0 0) := (blk_cell BK510.out 1).trans rfl; have hfz83_0 := blk_frozen BK510.out 0; have hfz83_1 := blk_frozen BK510.out 1; obtain ⟨Ao84, co84, eo84⟩ := Kd.R_slice HO508.out; subst eo84))
    (try simp only [Act.put, List.setIfInBounds_toArray, List.set_cons_zero, List.set_cons_succ])
    go_cut [100] (fun v100 wc => ∃ (kq : Nat) (x100_44 : Bool), v100 = .bool x100_44 ∧ Aside0 (laws_FnRings.j1 kq l0 t477 t496 t503 x100_44 t463 t464 t467 t468 t473 t474 t488 t489 t492 t493 t499 t500 = some r) ∧ Aside0 (kq ≤ kj6) ∧ Aside0 (Kd.R (Kd.int .i64) 2 wc w.heap.size (fun _ => True) (.slice Ao13 t464.length co13) t464) ∧ Aside0 (Kd.R (Kd.int .i64) 2 wc w.heap.size (fun _ => True) (.slice Ao15 t468.length co15) t468) ∧ Aside0 (Kd.R (Kd.int .i64) 2 wc w.heap.size (fun _ => True) (.slice Ao21 t474.length co21) t474) ∧ Aside0 (Kd.R (Kd.int .i64) 2 wc w.heap.size (fun _ => True) (.slice Ao30 t480.length co30) t480) ∧ Aside0 (Kd.R (Kd.int .i64) 2 wc w.heap.size (fun _ => True) (.slice Ao55 t489.length co55) t489) ∧ Aside0 (Kd.R (Kd.int .i64) 2 wc w.heap.size (fun _ => True) (.slice Ao61 t493.length co61) t493) ∧ Aside0 (Kd.R (Kd.int .i64) 2 wc w.heap.size (fun _ => True) (.slice Ao71 t500.length co71) t500) ∧ Aside0 (Kd.R (Kd.int .i64) 2 wc w.heap.size (fun _ => True) (.slice Ao84 t506.length co84) t506) ∧ Aside0 (wc.heap[gb471]? = some (.cells #[.int .i64 t463, (.slice Ao13 t464.length co13)] 24 (0, 0))) ∧ Aside0 (wc.heap[gb472]? = some (.cells #[.int .i64 t467, (.slice Ao15 t468.length co15)] 24 (0, 0))) ∧ Aside0 (wc.heap[gb478]? = some (.cells #[.int .i64 t473, (.slice Ao21 t474.length co21)] 24 (0, 0))) ∧ Aside0 (wc.heap[gb484]? = some (.cells #[.int .i64 t479, (.slice Ao30 t480.length co30)] 24 (0, 0))) ∧ Aside0 (wc.heap[gb497]? = some (.cells #[.int .i64 t488, (.slice Ao55 t489.length co55)] 24 (0, 0))) ∧ Aside0 (wc.heap[gb498]? = some (.cells #[.int .i64 t492, (.slice Ao61 t493.length co61)] 24 (0, 0))) ∧ Aside0 (wc.heap[gb504]? = some (.cells #[.int .i64 t499, (.slice Ao71 t500.length co71)] 24 (0, 0))) ∧ Aside0 (wc.heap[gb510]? = some (.cells #[.int .i64 t505, (.slice Ao84 t506.length co84)] 24 (0, 0))) ∧ Aside0 (Below w.heap.size w wc))
    case first =>
     have H := HC45.out
     clear HC45
     by_cases c85 : t503 = t509
     rotate_left
     ·rw [if_neg c85] at H; exact absurd H (by simp)
     rw [if_pos c85] at H
     have c85b0 : (t503 == t509) = true := beq_iff_eq.mpr c85
     have c85b1 : (t503 != t509) = false := bne_eq_false_iff_eq.mpr c85
     clear c85
     (first | rw [c85b0] | (simp only [i64_w, i32_w]; rw [c85b0]) | skip)
     replace H := Option.bind_eq_some_iff.mp H
     obtain ⟨t511, A860, H⟩ := H
     try dsimp only at H
     have A86 := Aside0.mk A860
     clear A860
     have H' := Aside0.mk H
     clear H
     have hnb87 := NB504_471.out
     have hnc87 := NB471_504.out
     have hnb88 := NB504_472.out
     have hnc88 := NB472_504.out
     have hnb89 := NB504_478.out
     have hnc89 := NB478_504.out
     have hnb90 := NB504_484.out
     have hnc90 := NB484_504.out
     have hnb91 := NB504_497.out
     have hnc91 := NB497_504.out
     have hnb92 := NB504_498.out
     have hnc92 := NB498_504.out
     have hnb93 := NB504_510.out
     have hnc93 := NB510_504.out
     have hcz94_0 : w75.cell? ⟨gb504, 0, none⟩ = some (.int .i64 t499) := (blk_cell BK504.out 0).trans rfl
     have hcz94_1 : w75.cell? ⟨gb504, 1, none⟩ = some (.slice Ao71 t500.length co71) := (blk_cell BK504.out 1).trans rfl
     have hfz94_0 := blk_frozen BK504.out 0
     have hfz94_1 := blk_frozen BK504.out 1
     have hnb95 := NB510_471.out
     have hnc95 := NB471_510.out
     have hnb96 := NB510_472.out
     have hnc96 := NB472_510.out
     have hnb97 := NB510_478.out
     have hnc97 := NB478_510.out
     have hnb98 := NB510_484.out
     have hnc98 := NB484_510.out
     have hnb99 := NB510_497.out
     have hnc99 := NB497_510.out
     have hnb100 := NB510_498.out
     have hnc100 := NB498_510.out
     have hcz101_0 : w75.cell? ⟨gb510, 0, none⟩ = some (.int .i64 0) := (blk_cell BK510.out 0).trans rfl
     have hcz101_1 : w75.cell? ⟨gb510, 1, none⟩ = some (.slice none 0 0) := (blk_cell BK510.out 1).trans rfl
     have hfz101_0 := blk_frozen BK510.out 0
     have hfz101_1 := blk_frozen BK510.out 1
     go_wp2_with (first | (go_at_call 41; (with_reducible refine (laws_ring9.calls kj6 t499 _ _ t500 t505 _ _ t506 t511 _ ?side1 ?side2 ?side3 ?side4 A86.out).mono ?_); (case side1 => exact (Kd.R_reads' (rx HO502)).2.2); (case side2 => exact (Kd.R_reads' HO502.out).2.1); (case side3 => exact (Kd.R_reads' (rx HO508)).2.2); (case side4 => exact (Kd.R_reads' HO508.out).2.1); rintro e w102 ⟨rfl, hb⟩; replace HO_472001 := rb HO_472001 hb; replace HO_473001 := rb HO_473001 hb; replace HO_479001 := rb HO_479001 hb; replace HO_485001 := rb HO_485001 hb; replace HO491 := rb HO491 hb; replace HO495 := rb HO495 hb; replace HO502 := rb HO502 hb; replace HO508 := rb HO508 hb; replace BK471 := bb BK471 hb; replace BK472 := bb BK472 hb; replace BK478 := bb BK478 hb; replace BK484 := bb BK484 hb; replace BK497 := bb BK497 hb; replace BK498 := bb BK498 hb; replace BK504 := bb BK504 hb; replace BK510 := Aside0.mk (blk_below (g := gb510) (o := .cells #[.int .i64 t505, .slice Ao84 t506.length co84] 24 (0, 0)) (by (with_reducible repeat (first | refine blk_drewN ?_ _ | refine blk_drew ?_ | refine blk_alloc ?_ _)); refine blk_put (cs := #[.int .i64 t505, .slice none 0 0]) ?_ 1 _ rfl; (with_reducible repeat (first | refine blk_drewN ?_ _ | refine blk_drew ?_ | refine blk_alloc ?_ _)); refine blk_put (cs := #[.int .i64 0, .slice none 0 0]) ?_ 0 _ rfl; (with_reducible repeat (first | refine blk_drewN ?_ _ | refine blk_drew ?_ | refine blk_alloc ?_ _)); exact BK510.out) hb); replace HB := hs HB hb; (try clear hb)))
     go_meet
     case rel => exact ⟨_, (!t511), (by first | rfl | (simp; done) | (simp [*]; done)), H', ⟨by have := HJ6.out; first | omega | exact Nat.le_refl _⟩, ⟨rk HO_472001.out⟩, ⟨rk HO_473001.out⟩, ⟨rk HO_479001.out⟩, ⟨rk HO_485001.out⟩, ⟨rk HO491.out⟩, ⟨rk HO495.out⟩, ⟨rk HO502.out⟩, ⟨rk HO508.out⟩, ⟨pk BK471.out⟩, ⟨pk BK472.out⟩, ⟨pk BK478.out⟩, ⟨pk BK484.out⟩, ⟨pk BK497.out⟩, ⟨pk BK498.out⟩, ⟨pk BK504.out⟩, ⟨pk BK510.out⟩, ⟨bks HB.out⟩⟩
    case rest => as_aux_lemma =>
     clear HC45
     try clear c1; try clear c2; try clear p2; try clear c3; try clear c4; try clear c5; try clear c6; try clear c7; try clear c8; try clear c9; try clear c10; try clear c11; try clear c18; try clear c19; try clear c25; try clear c26; try clear c27; try clear c28; try clear c31; try clear c31b0; try clear c31b1; try clear c33; try clear c39; try clear c40; try clear c41; try clear c42; try clear c43; try clear c44; try clear c49; try clear c50; try clear c51; try clear c52; try clear c53; try clear c56; try clear c57; try clear c58; try clear c59; try clear c64; try clear c65; try clear c66; try clear c67; try clear c68; try clear c69; try clear c76; try clear c77; try clear c78; try clear c79; try clear c80; try clear c81; try clear c82; try clear c85; try clear c85b0; try clear c85b1; try clear c87; try clear c88; try clear c89; try clear c90; try clear c91; try clear c92; try clear c93; try clear c95; try clear c96; try clear c97; try clear c98; try clear c99; try clear c100; try clear hcz101_0; try clear hcz101_1; try clear hcz12_0; try clear hcz12_1; try clear hcz14_0; try clear hcz14_1; try clear hcz20_0; try clear hcz20_1; try clear hcz22_0; try clear hcz22_1; try clear hcz23_0; try clear hcz23_1; try clear hcz29_0; try clear hcz29_1; try clear hcz54_0; try clear hcz54_1; try clear hcz60_0; try clear hcz60_1; try clear hcz70_0; try clear hcz70_1; try clear hcz72_0; try clear hcz72_1; try clear hcz73_0; try clear hcz73_1; try clear hcz83_0; try clear hcz83_1; try clear hcz94_0; try clear hcz94_1; try clear hfz101_0; try clear hfz101_1; try clear hfz12_0; try clear hfz12_1; try clear hfz14_0; try clear hfz14_1; try clear hfz20_0; try clear hfz20_1; try clear hfz22_0; try clear hfz22_1; try clear hfz23_0; try clear hfz23_1; try clear hfz29_0; try clear hfz29_1; try clear hfz54_0; try clear hfz54_1; try clear hfz60_0; try clear hfz60_1; try clear hfz70_0; try clear hfz70_1; try clear hfz72_0; try clear hfz72_1; try clear hfz73_0; try clear hfz73_1; try clear hfz83_0; try clear hfz83_1; try clear hfz94_0; try clear hfz94_1; try clear p2
     obtain ⟨kq, x100_44, rfl, HA, HJ44, HO_472001, HO_473001, HO_479001, HO_485001, HO_498001, HO_499001, HO_505001, HO_511001, BK471, BK472, BK478, BK484, BK497, BK498, BK504, BK510, HB⟩ := hcut
     cases kq with
     | zero => exact absurd HA.out (by simp [laws_FnRings.j1])
     | succ kj44 =>
      have H := HA.out
      clear HA
      simp only [laws_FnRings.j1] at H
      by_cases c103 : x100_44 = true
      ·subst c103
       have H1 : (none) = some r := by rw [if_pos rfl] at H; exact H
       clear H
       have H := H1
       clear H1
       exact absurd H (by simp)
      replace c103 := Bool.eq_false_iff.mpr c103
      subst c103
      have H1 : ((spec_DrawTurnRing.f kj44 l0).bind fun bt512 => ((impl_TurnRing.f kj44 bt512.1 bt512.2).bind fun bt517 => ((spec_TurnRing.f kj44 bt512.1 bt512.2).bind fun bt523 => (if bt517.2.2 = bt523.2.2 then ((laws_ring9.f kj44 bt517.1 bt517.2.1 bt523.1 bt523.2.1).bind fun t529 => (laws_FnRings.j2 kj44 l0 t477 t496 t503 bt517.2.2 (!t529) t463 t464 t467 t468 t473 t474 t488 t489 t492 t493 t499 t500 bt512.1 bt512.2 bt517.1 bt517.2.1)) else (none))))) = some r := by rw [if_neg (show ¬ (false = true) by decide)] at H; exact H
      clear H
      have H := H1
      clear H1
      replace H := Option.bind_eq_some_iff.mp H
      obtain ⟨⟨t512, t513⟩, A1040, H⟩ := H
      try dsimp only at H
      have A104 := Aside0.mk A1040
      clear A1040
      replace H := Option.bind_eq_some_iff.mp H
      obtain ⟨⟨t517, t518, t521⟩, A1050, H⟩ := H
      try dsimp only at H
      have A105 := Aside0.mk A1050
      clear A1050
      replace H := Option.bind_eq_some_iff.mp H
      obtain ⟨⟨t523, t524, t527⟩, A1060, H⟩ := H
      try dsimp only at H
      have A106 := Aside0.mk A1060
      clear A1060
      have HC107 := Aside0.mk H
      clear H
      go_upto_region 16 with (first | ((with_reducible refine gate_callee (f := 45) rfl ?_); refine gl (some 102) Try.func45 #[.slice A0 l0.length c0] ?_; (with_reducible refine (spec_DrawTurnRing.calls kj44 _ _ l0 t512 t513 _ ?side1 ?side2 A104.out).mono ?_); (case side1 => repeat (first | exact (Kd.C_below HR0.out HB.out) | (with_reducible refine Kd.C_alloc ?_ _) | (with_reducible refine Kd.C_drewN ?_ _) | (with_reducible refine Kd.C_drew ?_))); (case side2 => exact HC0.out); rintro e w108 ⟨v514, rfl, ho0, hb⟩; refine ⟨_, rfl, ?_⟩; have HO515 := Aside0.mk (Kd.R_mono (ok' := fun _ => True) (Kd.R_lower ho0 (below_size (bks HB.out))) (fun _ _ => trivial)); replace HO_472001 := rb HO_472001 hb; replace HO_473001 := rb HO_473001 hb; replace HO_479001 := rb HO_479001 hb; replace HO_485001 := rb HO_485001 hb; replace HO_498001 := rb HO_498001 hb; replace HO_499001 := rb HO_499001 hb; replace HO_505001 := rb HO_505001 hb; replace HO_511001 := rb HO_511001 hb; replace BK471 := bb BK471 hb; replace BK472 := bb BK472 hb; replace BK478 := bb BK478 hb; replace BK484 := bb BK484 hb; replace BK497 := bb BK497 hb; replace BK498 := bb BK498 hb; replace BK504 := bb BK504 hb; replace BK510 := bb BK510 hb; replace HB := hs HB hb; (try clear hb ho0)) | ((with_reducible refine gate_dst (N := 16) rfl ?_); (try (refine gate_guard (by rfl) ?_; dsimp only)); refine bx 16 #[.int .i64 0, .slice none 0 0] 24 (fun gb516 hg w109 hbox hb => ?_); have BK516 := Aside0.mk hbox; have GW516 := ge HB hg; have GE516 := GW516; obtain ⟨NB471_516, NB516_471⟩ := nb BK471 hg; obtain ⟨NB472_516, NB516_472⟩ := nb BK472 hg; obtain ⟨NB478_516, NB516_478⟩ := nb BK478 hg; obtain ⟨NB484_516, NB516_484⟩ := nb BK484 hg; obtain ⟨NB497_516, NB516_497⟩ := nb BK497 hg; obtain ⟨NB498_516, NB516_498⟩ := nb BK498 hg; obtain ⟨NB504_516, NB516_504⟩ := nb BK504 hg; obtain ⟨NB510_516, NB516_510⟩ := nb BK510 hg; replace HO_472001 := rb HO_472001 hb; replace HO_473001 := rb HO_473001 hb; replace HO_479001 := rb HO_479001 hb; replace HO_485001 := rb HO_485001 hb; replace HO_498001 := rb HO_498001 hb; replace HO_499001 := rb HO_499001 hb; replace HO_505001 := rb HO_505001 hb; replace HO_511001 := rb HO_511001 hb; replace HO515 := rb HO515 hb; replace BK471 := bb BK471 hb; replace BK472 := bb BK472 hb; replace BK478 := bb BK478 hb; replace BK484 := bb BK484 hb; replace BK497 := bb BK497 hb; replace BK498 := bb BK498 hb; replace BK504 := bb BK504 hb; replace BK510 := bb BK510 hb; replace HB := hs HB hb; clear hb hbox hg; have hnb110 := NB516_471.out; have hnc110 := NB471_516.out; have hnb111 := NB516_472.out; have hnc111 := NB472_516.out; have hnb112 := NB516_478.out; have hnc112 := NB478_516.out; have hnb113 := NB516_484.out; have hnc113 := NB484_516.out; have hnb114 := NB516_497.out; have hnc114 := NB497_516.out; have hnb115 := NB516_498.out; have hnc115 := NB498_516.out; have hnb116 := NB516_504.out; have hnc116 := NB504_516.out; have hnb117 := NB516_510.out; have hnc117 := NB510_516.out; have hcz118_0 : w109.cell? ⟨gb516, 0, none⟩ = some (.int .i64 0) := (blk_cell BK516.out 0).trans rfl; have hcz118_1 : w109.cell? ⟨gb516, 1, none⟩ = some (.slice none 0 0) := (blk_cell BK516.out 1).trans rfl; have hfz118_0 := blk_frozen BK516.out 0; have hfz118_1 := blk_frozen BK516.out 1; obtain ⟨Ao119, co119, eo119⟩ := Kd.R_slice HO515.out; subst eo119) | ((with_reducible refine gate_callee (f := 24) rfl ?_); refine gl (some 105) Try.func24 #[.agg #[.int .i64 t512, .slice Ao119 t513.length co119]] ?_; (with_reducible refine (impl_TurnRing.calls kj44 t512 _ _ t513 t517 t518 t521 _ ?side1 ?side2 A105.out).mono ?_); (case side1 => exact (Kd.R_reads' (rx HO515)).2.2); (case side2 => exact (Kd.R_reads' HO515.out).2.1); rintro e w120 ⟨v519, rfl, ho0, hb⟩; refine ⟨_, rfl, ?_⟩; have HO520 := Aside0.mk (Kd.R_mono (ok' := fun _ => True) (Kd.R_lower ho0 (below_size (bks HB.out))) (fun _ _ => trivial)); replace HO_472001 := rb HO_472001 hb; replace HO_473001 := rb HO_473001 hb; replace HO_479001 := rb HO_479001 hb; replace HO_485001 := rb HO_485001 hb; replace HO_498001 := rb HO_498001 hb; replace HO_499001 := rb HO_499001 hb; replace HO_505001 := rb HO_505001 hb; replace HO_511001 := rb HO_511001 hb; replace HO515 := rb HO515 hb; replace BK471 := bb BK471 hb; replace BK472 := bb BK472 hb; replace BK478 := bb BK478 hb; replace BK484 := bb BK484 hb; replace BK497 := bb BK497 hb; replace BK498 := bb BK498 hb; replace BK504 := bb BK504 hb; replace BK510 := bb BK510 hb; replace BK516 := Aside0.mk (blk_below (g := gb516) (o := .cells #[.int .i64 t512, .slice Ao119 t513.length co119] 24 (0, 0)) (by (with_reducible repeat (first | refine blk_drewN ?_ _ | refine blk_drew ?_ | refine blk_alloc ?_ _)); refine blk_put (cs := #[.int .i64 t512, .slice none 0 0]) ?_ 1 _ rfl; (with_reducible repeat (first | refine blk_drewN ?_ _ | refine blk_drew ?_ | refine blk_alloc ?_ _)); refine blk_put (cs := #[.int .i64 0, .slice none 0 0]) ?_ 0 _ rfl; (with_reducible repeat (first | refine blk_drewN ?_ _ | refine blk_drew ?_ | refine blk_alloc ?_ _)); exact BK516.out) hb); replace HB := hs HB hb; (try clear hb ho0)) | ((with_reducible refine gate_dst (N := 17) rfl ?_); (try (refine gate_guard (by rfl) ?_; dsimp only)); refine bx 17 #[.int .i64 0, .slice none 0 0] 24 (fun gb522 hg w121 hbox hb => ?_); have BK522 := Aside0.mk hbox; have GW522 := ge HB hg; have GE522 := GW522; obtain ⟨NB471_522, NB522_471⟩ := nb BK471 hg; obtain ⟨NB472_522, NB522_472⟩ := nb BK472 hg; obtain ⟨NB478_522, NB522_478⟩ := nb BK478 hg; obtain ⟨NB484_522, NB522_484⟩ := nb BK484 hg; obtain ⟨NB497_522, NB522_497⟩ := nb BK497 hg; obtain ⟨NB498_522, NB522_498⟩ := nb BK498 hg; obtain ⟨NB504_522, NB522_504⟩ := nb BK504 hg; obtain ⟨NB510_522, NB522_510⟩ := nb BK510 hg; obtain ⟨NB516_522, NB522_516⟩ := nb BK516 hg; replace HO_472001 := rb HO_472001 hb; replace HO_473001 := rb HO_473001 hb; replace HO_479001 := rb HO_479001 hb; replace HO_485001 := rb HO_485001 hb; replace HO_498001 := rb HO_498001 hb; replace HO_499001 := rb HO_499001 hb; replace HO_505001 := rb HO_505001 hb; replace HO_511001 := rb HO_511001 hb; replace HO515 := rb HO515 hb; replace HO520 := rb HO520 hb; replace BK471 := bb BK471 hb; replace BK472 := bb BK472 hb; replace BK478 := bb BK478 hb; replace BK484 := bb BK484 hb; replace BK497 := bb BK497 hb; replace BK498 := bb BK498 hb; replace BK504 := bb BK504 hb; replace BK510 := bb BK510 hb; replace BK516 := bb BK516 hb; replace HB := hs HB hb; clear hb hbox hg; have hnb122 := NB522_471.out; have hnc122 := NB471_522.out; have hnb123 := NB522_472.out; have hnc123 := NB472_522.out; have hnb124 := NB522_478.out; have hnc124 := NB478_522.out; have hnb125 := NB522_484.out; have hnc125 := NB484_522.out; have hnb126 := NB522_497.out; have hnc126 := NB497_522.out; have hnb127 := NB522_498.out; have hnc127 := NB498_522.out; have hnb128 := NB522_504.out; have hnc128 := NB504_522.out; have hnb129 := NB522_510.out; have hnc129 := NB510_522.out; have hnb130 := NB522_516.out; have hnc130 := NB516_522.out; have hcz131_0 : w121.cell? ⟨gb522, 0, none⟩ = some (.int .i64 0) := (blk_cell BK522.out 0).trans rfl; have hcz131_1 : w121.cell? ⟨gb522, 1, none⟩ = some (.slice none 0 0) := (blk_cell BK522.out 1).trans rfl; have hfz131_0 := blk_frozen BK522.out 0; have hfz131_1 := blk_frozen BK522.out 1; obtain ⟨Ao132, co132, eo132⟩ := Kd.R_slice HO520.out; subst eo132; have hcz133_0 : w121.cell? ⟨gb516, 0, none⟩ = some (.int .i64 t512) := (blk_cell BK516.out 0).trans rfl; have hcz133_1 : w121.cell? ⟨gb516, 1, none⟩ = some (.slice Ao119 t513.length co119) := (blk_cell BK516.out 1).trans rfl; have hfz133_0 := blk_frozen BK516.out 0; have hfz133_1 := blk_frozen BK516.out 1) | ((with_reducible refine gate_callee (f := 23) rfl ?_); refine gl (some 110) Try.func23 #[.agg #[.int .i64 t512, .slice Ao119 t513.length co119]] ?_; (with_reducible refine (spec_TurnRing.calls kj44 t512 _ _ t513 t523 t524 t527 _ ?side1 ?side2 A106.out).mono ?_); (case side1 => exact (Kd.R_reads' (rx HO515)).2.2); (case side2 => exact (Kd.R_reads' HO515.out).2.1); rintro e w134 ⟨v525, rfl, ho0, hb⟩; refine ⟨_, rfl, ?_⟩; have HO526 := Aside0.mk (Kd.R_mono (ok' := fun _ => True) (Kd.R_lower ho0 (below_size (bks HB.out))) (fun _ _ => trivial)); replace HO_472001 := rb HO_472001 hb; replace HO_473001 := rb HO_473001 hb; replace HO_479001 := rb HO_479001 hb; replace HO_485001 := rb HO_485001 hb; replace HO_498001 := rb HO_498001 hb; replace HO_499001 := rb HO_499001 hb; replace HO_505001 := rb HO_505001 hb; replace HO_511001 := rb HO_511001 hb; replace HO515 := rb HO515 hb; replace HO520 := rb HO520 hb; replace BK471 := bb BK471 hb; replace BK472 := bb BK472 hb; replace BK478 := bb BK478 hb; replace BK484 := bb BK484 hb; replace BK497 := bb BK497 hb; replace BK498 := bb BK498 hb; replace BK504 := bb BK504 hb; replace BK510 := bb BK510 hb; replace BK516 := bb BK516 hb; replace BK522 := Aside0.mk (blk_below (g := gb522) (o := .cells #[.int .i64 t517, .slice Ao132 t518.length co132] 24 (0, 0)) (by (with_reducible repeat (first | refine blk_drewN ?_ _ | refine blk_drew ?_ | refine blk_alloc ?_ _)); refine blk_put (cs := #[.int .i64 t517, .slice none 0 0]) ?_ 1 _ rfl; (with_reducible repeat (first | refine blk_drewN ?_ _ | refine blk_drew ?_ | refine blk_alloc ?_ _)); refine blk_put (cs := #[.int .i64 0, .slice none 0 0]) ?_ 0 _ rfl; (with_reducible repeat (first | refine blk_drewN ?_ _ | refine blk_drew ?_ | refine blk_alloc ?_ _)); exact BK522.out) hb); replace HB := hs HB hb; (try clear hb ho0)) | ((with_reducible refine gate_dst (N := 19) rfl ?_); (try (refine gate_guard (by rfl) ?_; dsimp only)); refine bx 19 #[.int .i64 0, .slice none 0 0] 24 (fun gb528 hg w135 hbox hb => ?_); have BK528 := Aside0.mk hbox; have GW528 := ge HB hg; have GE528 := GW528; obtain ⟨NB471_528, NB528_471⟩ := nb BK471 hg; obtain ⟨NB472_528, NB528_472⟩ := nb BK472 hg; obtain ⟨NB478_528, NB528_478⟩ := nb BK478 hg; obtain ⟨NB484_528, NB528_484⟩ := nb BK484 hg; obtain ⟨NB497_528, NB528_497⟩ := nb BK497 hg; obtain ⟨NB498_528, NB528_498⟩ := nb BK498 hg; obtain ⟨NB504_528, NB528_504⟩ := nb BK504 hg; obtain ⟨NB510_528, NB528_510⟩ := nb BK510 hg; obtain ⟨NB516_528, NB528_516⟩ := nb BK516 hg; obtain ⟨NB522_528, NB528_522⟩ := nb BK522 hg; replace HO_472001 := rb HO_472001 hb; replace HO_473001 := rb HO_473001 hb; replace HO_479001 := rb HO_479001 hb; replace HO_485001 := rb HO_485001 hb; replace HO_498001 := rb HO_498001 hb; replace HO_499001 := rb HO_499001 hb; replace HO_505001 := rb HO_505001 hb; replace HO_511001 := rb HO_511001 hb; replace HO515 := rb HO515 hb; replace HO520 := rb HO520 hb; replace HO526 := rb HO526 hb; replace BK471 := bb BK471 hb; replace BK472 := bb BK472 hb; replace BK478 := bb BK478 hb; replace BK484 := bb BK484 hb; replace BK497 := bb BK497 hb; replace BK498 := bb BK498 hb; replace BK504 := bb BK504 hb; replace BK510 := bb BK510 hb; replace BK516 := bb BK516 hb; replace BK522 := bb BK522 hb; replace HB := hs HB hb; clear hb hbox hg; have hnb136 := NB528_471.out; have hnc136 := NB471_528.out; have hnb137 := NB528_472.out; have hnc137 := NB472_528.out; have hnb138 := NB528_478.out; have hnc138 := NB478_528.out; have hnb139 := NB528_484.out; have hnc139 := NB484_528.out; have hnb140 := NB528_497.out; have hnc140 := NB497_528.out; have hnb141 := NB528_498.out; have hnc141 := NB498_528.out; have hnb142 := NB528_504.out; have hnc142 := NB504_528.out; have hnb143 := NB528_510.out; have hnc143 := NB510_528.out; have hnb144 := NB528_516.out; have hnc144 := NB516_528.out; have hnb145 := NB528_522.out; have hnc145 := NB522_528.out; have hcz146_0 : w135.cell? ⟨gb528, 0, none⟩ = some (.int .i64 0) := (blk_cell BK528.out 0).trans rfl; have hcz146_1 : w135.cell? ⟨gb528, 1, none⟩ = some (.slice none 0 0) := (blk_cell BK528.out 1).trans rfl; have hfz146_0 := blk_frozen BK528.out 0; have hfz146_1 := blk_frozen BK528.out 1; obtain ⟨Ao147, co147, eo147⟩ := Kd.R_slice HO526.out; subst eo147))
      (try simp only [Act.put, List.setIfInBounds_toArray, List.set_cons_zero, List.set_cons_succ])
      go_cut [121] (fun v121 wc => ∃ (kq : Nat) (x121_106 : Bool), v121 = .bool x121_106 ∧ Aside0 (laws_FnRings.j2 kq l0 t477 t496 t503 t521 x121_106 t463 t464 t467 t468 t473 t474 t488 t489 t492 t493 t499 t500 t512 t513 t517 t518 = some r) ∧ Aside0 (kq ≤ kj44) ∧ Aside0 (Kd.R (Kd.int .i64) 2 wc w.heap.size (fun _ => True) (.slice Ao13 t464.length co13) t464) ∧ Aside0 (Kd.R (Kd.int .i64) 2 wc w.heap.size (fun _ => True) (.slice Ao15 t468.length co15) t468) ∧ Aside0 (Kd.R (Kd.int .i64) 2 wc w.heap.size (fun _ => True) (.slice Ao21 t474.length co21) t474) ∧ Aside0 (Kd.R (Kd.int .i64) 2 wc w.heap.size (fun _ => True) (.slice Ao30 t480.length co30) t480) ∧ Aside0 (Kd.R (Kd.int .i64) 2 wc w.heap.size (fun _ => True) (.slice Ao55 t489.length co55) t489) ∧ Aside0 (Kd.R (Kd.int .i64) 2 wc w.heap.size (fun _ => True) (.slice Ao61 t493.length co61) t493) ∧ Aside0 (Kd.R (Kd.int .i64) 2 wc w.heap.size (fun _ => True) (.slice Ao71 t500.length co71) t500) ∧ Aside0 (Kd.R (Kd.int .i64) 2 wc w.heap.size (fun _ => True) (.slice Ao84 t506.length co84) t506) ∧ Aside0 (Kd.R (Kd.int .i64) 2 wc w.heap.size (fun _ => True) (.slice Ao119 t513.length co119) t513) ∧ Aside0 (Kd.R (Kd.int .i64) 2 wc w.heap.size (fun _ => True) (.slice Ao132 t518.length co132) t518) ∧ Aside0 (Kd.R (Kd.int .i64) 2 wc w.heap.size (fun _ => True) (.slice Ao147 t524.length co147) t524) ∧ Aside0 (wc.heap[gb471]? = some (.cells #[.int .i64 t463, (.slice Ao13 t464.length co13)] 24 (0, 0))) ∧ Aside0 (wc.heap[gb472]? = some (.cells #[.int .i64 t467, (.slice Ao15 t468.length co15)] 24 (0, 0))) ∧ Aside0 (wc.heap[gb478]? = some (.cells #[.int .i64 t473, (.slice Ao21 t474.length co21)] 24 (0, 0))) ∧ Aside0 (wc.heap[gb484]? = some (.cells #[.int .i64 t479, (.slice Ao30 t480.length co30)] 24 (0, 0))) ∧ Aside0 (wc.heap[gb497]? = some (.cells #[.int .i64 t488, (.slice Ao55 t489.length co55)] 24 (0, 0))) ∧ Aside0 (wc.heap[gb498]? = some (.cells #[.int .i64 t492, (.slice Ao61 t493.length co61)] 24 (0, 0))) ∧ Aside0 (wc.heap[gb504]? = some (.cells #[.int .i64 t499, (.slice Ao71 t500.length co71)] 24 (0, 0))) ∧ Aside0 (wc.heap[gb510]? = some (.cells #[.int .i64 t505, (.slice Ao84 t506.length co84)] 24 (0, 0))) ∧ Aside0 (wc.heap[gb516]? = some (.cells #[.int .i64 t512, (.slice Ao119 t513.length co119)] 24 (0, 0))) ∧ Aside0 (wc.heap[gb522]? = some (.cells #[.int .i64 t517, (.slice Ao132 t518.length co132)] 24 (0, 0))) ∧ Aside0 (wc.heap[gb528]? = some (.cells #[.int .i64 t523, (.slice Ao147 t524.length co147)] 24 (0, 0))) ∧ Aside0 (Below w.heap.size w wc))
      case first =>
       have H := HC107.out
       clear HC107
       by_cases c148 : t521 = t527
       rotate_left
       ·rw [if_neg c148] at H; exact absurd H (by simp)
       rw [if_pos c148] at H
       have c148b0 : (t521 == t527) = true := beq_iff_eq.mpr c148
       have c148b1 : (t521 != t527) = false := bne_eq_false_iff_eq.mpr c148
       clear c148
       (first | rw [c148b0] | (simp only [i64_w, i32_w]; rw [c148b0]) | skip)
       replace H := Option.bind_eq_some_iff.mp H
       obtain ⟨t529, A1490, H⟩ := H
       try dsimp only at H
       have A149 := Aside0.mk A1490
       clear A1490
       have H' := Aside0.mk H
       clear H
       have hnb150 := NB522_471.out
       have hnc150 := NB471_522.out
       have hnb151 := NB522_472.out
       have hnc151 := NB472_522.out
       have hnb152 := NB522_478.out
       have hnc152 := NB478_522.out
       have hnb153 := NB522_484.out
       have hnc153 := NB484_522.out
       have hnb154 := NB522_497.out
       have hnc154 := NB497_522.out
       have hnb155 := NB522_498.out
       have hnc155 := NB498_522.out
       have hnb156 := NB522_504.out
       have hnc156 := NB504_522.out
       have hnb157 := NB522_510.out
       have hnc157 := NB510_522.out
       have hnb158 := NB522_516.out
       have hnc158 := NB516_522.out
       have hnb159 := NB522_528.out
       have hnc159 := NB528_522.out
       have hcz160_0 : w135.cell? ⟨gb522, 0, none⟩ = some (.int .i64 t517) := (blk_cell BK522.out 0).trans rfl
       have hcz160_1 : w135.cell? ⟨gb522, 1, none⟩ = some (.slice Ao132 t518.length co132) := (blk_cell BK522.out 1).trans rfl
       have hfz160_0 := blk_frozen BK522.out 0
       have hfz160_1 := blk_frozen BK522.out 1
       have hnb161 := NB528_471.out
       have hnc161 := NB471_528.out
       have hnb162 := NB528_472.out
       have hnc162 := NB472_528.out
       have hnb163 := NB528_478.out
       have hnc163 := NB478_528.out
       have hnb164 := NB528_484.out
       have hnc164 := NB484_528.out
       have hnb165 := NB528_497.out
       have hnc165 := NB497_528.out
       have hnb166 := NB528_498.out
       have hnc166 := NB498_528.out
       have hnb167 := NB528_504.out
       have hnc167 := NB504_528.out
       have hnb168 := NB528_510.out
       have hnc168 := NB510_528.out
       have hnb169 := NB528_516.out
       have hnc169 := NB516_528.out
       have hcz170_0 : w135.cell? ⟨gb528, 0, none⟩ = some (.int .i64 0) := (blk_cell BK528.out 0).trans rfl
       have hcz170_1 : w135.cell? ⟨gb528, 1, none⟩ = some (.slice none 0 0) := (blk_cell BK528.out 1).trans rfl
       have hfz170_0 := blk_frozen BK528.out 0
       have hfz170_1 := blk_frozen BK528.out 1
       go_wp2_with (first | (go_at_call 41; (with_reducible refine (laws_ring9.calls kj44 t517 _ _ t518 t523 _ _ t524 t529 _ ?side1 ?side2 ?side3 ?side4 A149.out).mono ?_); (case side1 => exact (Kd.R_reads' (rx HO520)).2.2); (case side2 => exact (Kd.R_reads' HO520.out).2.1); (case side3 => exact (Kd.R_reads' (rx HO526)).2.2); (case side4 => exact (Kd.R_reads' HO526.out).2.1); rintro e w171 ⟨rfl, hb⟩; replace HO_472001 := rb HO_472001 hb; replace HO_473001 := rb HO_473001 hb; replace HO_479001 := rb HO_479001 hb; replace HO_485001 := rb HO_485001 hb; replace HO_498001 := rb HO_498001 hb; replace HO_499001 := rb HO_499001 hb; replace HO_505001 := rb HO_505001 hb; replace HO_511001 := rb HO_511001 hb; replace HO515 := rb HO515 hb; replace HO520 := rb HO520 hb; replace HO526 := rb HO526 hb; replace BK471 := bb BK471 hb; replace BK472 := bb BK472 hb; replace BK478 := bb BK478 hb; replace BK484 := bb BK484 hb; replace BK497 := bb BK497 hb; replace BK498 := bb BK498 hb; replace BK504 := bb BK504 hb; replace BK510 := bb BK510 hb; replace BK516 := bb BK516 hb; replace BK522 := bb BK522 hb; replace BK528 := Aside0.mk (blk_below (g := gb528) (o := .cells #[.int .i64 t523, .slice Ao147 t524.length co147] 24 (0, 0)) (by (with_reducible repeat (first | refine blk_drewN ?_ _ | refine blk_drew ?_ | refine blk_alloc ?_ _)); refine blk_put (cs := #[.int .i64 t523, .slice none 0 0]) ?_ 1 _ rfl; (with_reducible repeat (first | refine blk_drewN ?_ _ | refine blk_drew ?_ | refine blk_alloc ?_ _)); refine blk_put (cs := #[.int .i64 0, .slice none 0 0]) ?_ 0 _ rfl; (with_reducible repeat (first | refine blk_drewN ?_ _ | refine blk_drew ?_ | refine blk_alloc ?_ _)); exact BK528.out) hb); replace HB := hs HB hb; (try clear hb)))
       go_meet
       case rel => exact ⟨_, (!t529), (by first | rfl | (simp; done) | (simp [*]; done)), H', ⟨by have := HJ6.out; have := HJ44.out; first | omega | exact Nat.le_refl _⟩, ⟨rk HO_472001.out⟩, ⟨rk HO_473001.out⟩, ⟨rk HO_479001.out⟩, ⟨rk HO_485001.out⟩, ⟨rk HO_498001.out⟩, ⟨rk HO_499001.out⟩, ⟨rk HO_505001.out⟩, ⟨rk HO_511001.out⟩, ⟨rk HO515.out⟩, ⟨rk HO520.out⟩, ⟨rk HO526.out⟩, ⟨pk BK471.out⟩, ⟨pk BK472.out⟩, ⟨pk BK478.out⟩, ⟨pk BK484.out⟩, ⟨pk BK497.out⟩, ⟨pk BK498.out⟩, ⟨pk BK504.out⟩, ⟨pk BK510.out⟩, ⟨pk BK516.out⟩, ⟨pk BK522.out⟩, ⟨pk BK528.out⟩, ⟨bks HB.out⟩⟩
      case rest => as_aux_lemma =>
       clear HC107
       try clear c1; try clear c2; try clear p2; try clear c3; try clear c4; try clear c5; try clear c6; try clear c7; try clear c8; try clear c9; try clear c10; try clear c11; try clear c12; try clear c13; try clear c14; try clear c15; try clear c16; try clear c18; try clear c19; try clear c23; try clear c24; try clear c25; try clear c26; try clear c27; try clear c28; try clear c31; try clear c31b0; try clear c31b1; try clear c33; try clear c39; try clear c40; try clear c41; try clear c42; try clear c43; try clear c44; try clear c45; try clear c49; try clear c50; try clear c51; try clear c52; try clear c53; try clear c56; try clear c57; try clear c58; try clear c59; try clear c64; try clear c65; try clear c66; try clear c67; try clear c68; try clear c69; try clear c76; try clear c77; try clear c78; try clear c79; try clear c80; try clear c81; try clear c82; try clear c85; try clear c85b0; try clear c85b1; try clear c87; try clear c88; try clear c89; try clear c90; try clear c91; try clear c92; try clear c93; try clear c95; try clear c96; try clear c97; try clear c98; try clear c99; try clear c100; try clear c103; try clear c110; try clear c111; try clear c112; try clear c113; try clear c114; try clear c115; try clear c116; try clear c117; try clear c122; try clear c123; try clear c124; try clear c125; try clear c126; try clear c127; try clear c128; try clear c129; try clear c130; try clear c136; try clear c137; try clear c138; try clear c139; try clear c140; try clear c141; try clear c142; try clear c143; try clear c144; try clear c145; try clear c148; try clear c148b0; try clear c148b1; try clear c150; try clear c151; try clear c152; try clear c153; try clear c154; try clear c155; try clear c156; try clear c157; try clear c158; try clear c159; try clear c161; try clear c162; try clear c163; try clear c164; try clear c165; try clear c166; try clear c167; try clear c168; try clear c169; try clear hcz101_0; try clear hcz101_1; try clear hcz118_0; try clear hcz118_1; try clear hcz12_0; try clear hcz12_1; try clear hcz131_0; try clear hcz131_1; try clear hcz133_0; try clear hcz133_1; try clear hcz146_0; try clear hcz146_1; try clear hcz14_0; try clear hcz14_1; try clear hcz160_0; try clear hcz160_1; try clear hcz170_0; try clear hcz170_1; try clear hcz20_0; try clear hcz20_1; try clear hcz22_0; try clear hcz22_1; try clear hcz23_0; try clear hcz23_1; try clear hcz29_0; try clear hcz29_1; try clear hcz54_0; try clear hcz54_1; try clear hcz60_0; try clear hcz60_1; try clear hcz70_0; try clear hcz70_1; try clear hcz72_0; try clear hcz72_1; try clear hcz73_0; try clear hcz73_1; try clear hcz83_0; try clear hcz83_1; try clear hcz94_0; try clear hcz94_1; try clear hfz101_0; try clear hfz101_1; try clear hfz118_0; try clear hfz118_1; try clear hfz12_0; try clear hfz12_1; try clear hfz131_0; try clear hfz131_1; try clear hfz133_0; try clear hfz133_1; try clear hfz146_0; try clear hfz146_1; try clear hfz14_0; try clear hfz14_1; try clear hfz160_0; try clear hfz160_1; try clear hfz170_0; try clear hfz170_1; try clear hfz20_0; try clear hfz20_1; try clear hfz22_0; try clear hfz22_1; try clear hfz23_0; try clear hfz23_1; try clear hfz29_0; try clear hfz29_1; try clear hfz54_0; try clear hfz54_1; try clear hfz60_0; try clear hfz60_1; try clear hfz70_0; try clear hfz70_1; try clear hfz72_0; try clear hfz72_1; try clear hfz73_0; try clear hfz73_1; try clear hfz83_0; try clear hfz83_1; try clear hfz94_0; try clear hfz94_1; try clear p2
       obtain ⟨kq, x121_106, rfl, HA, HJ106, HO_472001, HO_473001, HO_479001, HO_485001, HO_498001, HO_499001, HO_505001, HO_511001, HO_517001, HO_523001, HO_529001, BK471, BK472, BK478, BK484, BK497, BK498, BK504, BK510, BK516, BK522, BK528, HB⟩ := hcut
       cases kq with
       | zero => exact absurd HA.out (by simp [laws_FnRings.j2])
       | succ kj106 =>
        have H := HA.out
        clear HA
        simp only [laws_FnRings.j2] at H
        by_cases c172 : x121_106 = true
        ·subst c172
         have H1 : (none) = some r := by rw [if_pos rfl] at H; exact H
         clear H
         have H := H1
         clear H1
         exact absurd H (by simp)
        replace c172 := Bool.eq_false_iff.mpr c172
        subst c172
        have H1 : ((spec_DrawTotalOfRing.f kj106 l0).bind fun bt530 => ((impl_TotalOfRing.f kj106 bt530.1 bt530.2).bind fun bt535 => ((spec_TotalOfRing.f kj106 bt530.1 bt530.2).bind fun bt537 => (if bt535.2 = bt537.2 then (laws_FnRings.j3 kj106 l0 t477 t496 t503 t521 (bt535.1 != bt537.1) t463 t464 t467 t468 t473 t474 t488 t489 t492 t493 t499 t500 t512 t513 t517 t518) else (none))))) = some r := by rw [if_neg (show ¬ (false = true) by decide)] at H; exact H
        clear H
        have H := H1
        clear H1
        replace H := Option.bind_eq_some_iff.mp H
        obtain ⟨⟨t530, t531⟩, A1730, H⟩ := H
        try dsimp only at H
        have A173 := Aside0.mk A1730
        clear A1730
        replace H := Option.bind_eq_some_iff.mp H
        obtain ⟨⟨t535, t536⟩, A1740, H⟩ := H
        try dsimp only at H
        have A174 := Aside0.mk A1740
        clear A1740
        replace H := Option.bind_eq_some_iff.mp H
        obtain ⟨⟨t537, t538⟩, A1750, H⟩ := H
        try dsimp only at H
        have A175 := Aside0.mk A1750
        clear A1750
        have HC176 := Aside0.mk H
        clear H
        go_upto_region 21 with (first | ((with_reducible refine gate_callee (f := 46) rfl ?_); refine gl (some 123) Try.func46 #[.slice A0 l0.length c0] ?_; (with_reducible refine (spec_DrawTotalOfRing.calls kj106 _ _ l0 t530 t531 _ ?side1 ?side2 A173.out).mono ?_); (case side1 => repeat (first | exact (Kd.C_below HR0.out HB.out) | (with_reducible refine Kd.C_alloc ?_ _) | (with_reducible refine Kd.C_drewN ?_ _) | (with_reducible refine Kd.C_drew ?_))); (case side2 => exact HC0.out); rintro e w177 ⟨v532, rfl, ho0, hb⟩; refine ⟨_, rfl, ?_⟩; have HO533 := Aside0.mk (Kd.R_mono (ok' := fun _ => True) (Kd.R_lower ho0 (below_size (bks HB.out))) (fun _ _ => trivial)); replace HO_472001 := rb HO_472001 hb; replace HO_473001 := rb HO_473001 hb; replace HO_479001 := rb HO_479001 hb; replace HO_485001 := rb HO_485001 hb; replace HO_498001 := rb HO_498001 hb; replace HO_499001 := rb HO_499001 hb; replace HO_505001 := rb HO_505001 hb; replace HO_511001 := rb HO_511001 hb; replace HO_517001 := rb HO_517001 hb; replace HO_523001 := rb HO_523001 hb; replace HO_529001 := rb HO_529001 hb; replace BK471 := bb BK471 hb; replace BK472 := bb BK472 hb; replace BK478 := bb BK478 hb; replace BK484 := bb BK484 hb; replace BK497 := bb BK497 hb; replace BK498 := bb BK498 hb; replace BK504 := bb BK504 hb; replace BK510 := bb BK510 hb; replace BK516 := bb BK516 hb; replace BK522 := bb BK522 hb; replace BK528 := bb BK528 hb; replace HB := hs HB hb; (try clear hb ho0)) | ((with_reducible refine gate_dst (N := 21) rfl ?_); (try (refine gate_guard (by rfl) ?_; dsimp only)); refine bx 21 #[.int .i64 0, .slice none 0 0] 24 (fun gb534 hg w178 hbox hb => ?_); have BK534 := Aside0.mk hbox; have GW534 := ge HB hg; have GE534 := GW534; obtain ⟨NB471_534, NB534_471⟩ := nb BK471 hg; obtain ⟨NB472_534, NB534_472⟩ := nb BK472 hg; obtain ⟨NB478_534, NB534_478⟩ := nb BK478 hg; obtain ⟨NB484_534, NB534_484⟩ := nb BK484 hg; obtain ⟨NB497_534, NB534_497⟩ := nb BK497 hg; obtain ⟨NB498_534, NB534_498⟩ := nb BK498 hg; obtain ⟨NB504_534, NB534_504⟩ := nb BK504 hg; obtain ⟨NB510_534, NB534_510⟩ := nb BK510 hg; obtain ⟨NB516_534, NB534_516⟩ := nb BK516 hg; obtain ⟨NB522_534, NB534_522⟩ := nb BK522 hg; obtain ⟨NB528_534, NB534_528⟩ := nb BK528 hg; replace HO_472001 := rb HO_472001 hb; replace HO_473001 := rb HO_473001 hb; replace HO_479001 := rb HO_479001 hb; replace HO_485001 := rb HO_485001 hb; replace HO_498001 := rb HO_498001 hb; replace HO_499001 := rb HO_499001 hb; replace HO_505001 := rb HO_505001 hb; replace HO_511001 := rb HO_511001 hb; replace HO_517001 := rb HO_517001 hb; replace HO_523001 := rb HO_523001 hb; replace HO_529001 := rb HO_529001 hb; replace HO533 := rb HO533 hb; replace BK471 := bb BK471 hb; replace BK472 := bb BK472 hb; replace BK478 := bb BK478 hb; replace BK484 := bb BK484 hb; replace BK497 := bb BK497 hb; replace BK498 := bb BK498 hb; replace BK504 := bb BK504 hb; replace BK510 := bb BK510 hb; replace BK516 := bb BK516 hb; replace BK522 := bb BK522 hb; replace BK528 := bb BK528 hb; replace HB := hs HB hb; clear hb hbox hg; have hnb179 := NB534_471.out; have hnc179 := NB471_534.out; have hnb180 := NB534_472.out; have hnc180 := NB472_534.out; have hnb181 := NB534_478.out; have hnc181 := NB478_534.out; have hnb182 := NB534_484.out; have hnc182 := NB484_534.out; have hnb183 := NB534_497.out; have hnc183 := NB497_534.out; have hnb184 := NB534_498.out; have hnc184 := NB498_534.out; have hnb185 := NB534_504.out; have hnc185 := NB504_534.out; have hnb186 := NB534_510.out; have hnc186 := NB510_534.out; have hnb187 := NB534_516.out; have hnc187 := NB516_534.out; have hnb188 := NB534_522.out; have hnc188 := NB522_534.out; have hnb189 := NB534_528.out; have hnc189 := NB528_534.out; have hcz190_0 : w178.cell? ⟨gb534, 0, none⟩ = some (.int .i64 0) := (blk_cell BK534.out 0).trans rfl; have hcz190_1 : w178.cell? ⟨gb534, 1, none⟩ = some (.slice none 0 0) := (blk_cell BK534.out 1).trans rfl; have hfz190_0 := blk_frozen BK534.out 0; have hfz190_1 := blk_frozen BK534.out 1; obtain ⟨Ao191, co191, eo191⟩ := Kd.R_slice HO533.out; subst eo191) | ((with_reducible refine gate_callee (f := 22) rfl ?_); refine gl (some 126) Try.func22 #[.agg #[.int .i64 t530, .slice Ao191 t531.length co191]] ?_; (with_reducible refine (impl_TotalOfRing.calls kj106 t530 _ _ t531 t535 t536 _ ?side1 ?side2 A174.out).mono ?_); (case side1 => exact (Kd.R_reads' (rx HO533)).2.2); (case side2 => exact (Kd.R_reads' HO533.out).2.1); rintro e w192 ⟨rfl, hb⟩; refine ⟨_, rfl, ?_⟩; replace HO_472001 := rb HO_472001 hb; replace HO_473001 := rb HO_473001 hb; replace HO_479001 := rb HO_479001 hb; replace HO_485001 := rb HO_485001 hb; replace HO_498001 := rb HO_498001 hb; replace HO_499001 := rb HO_499001 hb; replace HO_505001 := rb HO_505001 hb; replace HO_511001 := rb HO_511001 hb; replace HO_517001 := rb HO_517001 hb; replace HO_523001 := rb HO_523001 hb; replace HO_529001 := rb HO_529001 hb; replace HO533 := rb HO533 hb; replace BK471 := bb BK471 hb; replace BK472 := bb BK472 hb; replace BK478 := bb BK478 hb; replace BK484 := bb BK484 hb; replace BK497 := bb BK497 hb; replace BK498 := bb BK498 hb; replace BK504 := bb BK504 hb; replace BK510 := bb BK510 hb; replace BK516 := bb BK516 hb; replace BK522 := bb BK522 hb; replace BK528 := bb BK528 hb; replace BK534 := Aside0.mk (blk_below (g := gb534) (o := .cells #[.int .i64 t530, .slice Ao191 t531.length co191] 24 (0, 0)) (by (with_reducible repeat (first | refine blk_drewN ?_ _ | refine blk_drew ?_ | refine blk_alloc ?_ _)); refine blk_put (cs := #[.int .i64 t530, .slice none 0 0]) ?_ 1 _ rfl; (with_reducible repeat (first | refine blk_drewN ?_ _ | refine blk_drew ?_ | refine blk_alloc ?_ _)); refine blk_put (cs := #[.int .i64 0, .slice none 0 0]) ?_ 0 _ rfl; (with_reducible repeat (first | refine blk_drewN ?_ _ | refine blk_drew ?_ | refine blk_alloc ?_ _)); exact BK534.out) hb); replace HB := hs HB hb; (try clear hb); have hcz193_0 : w192.cell? ⟨gb534, 0, none⟩ = some (.int .i64 t530) := (blk_cell BK534.out 0).trans rfl; have hcz193_1 : w192.cell? ⟨gb534, 1, none⟩ = some (.slice Ao191 t531.length co191) := (blk_cell BK534.out 1).trans rfl; have hfz193_0 := blk_frozen BK534.out 0; have hfz193_1 := blk_frozen BK534.out 1) | ((with_reducible refine gate_callee (f := 20) rfl ?_); refine gl (some 131) Try.func20 #[.agg #[.int .i64 t530, .slice Ao191 t531.length co191]] ?_; (with_reducible refine (spec_TotalOfRing.calls kj106 t530 _ _ t531 t537 t538 _ ?side1 ?side2 A175.out).mono ?_); (case side1 => repeat (first | exact (Kd.R_reads' HO533.out).2.2 | (with_reducible refine Kd.C_alloc ?_ _) | (with_reducible refine Kd.C_drewN ?_ _) | (with_reducible refine Kd.C_drew ?_))); (case side2 => exact (Kd.R_reads' HO533.out).2.1); rintro e w194 ⟨rfl, hb⟩; refine ⟨_, rfl, ?_⟩; replace HO_472001 := rb HO_472001 hb; replace HO_473001 := rb HO_473001 hb; replace HO_479001 := rb HO_479001 hb; replace HO_485001 := rb HO_485001 hb; replace HO_498001 := rb HO_498001 hb; replace HO_499001 := rb HO_499001 hb; replace HO_505001 := rb HO_505001 hb; replace HO_511001 := rb HO_511001 hb; replace HO_517001 := rb HO_517001 hb; replace HO_523001 := rb HO_523001 hb; replace HO_529001 := rb HO_529001 hb; replace HO533 := rb HO533 hb; replace BK471 := bb BK471 hb; replace BK472 := bb BK472 hb; replace BK478 := bb BK478 hb; replace BK484 := bb BK484 hb; replace BK497 := bb BK497 hb; replace BK498 := bb BK498 hb; replace BK504 := bb BK504 hb; replace BK510 := bb BK510 hb; replace BK516 := bb BK516 hb; replace BK522 := bb BK522 hb; replace BK528 := bb BK528 hb; replace BK534 := bb BK534 hb; replace HB := hs HB hb; (try clear hb)))
        (try simp only [Act.put, List.setIfInBounds_toArray, List.set_cons_zero, List.set_cons_succ])
        go_cut [141] (fun v141 wc => ∃ (kq : Nat) (x141_175 : Bool), v141 = .bool x141_175 ∧ Aside0 (laws_FnRings.j3 kq l0 t477 t496 t503 t521 x141_175 t463 t464 t467 t468 t473 t474 t488 t489 t492 t493 t499 t500 t512 t513 t517 t518 = some r) ∧ Aside0 (kq ≤ kj106) ∧ Aside0 (Kd.R (Kd.int .i64) 2 wc w.heap.size (fun _ => True) (.slice Ao13 t464.length co13) t464) ∧ Aside0 (Kd.R (Kd.int .i64) 2 wc w.heap.size (fun _ => True) (.slice Ao15 t468.length co15) t468) ∧ Aside0 (Kd.R (Kd.int .i64) 2 wc w.heap.size (fun _ => True) (.slice Ao21 t474.length co21) t474) ∧ Aside0 (Kd.R (Kd.int .i64) 2 wc w.heap.size (fun _ => True) (.slice Ao30 t480.length co30) t480) ∧ Aside0 (Kd.R (Kd.int .i64) 2 wc w.heap.size (fun _ => True) (.slice Ao55 t489.length co55) t489) ∧ Aside0 (Kd.R (Kd.int .i64) 2 wc w.heap.size (fun _ => True) (.slice Ao61 t493.length co61) t493) ∧ Aside0 (Kd.R (Kd.int .i64) 2 wc w.heap.size (fun _ => True) (.slice Ao71 t500.length co71) t500) ∧ Aside0 (Kd.R (Kd.int .i64) 2 wc w.heap.size (fun _ => True) (.slice Ao84 t506.length co84) t506) ∧ Aside0 (Kd.R (Kd.int .i64) 2 wc w.heap.size (fun _ => True) (.slice Ao119 t513.length co119) t513) ∧ Aside0 (Kd.R (Kd.int .i64) 2 wc w.heap.size (fun _ => True) (.slice Ao132 t518.length co132) t518) ∧ Aside0 (Kd.R (Kd.int .i64) 2 wc w.heap.size (fun _ => True) (.slice Ao147 t524.length co147) t524) ∧ Aside0 (Kd.R (Kd.int .i64) 2 wc w.heap.size (fun _ => True) (.slice Ao191 t531.length co191) t531) ∧ Aside0 (wc.heap[gb471]? = some (.cells #[.int .i64 t463, (.slice Ao13 t464.length co13)] 24 (0, 0))) ∧ Aside0 (wc.heap[gb472]? = some (.cells #[.int .i64 t467, (.slice Ao15 t468.length co15)] 24 (0, 0))) ∧ Aside0 (wc.heap[gb478]? = some (.cells #[.int .i64 t473, (.slice Ao21 t474.length co21)] 24 (0, 0))) ∧ Aside0 (wc.heap[gb484]? = some (.cells #[.int .i64 t479, (.slice Ao30 t480.length co30)] 24 (0, 0))) ∧ Aside0 (wc.heap[gb497]? = some (.cells #[.int .i64 t488, (.slice Ao55 t489.length co55)] 24 (0, 0))) ∧ Aside0 (wc.heap[gb498]? = some (.cells #[.int .i64 t492, (.slice Ao61 t493.length co61)] 24 (0, 0))) ∧ Aside0 (wc.heap[gb504]? = some (.cells #[.int .i64 t499, (.slice Ao71 t500.length co71)] 24 (0, 0))) ∧ Aside0 (wc.heap[gb510]? = some (.cells #[.int .i64 t505, (.slice Ao84 t506.length co84)] 24 (0, 0))) ∧ Aside0 (wc.heap[gb516]? = some (.cells #[.int .i64 t512, (.slice Ao119 t513.length co119)] 24 (0, 0))) ∧ Aside0 (wc.heap[gb522]? = some (.cells #[.int .i64 t517, (.slice Ao132 t518.length co132)] 24 (0, 0))) ∧ Aside0 (wc.heap[gb528]? = some (.cells #[.int .i64 t523, (.slice Ao147 t524.length co147)] 24 (0, 0))) ∧ Aside0 (wc.heap[gb534]? = some (.cells #[.int .i64 t530, (.slice Ao191 t531.length co191)] 24 (0, 0))) ∧ Aside0 (Below w.heap.size w wc))
        case first =>
         have H := HC176.out
         clear HC176
         by_cases c195 : t536 = t538
         rotate_left
         ·rw [if_neg c195] at H; exact absurd H (by simp)
         rw [if_pos c195] at H
         have c195b0 : (t536 == t538) = true := beq_iff_eq.mpr c195
         have c195b1 : (t536 != t538) = false := bne_eq_false_iff_eq.mpr c195
         clear c195
         (first | rw [c195b0] | (simp only [i64_w, i32_w]; rw [c195b0]) | skip)
         have H' := Aside0.mk H
         clear H
         go_wp2
         go_meet
         case rel => exact ⟨_, ((t535 != t537)), (by first | rfl | (simp; done) | (simp [*]; done)), H', ⟨by have := HJ6.out; have := HJ44.out; have := HJ106.out; first | omega | exact Nat.le_refl _⟩, ⟨rk HO_472001.out⟩, ⟨rk HO_473001.out⟩, ⟨rk HO_479001.out⟩, ⟨rk HO_485001.out⟩, ⟨rk HO_498001.out⟩, ⟨rk HO_499001.out⟩, ⟨rk HO_505001.out⟩, ⟨rk HO_511001.out⟩, ⟨rk HO_517001.out⟩, ⟨rk HO_523001.out⟩, ⟨rk HO_529001.out⟩, ⟨rk HO533.out⟩, ⟨pk BK471.out⟩, ⟨pk BK472.out⟩, ⟨pk BK478.out⟩, ⟨pk BK484.out⟩, ⟨pk BK497.out⟩, ⟨pk BK498.out⟩, ⟨pk BK504.out⟩, ⟨pk BK510.out⟩, ⟨pk BK516.out⟩, ⟨pk BK522.out⟩, ⟨pk BK528.out⟩, ⟨pk BK534.out⟩, ⟨bks HB.out⟩⟩
        case rest => as_aux_lemma =>
         clear HC176
         try clear c1; try clear c2; try clear p2; try clear c3; try clear c4; try clear c5; try clear c6; try clear c7; try clear c8; try clear c9; try clear c10; try clear c11; try clear c12; try clear c13; try clear c14; try clear c15; try clear c16; try clear c17; try clear c18; try clear c19; try clear c20; try clear c22; try clear c23; try clear c24; try clear c25; try clear c26; try clear c27; try clear c28; try clear c31; try clear c31b0; try clear c31b1; try clear c33; try clear c39; try clear c40; try clear c41; try clear c42; try clear c43; try clear c44; try clear c45; try clear c46; try clear c49; try clear c50; try clear c51; try clear c52; try clear c53; try clear c56; try clear c57; try clear c58; try clear c59; try clear c64; try clear c65; try clear c66; try clear c67; try clear c68; try clear c69; try clear c76; try clear c77; try clear c78; try clear c79; try clear c80; try clear c81; try clear c82; try clear c85; try clear c85b0; try clear c85b1; try clear c87; try clear c88; try clear c89; try clear c90; try clear c91; try clear c92; try clear c93; try clear c95; try clear c96; try clear c97; try clear c98; try clear c99; try clear c100; try clear c103; try clear c110; try clear c111; try clear c112; try clear c113; try clear c114; try clear c115; try clear c116; try clear c117; try clear c122; try clear c123; try clear c124; try clear c125; try clear c126; try clear c127; try clear c128; try clear c129; try clear c130; try clear c136; try clear c137; try clear c138; try clear c139; try clear c140; try clear c141; try clear c142; try clear c143; try clear c144; try clear c145; try clear c148; try clear c148b0; try clear c148b1; try clear c150; try clear c151; try clear c152; try clear c153; try clear c154; try clear c155; try clear c156; try clear c157; try clear c158; try clear c159; try clear c161; try clear c162; try clear c163; try clear c164; try clear c165; try clear c166; try clear c167; try clear c168; try clear c169; try clear c172; try clear c179; try clear c180; try clear c181; try clear c182; try clear c183; try clear c184; try clear c185; try clear c186; try clear c187; try clear c188; try clear c189; try clear c195; try clear c195b0; try clear c195b1; try clear hcz101_0; try clear hcz101_1; try clear hcz118_0; try clear hcz118_1; try clear hcz12_0; try clear hcz12_1; try clear hcz131_0; try clear hcz131_1; try clear hcz133_0; try clear hcz133_1; try clear hcz146_0; try clear hcz146_1; try clear hcz14_0; try clear hcz14_1; try clear hcz160_0; try clear hcz160_1; try clear hcz170_0; try clear hcz170_1; try clear hcz190_0; try clear hcz190_1; try clear hcz193_0; try clear hcz193_1; try clear hcz20_0; try clear hcz20_1; try clear hcz22_0; try clear hcz22_1; try clear hcz23_0; try clear hcz23_1; try clear hcz29_0; try clear hcz29_1; try clear hcz54_0; try clear hcz54_1; try clear hcz60_0; try clear hcz60_1; try clear hcz70_0; try clear hcz70_1; try clear hcz72_0; try clear hcz72_1; try clear hcz73_0; try clear hcz73_1; try clear hcz83_0; try clear hcz83_1; try clear hcz94_0; try clear hcz94_1; try clear hfz101_0; try clear hfz101_1; try clear hfz118_0; try clear hfz118_1; try clear hfz12_0; try clear hfz12_1; try clear hfz131_0; try clear hfz131_1; try clear hfz133_0; try clear hfz133_1; try clear hfz146_0; try clear hfz146_1; try clear hfz14_0; try clear hfz14_1; try clear hfz160_0; try clear hfz160_1; try clear hfz170_0; try clear hfz170_1; try clear hfz190_0; try clear hfz190_1; try clear hfz193_0; try clear hfz193_1; try clear hfz20_0; try clear hfz20_1; try clear hfz22_0; try clear hfz22_1; try clear hfz23_0; try clear hfz23_1; try clear hfz29_0; try clear hfz29_1; try clear hfz54_0; try clear hfz54_1; try clear hfz60_0; try clear hfz60_1; try clear hfz70_0; try clear hfz70_1; try clear hfz72_0; try clear hfz72_1; try clear hfz73_0; try clear hfz73_1; try clear hfz83_0; try clear hfz83_1; try clear hfz94_0; try clear hfz94_1; try clear p2
         obtain ⟨kq, x141_175, rfl, HA, HJ175, HO_472001, HO_473001, HO_479001, HO_485001, HO_498001, HO_499001, HO_505001, HO_511001, HO_517001, HO_523001, HO_529001, HO_535001, BK471, BK472, BK478, BK484, BK497, BK498, BK504, BK510, BK516, BK522, BK528, BK534, HB⟩ := hcut
         cases kq with
         | zero => exact absurd HA.out (by simp [laws_FnRings.j3])
         | succ kj175 =>
          have H := HA.out
          clear HA
          simp only [laws_FnRings.j3] at H
          by_cases c196 : x141_175 = true
          ·subst c196
           have H1 : (none) = some r := by rw [if_pos rfl] at H; exact H
           clear H
           have H := H1
           clear H1
           exact absurd H (by simp)
          replace c196 := Bool.eq_false_iff.mpr c196
          subst c196
          have H1 : ((spec_DrawResiduesOf.f kj175 l0).bind fun t539 => ((impl_ResiduesOf.f kj175 t539).bind fun bt540 => ((spec_ResiduesOf.f kj175 t539).bind fun bt544 => (if bt540.2 = bt544.2 then ((laws_likeInts.f kj175 bt540.1 bt544.1).bind fun t548 => (laws_FnRings.j4 kj175 t477 t496 t503 t521 t539 bt540.1 bt540.2 (!t548) t463 t464 t467 t468 t473 t474 t488 t489 t492 t493 t499 t500 t512 t513 t517 t518)) else (none))))) = some r := by rw [if_neg (show ¬ (false = true) by decide)] at H; exact H
          clear H
          have H := H1
          clear H1
          replace H := Option.bind_eq_some_iff.mp H
          obtain ⟨t539, A1970, H⟩ := H
          try dsimp only at H
          have A197 := Aside0.mk A1970
          clear A1970
          replace H := Option.bind_eq_some_iff.mp H
          obtain ⟨⟨t540, t541⟩, A1980, H⟩ := H
          try dsimp only at H
          have A198 := Aside0.mk A1980
          clear A1980
          replace H := Option.bind_eq_some_iff.mp H
          obtain ⟨⟨t544, t545⟩, A1990, H⟩ := H
          try dsimp only at H
          have A199 := Aside0.mk A1990
          clear A1990
          have HC200 := Aside0.mk H
          clear H
          go_upto_region 26 with (first | ((with_reducible refine gate_callee (f := 47) rfl ?_); refine gl (some 143) Try.func47 #[.slice A0 l0.length c0] ?_; (with_reducible refine (spec_DrawResiduesOf.calls kj175 _ _ l0 t539 _ ?side1 ?side2 A197.out).mono ?_); (case side1 => repeat (first | exact (Kd.C_below HR0.out HB.out) | (with_reducible refine Kd.C_alloc ?_ _) | (with_reducible refine Kd.C_drewN ?_ _) | (with_reducible refine Kd.C_drew ?_))); (case side2 => exact HC0.out); rintro e w201 ⟨rfl, hb⟩; refine ⟨_, rfl, ?_⟩; replace HO_472001 := rb HO_472001 hb; replace HO_473001 := rb HO_473001 hb; replace HO_479001 := rb HO_479001 hb; replace HO_485001 := rb HO_485001 hb; replace HO_498001 := rb HO_498001 hb; replace HO_499001 := rb HO_499001 hb; replace HO_505001 := rb HO_505001 hb; replace HO_511001 := rb HO_511001 hb; replace HO_517001 := rb HO_517001 hb; replace HO_523001 := rb HO_523001 hb; replace HO_529001 := rb HO_529001 hb; replace HO_535001 := rb HO_535001 hb; replace BK471 := bb BK471 hb; replace BK472 := bb BK472 hb; replace BK478 := bb BK478 hb; replace BK484 := bb BK484 hb; replace BK497 := bb BK497 hb; replace BK498 := bb BK498 hb; replace BK504 := bb BK504 hb; replace BK510 := bb BK510 hb; replace BK516 := bb BK516 hb; replace BK522 := bb BK522 hb; replace BK528 := bb BK528 hb; replace BK534 := bb BK534 hb; replace HB := hs HB hb; (try clear hb)) | ((with_reducible refine gate_callee (f := 48) rfl ?_); refine gl (some 146) Try.func48 #[.int .i64 t539] ?_; (with_reducible refine (impl_ResiduesOf.calls kj175 t539 t540 t541 _ A198.out).mono ?_); rintro e w202 ⟨v542, rfl, ho0, hb⟩; refine ⟨_, rfl, ?_⟩; have HO543 := Aside0.mk (Kd.R_mono (ok' := fun _ => True) (Kd.R_lower ho0 (below_size (bks HB.out))) (fun _ _ => trivial)); replace HO_472001 := rb HO_472001 hb; replace HO_473001 := rb HO_473001 hb; replace HO_479001 := rb HO_479001 hb; replace HO_485001 := rb HO_485001 hb; replace HO_498001 := rb HO_498001 hb; replace HO_499001 := rb HO_499001 hb; replace HO_505001 := rb HO_505001 hb; replace HO_511001 := rb HO_511001 hb; replace HO_517001 := rb HO_517001 hb; replace HO_523001 := rb HO_523001 hb; replace HO_529001 := rb HO_529001 hb; replace HO_535001 := rb HO_535001 hb; replace BK471 := bb BK471 hb; replace BK472 := bb BK472 hb; replace BK478 := bb BK478 hb; replace BK484 := bb BK484 hb; replace BK497 := bb BK497 hb; replace BK498 := bb BK498 hb; replace BK504 := bb BK504 hb; replace BK510 := bb BK510 hb; replace BK516 := bb BK516 hb; replace BK522 := bb BK522 hb; replace BK528 := bb BK528 hb; replace BK534 := bb BK534 hb; replace HB := hs HB hb; (try clear hb ho0)) | ((with_reducible refine gate_callee (f := 49) rfl ?_); refine gl (some 151) Try.func49 #[.int .i64 t539] ?_; (with_reducible refine (spec_ResiduesOf.calls kj175 t539 t544 t545 _ A199.out).mono ?_); rintro e w203 ⟨v546, rfl, ho0, hb⟩; refine ⟨_, rfl, ?_⟩; have HO547 := Aside0.mk (Kd.R_mono (ok' := fun _ => True) (Kd.R_lower ho0 (below_size (bks HB.out))) (fun _ _ => trivial)); replace HO_472001 := rb HO_472001 hb; replace HO_473001 := rb HO_473001 hb; replace HO_479001 := rb HO_479001 hb; replace HO_485001 := rb HO_485001 hb; replace HO_498001 := rb HO_498001 hb; replace HO_499001 := rb HO_499001 hb; replace HO_505001 := rb HO_505001 hb; replace HO_511001 := rb HO_511001 hb; replace HO_517001 := rb HO_517001 hb; replace HO_523001 := rb HO_523001 hb; replace HO_529001 := rb HO_529001 hb; replace HO_535001 := rb HO_535001 hb; replace HO543 := rb HO543 hb; replace BK471 := bb BK471 hb; replace BK472 := bb BK472 hb; replace BK478 := bb BK478 hb; replace BK484 := bb BK484 hb; replace BK497 := bb BK497 hb; replace BK498 := bb BK498 hb; replace BK504 := bb BK504 hb; replace BK510 := bb BK510 hb; replace BK516 := bb BK516 hb; replace BK522 := bb BK522 hb; replace BK528 := bb BK528 hb; replace BK534 := bb BK534 hb; replace HB := hs HB hb; (try clear hb ho0)))
          (try simp only [Act.put, List.setIfInBounds_toArray, List.set_cons_zero, List.set_cons_succ])
          go_cut [162] (fun v162 wc => ∃ (kq : Nat) (x162_199 : Bool), v162 = .bool x162_199 ∧ Aside0 (laws_FnRings.j4 kq t477 t496 t503 t521 t539 t540 t541 x162_199 t463 t464 t467 t468 t473 t474 t488 t489 t492 t493 t499 t500 t512 t513 t517 t518 = some r) ∧ Aside0 (kq ≤ kj175) ∧ Aside0 (Kd.R (Kd.int .i64) 2 wc w.heap.size (fun _ => True) v542 t540) ∧ Aside0 (Kd.R (Kd.int .i64) 2 wc w.heap.size (fun _ => True) (.slice Ao13 t464.length co13) t464) ∧ Aside0 (Kd.R (Kd.int .i64) 2 wc w.heap.size (fun _ => True) (.slice Ao15 t468.length co15) t468) ∧ Aside0 (Kd.R (Kd.int .i64) 2 wc w.heap.size (fun _ => True) (.slice Ao21 t474.length co21) t474) ∧ Aside0 (Kd.R (Kd.int .i64) 2 wc w.heap.size (fun _ => True) (.slice Ao30 t480.length co30) t480) ∧ Aside0 (Kd.R (Kd.int .i64) 2 wc w.heap.size (fun _ => True) (.slice Ao55 t489.length co55) t489) ∧ Aside0 (Kd.R (Kd.int .i64) 2 wc w.heap.size (fun _ => True) (.slice Ao61 t493.length co61) t493) ∧ Aside0 (Kd.R (Kd.int .i64) 2 wc w.heap.size (fun _ => True) (.slice Ao71 t500.length co71) t500) ∧ Aside0 (Kd.R (Kd.int .i64) 2 wc w.heap.size (fun _ => True) (.slice Ao84 t506.length co84) t506) ∧ Aside0 (Kd.R (Kd.int .i64) 2 wc w.heap.size (fun _ => True) (.slice Ao119 t513.length co119) t513) ∧ Aside0 (Kd.R (Kd.int .i64) 2 wc w.heap.size (fun _ => True) (.slice Ao132 t518.length co132) t518) ∧ Aside0 (Kd.R (Kd.int .i64) 2 wc w.heap.size (fun _ => True) (.slice Ao147 t524.length co147) t524) ∧ Aside0 (Kd.R (Kd.int .i64) 2 wc w.heap.size (fun _ => True) (.slice Ao191 t531.length co191) t531) ∧ Aside0 (wc.heap[gb471]? = some (.cells #[.int .i64 t463, (.slice Ao13 t464.length co13)] 24 (0, 0))) ∧ Aside0 (wc.heap[gb472]? = some (.cells #[.int .i64 t467, (.slice Ao15 t468.length co15)] 24 (0, 0))) ∧ Aside0 (wc.heap[gb478]? = some (.cells #[.int .i64 t473, (.slice Ao21 t474.length co21)] 24 (0, 0))) ∧ Aside0 (wc.heap[gb484]? = some (.cells #[.int .i64 t479, (.slice Ao30 t480.length co30)] 24 (0, 0))) ∧ Aside0 (wc.heap[gb497]? = some (.cells #[.int .i64 t488, (.slice Ao55 t489.length co55)] 24 (0, 0))) ∧ Aside0 (wc.heap[gb498]? = some (.cells #[.int .i64 t492, (.slice Ao61 t493.length co61)] 24 (0, 0))) ∧ Aside0 (wc.heap[gb504]? = some (.cells #[.int .i64 t499, (.slice Ao71 t500.length co71)] 24 (0, 0))) ∧ Aside0 (wc.heap[gb510]? = some (.cells #[.int .i64 t505, (.slice Ao84 t506.length co84)] 24 (0, 0))) ∧ Aside0 (wc.heap[gb516]? = some (.cells #[.int .i64 t512, (.slice Ao119 t513.length co119)] 24 (0, 0))) ∧ Aside0 (wc.heap[gb522]? = some (.cells #[.int .i64 t517, (.slice Ao132 t518.length co132)] 24 (0, 0))) ∧ Aside0 (wc.heap[gb528]? = some (.cells #[.int .i64 t523, (.slice Ao147 t524.length co147)] 24 (0, 0))) ∧ Aside0 (wc.heap[gb534]? = some (.cells #[.int .i64 t530, (.slice Ao191 t531.length co191)] 24 (0, 0))) ∧ Aside0 (Below w.heap.size w wc))
          case first =>
           have H := HC200.out
           clear HC200
           by_cases c204 : t541 = t545
           rotate_left
           ·rw [if_neg c204] at H; exact absurd H (by simp)
           rw [if_pos c204] at H
           have c204b0 : (t541 == t545) = true := beq_iff_eq.mpr c204
           have c204b1 : (t541 != t545) = false := bne_eq_false_iff_eq.mpr c204
           clear c204
           (first | rw [c204b0] | (simp only [i64_w, i32_w]; rw [c204b0]) | skip)
           replace H := Option.bind_eq_some_iff.mp H
           obtain ⟨t548, A2050, H⟩ := H
           try dsimp only at H
           have A205 := Aside0.mk A2050
           clear A2050
           have H' := Aside0.mk H
           clear H
           obtain ⟨Ao206, co206, eo206⟩ := Kd.R_slice HO543.out
           subst eo206
           obtain ⟨Ao207, co207, eo207⟩ := Kd.R_slice HO547.out
           subst eo207
           go_wp2_with (first | (go_at_call 50; (with_reducible refine (laws_likeInts.calls kj175 _ _ t540 _ _ t544 t548 _ ?side1 ?side2 ?side3 ?side4 A205.out).mono ?_); (case side1 => repeat (first | exact (Kd.R_reads' HO543.out).2.2 | (with_reducible refine Kd.C_alloc ?_ _) | (with_reducible refine Kd.C_drewN ?_ _) | (with_reducible refine Kd.C_drew ?_))); (case side2 => exact (Kd.R_reads' HO543.out).2.1); (case side3 => repeat (first | exact (Kd.R_reads' HO547.out).2.2 | (with_reducible refine Kd.C_alloc ?_ _) | (with_reducible refine Kd.C_drewN ?_ _) | (with_reducible refine Kd.C_drew ?_))); (case side4 => exact (Kd.R_reads' HO547.out).2.1); rintro e w' ⟨rfl, ⟨nd, rfl⟩⟩))
           go_meet
           case rel => exact ⟨_, (!t548), (by first | rfl | (simp; done) | (simp [*]; done)), H', ⟨by have := HJ6.out; have := HJ44.out; have := HJ106.out; have := HJ175.out; first | omega | exact Nat.le_refl _⟩, ⟨rk HO543.out⟩, ⟨rk HO_472001.out⟩, ⟨rk HO_473001.out⟩, ⟨rk HO_479001.out⟩, ⟨rk HO_485001.out⟩, ⟨rk HO_498001.out⟩, ⟨rk HO_499001.out⟩, ⟨rk HO_505001.out⟩, ⟨rk HO_511001.out⟩, ⟨rk HO_517001.out⟩, ⟨rk HO_523001.out⟩, ⟨rk HO_529001.out⟩, ⟨rk HO_535001.out⟩, ⟨pk BK471.out⟩, ⟨pk BK472.out⟩, ⟨pk BK478.out⟩, ⟨pk BK484.out⟩, ⟨pk BK497.out⟩, ⟨pk BK498.out⟩, ⟨pk BK504.out⟩, ⟨pk BK510.out⟩, ⟨pk BK516.out⟩, ⟨pk BK522.out⟩, ⟨pk BK528.out⟩, ⟨pk BK534.out⟩, ⟨bks HB.out⟩⟩
          case rest => as_aux_lemma =>
           clear HC200
           try clear c1; try clear c2; try clear p2; try clear c3; try clear c4; try clear c5; try clear c6; try clear c7; try clear c8; try clear c9; try clear c10; try clear c11; try clear c12; try clear c13; try clear c14; try clear c15; try clear c16; try clear c17; try clear c18; try clear c19; try clear c20; try clear c22; try clear c23; try clear c24; try clear c25; try clear c26; try clear c27; try clear c28; try clear c31; try clear c31b0; try clear c31b1; try clear c33; try clear c39; try clear c40; try clear c41; try clear c42; try clear c43; try clear c44; try clear c45; try clear c46; try clear c47; try clear c48; try clear c49; try clear c50; try clear c51; try clear c52; try clear c53; try clear c56; try clear c57; try clear c58; try clear c59; try clear c64; try clear c65; try clear c66; try clear c67; try clear c68; try clear c69; try clear c76; try clear c77; try clear c78; try clear c79; try clear c80; try clear c81; try clear c82; try clear c85; try clear c85b0; try clear c85b1; try clear c87; try clear c88; try clear c89; try clear c90; try clear c91; try clear c92; try clear c93; try clear c95; try clear c96; try clear c97; try clear c98; try clear c99; try clear c100; try clear c103; try clear c110; try clear c111; try clear c112; try clear c113; try clear c114; try clear c115; try clear c116; try clear c117; try clear c122; try clear c123; try clear c124; try clear c125; try clear c126; try clear c127; try clear c128; try clear c129; try clear c130; try clear c136; try clear c137; try clear c138; try clear c139; try clear c140; try clear c141; try clear c142; try clear c143; try clear c144; try clear c145; try clear c148; try clear c148b0; try clear c148b1; try clear c150; try clear c151; try clear c152; try clear c153; try clear c154; try clear c155; try clear c156; try clear c157; try clear c158; try clear c159; try clear c161; try clear c162; try clear c163; try clear c164; try clear c165; try clear c166; try clear c167; try clear c168; try clear c169; try clear c172; try clear c179; try clear c180; try clear c181; try clear c182; try clear c183; try clear c184; try clear c185; try clear c186; try clear c187; try clear c188; try clear c189; try clear c195; try clear c195b0; try clear c195b1; try clear c196; try clear c204; try clear c204b0; try clear c204b1; try clear hcz101_0; try clear hcz101_1; try clear hcz118_0; try clear hcz118_1; try clear hcz12_0; try clear hcz12_1; try clear hcz131_0; try clear hcz131_1; try clear hcz133_0; try clear hcz133_1; try clear hcz146_0; try clear hcz146_1; try clear hcz14_0; try clear hcz14_1; try clear hcz160_0; try clear hcz160_1; try clear hcz170_0; try clear hcz170_1; try clear hcz190_0; try clear hcz190_1; try clear hcz193_0; try clear hcz193_1; try clear hcz20_0; try clear hcz20_1; try clear hcz22_0; try clear hcz22_1; try clear hcz23_0; try clear hcz23_1; try clear hcz29_0; try clear hcz29_1; try clear hcz54_0; try clear hcz54_1; try clear hcz60_0; try clear hcz60_1; try clear hcz70_0; try clear hcz70_1; try clear hcz72_0; try clear hcz72_1; try clear hcz73_0; try clear hcz73_1; try clear hcz83_0; try clear hcz83_1; try clear hcz94_0; try clear hcz94_1; try clear hfz101_0; try clear hfz101_1; try clear hfz118_0; try clear hfz118_1; try clear hfz12_0; try clear hfz12_1; try clear hfz131_0; try clear hfz131_1; try clear hfz133_0; try clear hfz133_1; try clear hfz146_0; try clear hfz146_1; try clear hfz14_0; try clear hfz14_1; try clear hfz160_0; try clear hfz160_1; try clear hfz170_0; try clear hfz170_1; try clear hfz190_0; try clear hfz190_1; try clear hfz193_0; try clear hfz193_1; try clear hfz20_0; try clear hfz20_1; try clear hfz22_0; try clear hfz22_1; try clear hfz23_0; try clear hfz23_1; try clear hfz29_0; try clear hfz29_1; try clear hfz54_0; try clear hfz54_1; try clear hfz60_0; try clear hfz60_1; try clear hfz70_0; try clear hfz70_1; try clear hfz72_0; try clear hfz72_1; try clear hfz73_0; try clear hfz73_1; try clear hfz83_0; try clear hfz83_1; try clear hfz94_0; try clear hfz94_1; try clear p2
           obtain ⟨kq, x162_199, rfl, HA, HJ199, HO_27, HO_472001, HO_473001, HO_479001, HO_485001, HO_498001, HO_499001, HO_505001, HO_511001, HO_517001, HO_523001, HO_529001, HO_535001, BK471, BK472, BK478, BK484, BK497, BK498, BK504, BK510, BK516, BK522, BK528, BK534, HB⟩ := hcut
           cases kq with
           | zero => exact absurd HA.out (by simp [laws_FnRings.j4])
           | succ kj199 =>
            have H := HA.out
            clear HA
            simp only [laws_FnRings.j4] at H
            by_cases c208 : x162_199 = true
            ·subst c208
             have H1 : (none) = some r := by rw [if_pos rfl] at H; exact H
             clear H
             have H := H1
             clear H1
             exact absurd H (by simp)
            replace c208 := Bool.eq_false_iff.mpr c208
            subst c208
            have H1 : (if t541 = 0 then ((impl_TotientOf.f kj199 t539).bind fun bt549 => (if bt549.2 = 0 then (if bt549.1 = (t540.length : Int) then (laws_FnRings.j5 kj199 t477 t496 t503 t521 t463 t464 t467 t468 t473 t474 t488 t489 t492 t493 t499 t500 t512 t513 t517 t518) else (none)) else (none))) else (laws_FnRings.j5 kj199 t477 t496 t503 t521 t463 t464 t467 t468 t473 t474 t488 t489 t492 t493 t499 t500 t512 t513 t517 t518)) = some r := by rw [if_neg (show ¬ (false = true) by decide)] at H; exact H
            clear H
            have H := H1
            clear H1
            have HC209 := Aside0.mk H
            clear H
            go_upto_if 164 with (fail)
            go_cut [] (fun wc => ∃ (kq : Nat), Aside0 (laws_FnRings.j5 kq t477 t496 t503 t521 t463 t464 t467 t468 t473 t474 t488 t489 t492 t493 t499 t500 t512 t513 t517 t518 = some r) ∧ Aside0 (kq ≤ kj199) ∧ Aside0 (Kd.R (Kd.int .i64) 2 wc w.heap.size (fun _ => True) (.slice Ao13 t464.length co13) t464) ∧ Aside0 (Kd.R (Kd.int .i64) 2 wc w.heap.size (fun _ => True) (.slice Ao15 t468.length co15) t468) ∧ Aside0 (Kd.R (Kd.int .i64) 2 wc w.heap.size (fun _ => True) (.slice Ao21 t474.length co21) t474) ∧ Aside0 (Kd.R (Kd.int .i64) 2 wc w.heap.size (fun _ => True) (.slice Ao30 t480.length co30) t480) ∧ Aside0 (Kd.R (Kd.int .i64) 2 wc w.heap.size (fun _ => True) (.slice Ao55 t489.length co55) t489) ∧ Aside0 (Kd.R (Kd.int .i64) 2 wc w.heap.size (fun _ => True) (.slice Ao61 t493.length co61) t493) ∧ Aside0 (Kd.R (Kd.int .i64) 2 wc w.heap.size (fun _ => True) (.slice Ao71 t500.length co71) t500) ∧ Aside0 (Kd.R (Kd.int .i64) 2 wc w.heap.size (fun _ => True) (.slice Ao84 t506.length co84) t506) ∧ Aside0 (Kd.R (Kd.int .i64) 2 wc w.heap.size (fun _ => True) (.slice Ao119 t513.length co119) t513) ∧ Aside0 (Kd.R (Kd.int .i64) 2 wc w.heap.size (fun _ => True) (.slice Ao132 t518.length co132) t518) ∧ Aside0 (Kd.R (Kd.int .i64) 2 wc w.heap.size (fun _ => True) (.slice Ao147 t524.length co147) t524) ∧ Aside0 (Kd.R (Kd.int .i64) 2 wc w.heap.size (fun _ => True) (.slice Ao191 t531.length co191) t531) ∧ Aside0 (wc.heap[gb471]? = some (.cells #[.int .i64 t463, (.slice Ao13 t464.length co13)] 24 (0, 0))) ∧ Aside0 (wc.heap[gb472]? = some (.cells #[.int .i64 t467, (.slice Ao15 t468.length co15)] 24 (0, 0))) ∧ Aside0 (wc.heap[gb478]? = some (.cells #[.int .i64 t473, (.slice Ao21 t474.length co21)] 24 (0, 0))) ∧ Aside0 (wc.heap[gb484]? = some (.cells #[.int .i64 t479, (.slice Ao30 t480.length co30)] 24 (0, 0))) ∧ Aside0 (wc.heap[gb497]? = some (.cells #[.int .i64 t488, (.slice Ao55 t489.length co55)] 24 (0, 0))) ∧ Aside0 (wc.heap[gb498]? = some (.cells #[.int .i64 t492, (.slice Ao61 t493.length co61)] 24 (0, 0))) ∧ Aside0 (wc.heap[gb504]? = some (.cells #[.int .i64 t499, (.slice Ao71 t500.length co71)] 24 (0, 0))) ∧ Aside0 (wc.heap[gb510]? = some (.cells #[.int .i64 t505, (.slice Ao84 t506.length co84)] 24 (0, 0))) ∧ Aside0 (wc.heap[gb516]? = some (.cells #[.int .i64 t512, (.slice Ao119 t513.length co119)] 24 (0, 0))) ∧ Aside0 (wc.heap[gb522]? = some (.cells #[.int .i64 t517, (.slice Ao132 t518.length co132)] 24 (0, 0))) ∧ Aside0 (wc.heap[gb528]? = some (.cells #[.int .i64 t523, (.slice Ao147 t524.length co147)] 24 (0, 0))) ∧ Aside0 (wc.heap[gb534]? = some (.cells #[.int .i64 t530, (.slice Ao191 t531.length co191)] 24 (0, 0))) ∧ Aside0 (Below w.heap.size w wc))
            case first =>
             have H := HC209.out
             clear HC209
             by_cases c210 : t541 = 0
             ·rw [if_pos c210] at H
              have c210b0 : (t541 == 0) = true := beq_iff_eq.mpr c210
              have c210b1 : (t541 != 0) = false := bne_eq_false_iff_eq.mpr c210
              clear c210
              (first | rw [c210b0] | (simp only [i64_w, i32_w]; rw [c210b0]) | skip)
              replace H := Option.bind_eq_some_iff.mp H
              obtain ⟨⟨t549, t550⟩, A2110, H⟩ := H
              try dsimp only at H
              have A211 := Aside0.mk A2110
              clear A2110
              by_cases c212 : t550 = 0
              rotate_left
              ·rw [if_neg c212] at H; exact absurd H (by simp)
              rw [if_pos c212] at H
              have c212b0 : (t550 == 0) = true := beq_iff_eq.mpr c212
              have c212b1 : (t550 != 0) = false := bne_eq_false_iff_eq.mpr c212
              clear c212
              by_cases c213 : t549 = (t540.length : Int)
              rotate_left
              ·rw [if_neg c213] at H; exact absurd H (by simp)
              rw [if_pos c213] at H
              have c213b0 : (t549 == (t540.length : Int)) = true := beq_iff_eq.mpr c213
              have c213b1 : (t549 != (t540.length : Int)) = false := bne_eq_false_iff_eq.mpr c213
              clear c213
              have H' := Aside0.mk H
              clear H
              go_wp2_with (first | ((with_reducible refine gate_callee (f := 51) rfl ?_); refine gl (some 167) Try.func51 #[.int .i64 t539] ?_; (with_reducible refine (impl_TotientOf.calls kj199 t539 t549 t550 _ A211.out).mono ?_); rintro e w214 ⟨rfl, hb⟩; refine ⟨_, rfl, ?_⟩; replace HO_27 := rb HO_27 hb; replace HO_472001 := rb HO_472001 hb; replace HO_473001 := rb HO_473001 hb; replace HO_479001 := rb HO_479001 hb; replace HO_485001 := rb HO_485001 hb; replace HO_498001 := rb HO_498001 hb; replace HO_499001 := rb HO_499001 hb; replace HO_505001 := rb HO_505001 hb; replace HO_511001 := rb HO_511001 hb; replace HO_517001 := rb HO_517001 hb; replace HO_523001 := rb HO_523001 hb; replace HO_529001 := rb HO_529001 hb; replace HO_535001 := rb HO_535001 hb; replace BK471 := bb BK471 hb; replace BK472 := bb BK472 hb; replace BK478 := bb BK478 hb; replace BK484 := bb BK484 hb; replace BK497 := bb BK497 hb; replace BK498 := bb BK498 hb; replace BK504 := bb BK504 hb; replace BK510 := bb BK510 hb; replace BK516 := bb BK516 hb; replace BK522 := bb BK522 hb; replace BK528 := bb BK528 hb; replace BK534 := bb BK534 hb; replace HB := hs HB hb; (try clear hb); obtain ⟨Ao215, co215, eo215⟩ := Kd.R_slice HO_27.out; subst eo215))
              go_meet
              case rel => exact ⟨_, H', ⟨by have := HJ6.out; have := HJ44.out; have := HJ106.out; have := HJ175.out; have := HJ199.out; first | omega | exact Nat.le_refl _⟩, ⟨rk HO_472001.out⟩, ⟨rk HO_473001.out⟩, ⟨rk HO_479001.out⟩, ⟨rk HO_485001.out⟩, ⟨rk HO_498001.out⟩, ⟨rk HO_499001.out⟩, ⟨rk HO_505001.out⟩, ⟨rk HO_511001.out⟩, ⟨rk HO_517001.out⟩, ⟨rk HO_523001.out⟩, ⟨rk HO_529001.out⟩, ⟨rk HO_535001.out⟩, ⟨pk BK471.out⟩, ⟨pk BK472.out⟩, ⟨pk BK478.out⟩, ⟨pk BK484.out⟩, ⟨pk BK497.out⟩, ⟨pk BK498.out⟩, ⟨pk BK504.out⟩, ⟨pk BK510.out⟩, ⟨pk BK516.out⟩, ⟨pk BK522.out⟩, ⟨pk BK528.out⟩, ⟨pk BK534.out⟩, ⟨bks HB.out⟩⟩
             ·rw [if_neg c210] at H
              have c210b0 : (t541 == 0) = false := beq_eq_false_iff_ne.mpr c210
              have c210b1 : (t541 != 0) = true := bne_iff_ne.mpr c210
              (first | rw [c210b0] | (simp only [i64_w, i32_w]; rw [c210b0]) | skip)
              have H' := Aside0.mk H
              clear H
              go_wp2
              go_meet
              case rel => exact ⟨_, H', ⟨by have := HJ6.out; have := HJ44.out; have := HJ106.out; have := HJ175.out; have := HJ199.out; first | omega | exact Nat.le_refl _⟩, ⟨rk HO_472001.out⟩, ⟨rk HO_473001.out⟩, ⟨rk HO_479001.out⟩, ⟨rk HO_485001.out⟩, ⟨rk HO_498001.out⟩, ⟨rk HO_499001.out⟩, ⟨rk HO_505001.out⟩, ⟨rk HO_511001.out⟩, ⟨rk HO_517001.out⟩, ⟨rk HO_523001.out⟩, ⟨rk HO_529001.out⟩, ⟨rk HO_535001.out⟩, ⟨pk BK471.out⟩, ⟨pk BK472.out⟩, ⟨pk BK478.out⟩, ⟨pk BK484.out⟩, ⟨pk BK497.out⟩, ⟨pk BK498.out⟩, ⟨pk BK504.out⟩, ⟨pk BK510.out⟩, ⟨pk BK516.out⟩, ⟨pk BK522.out⟩, ⟨pk BK528.out⟩, ⟨pk BK534.out⟩, ⟨bks HB.out⟩⟩
            case rest => as_aux_lemma =>
             clear HC209
             try clear c1; try clear c2; try clear p2; try clear c3; try clear c4; try clear c5; try clear c6; try clear c7; try clear c8; try clear c9; try clear c10; try clear c11; try clear c12; try clear c13; try clear c14; try clear c15; try clear c16; try clear c17; try clear c18; try clear c19; try clear c20; try clear c21; try clear c22; try clear c23; try clear c24; try clear c25; try clear c26; try clear c27; try clear c28; try clear c31; try clear c31b0; try clear c31b1; try clear c33; try clear c39; try clear c40; try clear c41; try clear c42; try clear c43; try clear c44; try clear c45; try clear c46; try clear c47; try clear c48; try clear c49; try clear c50; try clear c51; try clear c52; try clear c53; try clear c56; try clear c57; try clear c58; try clear c59; try clear c64; try clear c65; try clear c66; try clear c67; try clear c68; try clear c69; try clear c76; try clear c77; try clear c78; try clear c79; try clear c80; try clear c81; try clear c82; try clear c85; try clear c85b0; try clear c85b1; try clear c87; try clear c88; try clear c89; try clear c90; try clear c91; try clear c92; try clear c93; try clear c95; try clear c96; try clear c97; try clear c98; try clear c99; try clear c100; try clear c103; try clear c110; try clear c111; try clear c112; try clear c113; try clear c114; try clear c115; try clear c116; try clear c117; try clear c122; try clear c123; try clear c124; try clear c125; try clear c126; try clear c127; try clear c128; try clear c129; try clear c130; try clear c136; try clear c137; try clear c138; try clear c139; try clear c140; try clear c141; try clear c142; try clear c143; try clear c144; try clear c145; try clear c148; try clear c148b0; try clear c148b1; try clear c150; try clear c151; try clear c152; try clear c153; try clear c154; try clear c155; try clear c156; try clear c157; try clear c158; try clear c159; try clear c161; try clear c162; try clear c163; try clear c164; try clear c165; try clear c166; try clear c167; try clear c168; try clear c169; try clear c172; try clear c179; try clear c180; try clear c181; try clear c182; try clear c183; try clear c184; try clear c185; try clear c186; try clear c187; try clear c188; try clear c189; try clear c195; try clear c195b0; try clear c195b1; try clear c196; try clear c204; try clear c204b0; try clear c204b1; try clear c208; try clear c210; try clear c210b0; try clear c210b1; try clear c212; try clear c212b0; try clear c212b1; try clear c213; try clear c213b0; try clear c213b1; try clear hcz101_0; try clear hcz101_1; try clear hcz118_0; try clear hcz118_1; try clear hcz12_0; try clear hcz12_1; try clear hcz131_0; try clear hcz131_1; try clear hcz133_0; try clear hcz133_1; try clear hcz146_0; try clear hcz146_1; try clear hcz14_0; try clear hcz14_1; try clear hcz160_0; try clear hcz160_1; try clear hcz170_0; try clear hcz170_1; try clear hcz190_0; try clear hcz190_1; try clear hcz193_0; try clear hcz193_1; try clear hcz20_0; try clear hcz20_1; try clear hcz22_0; try clear hcz22_1; try clear hcz23_0; try clear hcz23_1; try clear hcz29_0; try clear hcz29_1; try clear hcz54_0; try clear hcz54_1; try clear hcz60_0; try clear hcz60_1; try clear hcz70_0; try clear hcz70_1; try clear hcz72_0; try clear hcz72_1; try clear hcz73_0; try clear hcz73_1; try clear hcz83_0; try clear hcz83_1; try clear hcz94_0; try clear hcz94_1; try clear hfz101_0; try clear hfz101_1; try clear hfz118_0; try clear hfz118_1; try clear hfz12_0; try clear hfz12_1; try clear hfz131_0; try clear hfz131_1; try clear hfz133_0; try clear hfz133_1; try clear hfz146_0; try clear hfz146_1; try clear hfz14_0; try clear hfz14_1; try clear hfz160_0; try clear hfz160_1; try clear hfz170_0; try clear hfz170_1; try clear hfz190_0; try clear hfz190_1; try clear hfz193_0; try clear hfz193_1; try clear hfz20_0; try clear hfz20_1; try clear hfz22_0; try clear hfz22_1; try clear hfz23_0; try clear hfz23_1; try clear hfz29_0; try clear hfz29_1; try clear hfz54_0; try clear hfz54_1; try clear hfz60_0; try clear hfz60_1; try clear hfz70_0; try clear hfz70_1; try clear hfz72_0; try clear hfz72_1; try clear hfz73_0; try clear hfz73_1; try clear hfz83_0; try clear hfz83_1; try clear hfz94_0; try clear hfz94_1; try clear p2
             obtain ⟨kq, HA, HJ208, HO_472001, HO_473001, HO_479001, HO_485001, HO_498001, HO_499001, HO_505001, HO_511001, HO_517001, HO_523001, HO_529001, HO_535001, BK471, BK472, BK478, BK484, BK497, BK498, BK504, BK510, BK516, BK522, BK528, BK534, HB⟩ := hcut
             cases kq with
             | zero => exact absurd HA.out (by simp [laws_FnRings.j5])
             | succ kj208 =>
              have H := HA.out
              clear HA
              simp only [laws_FnRings.j5] at H
              have HC216 := Aside0.mk H
              clear H
              go_upto_if 179 with (fail)
              go_cut [] (fun wc => ∃ (kq : Nat), Aside0 (laws_FnRings.j6 kq t477 t496 t503 t463 t464 t467 t468 t473 t474 t488 t489 t492 t493 t499 t500 = some r) ∧ Aside0 (kq ≤ kj208) ∧ Aside0 (Kd.R (Kd.int .i64) 2 wc w.heap.size (fun _ => True) (.slice Ao13 t464.length co13) t464) ∧ Aside0 (Kd.R (Kd.int .i64) 2 wc w.heap.size (fun _ => True) (.slice Ao15 t468.length co15) t468) ∧ Aside0 (Kd.R (Kd.int .i64) 2 wc w.heap.size (fun _ => True) (.slice Ao21 t474.length co21) t474) ∧ Aside0 (Kd.R (Kd.int .i64) 2 wc w.heap.size (fun _ => True) (.slice Ao30 t480.length co30) t480) ∧ Aside0 (Kd.R (Kd.int .i64) 2 wc w.heap.size (fun _ => True) (.slice Ao55 t489.length co55) t489) ∧ Aside0 (Kd.R (Kd.int .i64) 2 wc w.heap.size (fun _ => True) (.slice Ao61 t493.length co61) t493) ∧ Aside0 (Kd.R (Kd.int .i64) 2 wc w.heap.size (fun _ => True) (.slice Ao71 t500.length co71) t500) ∧ Aside0 (Kd.R (Kd.int .i64) 2 wc w.heap.size (fun _ => True) (.slice Ao84 t506.length co84) t506) ∧ Aside0 (Kd.R (Kd.int .i64) 2 wc w.heap.size (fun _ => True) (.slice Ao119 t513.length co119) t513) ∧ Aside0 (Kd.R (Kd.int .i64) 2 wc w.heap.size (fun _ => True) (.slice Ao132 t518.length co132) t518) ∧ Aside0 (Kd.R (Kd.int .i64) 2 wc w.heap.size (fun _ => True) (.slice Ao147 t524.length co147) t524) ∧ Aside0 (Kd.R (Kd.int .i64) 2 wc w.heap.size (fun _ => True) (.slice Ao191 t531.length co191) t531) ∧ Aside0 (wc.heap[gb471]? = some (.cells #[.int .i64 t463, (.slice Ao13 t464.length co13)] 24 (0, 0))) ∧ Aside0 (wc.heap[gb472]? = some (.cells #[.int .i64 t467, (.slice Ao15 t468.length co15)] 24 (0, 0))) ∧ Aside0 (wc.heap[gb478]? = some (.cells #[.int .i64 t473, (.slice Ao21 t474.length co21)] 24 (0, 0))) ∧ Aside0 (wc.heap[gb484]? = some (.cells #[.int .i64 t479, (.slice Ao30 t480.length co30)] 24 (0, 0))) ∧ Aside0 (wc.heap[gb497]? = some (.cells #[.int .i64 t488, (.slice Ao55 t489.length co55)] 24 (0, 0))) ∧ Aside0 (wc.heap[gb498]? = some (.cells #[.int .i64 t492, (.slice Ao61 t493.length co61)] 24 (0, 0))) ∧ Aside0 (wc.heap[gb504]? = some (.cells #[.int .i64 t499, (.slice Ao71 t500.length co71)] 24 (0, 0))) ∧ Aside0 (wc.heap[gb510]? = some (.cells #[.int .i64 t505, (.slice Ao84 t506.length co84)] 24 (0, 0))) ∧ Aside0 (wc.heap[gb516]? = some (.cells #[.int .i64 t512, (.slice Ao119 t513.length co119)] 24 (0, 0))) ∧ Aside0 (wc.heap[gb522]? = some (.cells #[.int .i64 t517, (.slice Ao132 t518.length co132)] 24 (0, 0))) ∧ Aside0 (wc.heap[gb528]? = some (.cells #[.int .i64 t523, (.slice Ao147 t524.length co147)] 24 (0, 0))) ∧ Aside0 (wc.heap[gb534]? = some (.cells #[.int .i64 t530, (.slice Ao191 t531.length co191)] 24 (0, 0))) ∧ Aside0 (Below w.heap.size w wc))
              case first =>
               have H := HC216.out
               clear HC216
               by_cases c217 : t521 = 0
               ·rw [if_pos c217] at H
                have c217b0 : (t521 == 0) = true := beq_iff_eq.mpr c217
                have c217b1 : (t521 != 0) = false := bne_eq_false_iff_eq.mpr c217
                clear c217
                (first | rw [c217b0] | (simp only [i64_w, i32_w]; rw [c217b0]) | skip)
                replace H := Option.bind_eq_some_iff.mp H
                obtain ⟨⟨t551, t552, t555⟩, A2180, H⟩ := H
                try dsimp only at H
                have A218 := Aside0.mk A2180
                clear A2180
                by_cases c219 : t555 = 0
                rotate_left
                ·rw [if_neg c219] at H; exact absurd H (by simp)
                rw [if_pos c219] at H
                have c219b0 : (t555 == 0) = true := beq_iff_eq.mpr c219
                have c219b1 : (t555 != 0) = false := bne_eq_false_iff_eq.mpr c219
                clear c219
                replace H := Option.bind_eq_some_iff.mp H
                obtain ⟨t557, A2200, H⟩ := H
                try dsimp only at H
                have A220 := Aside0.mk A2200
                clear A2200
                by_cases c221 : t557 = true
                rotate_left
                ·replace c221 := Bool.eq_false_iff.mpr c221
                 subst c221
                 have H1 : (none) = some r := by rw [if_neg (show ¬ (false = true) by decide)] at H; exact H
                 clear H
                 have H := H1
                 clear H1
                 exact absurd H (by simp)
                subst c221
                have H1 : ((laws_sum.f kj208 t518).bind fun t558 => ((laws_sum.f kj208 t513).bind fun t559 => (if t558 = t559 then (laws_FnRings.j6 kj208 t477 t496 t503 t463 t464 t467 t468 t473 t474 t488 t489 t492 t493 t499 t500) else (none)))) = some r := by rw [if_pos rfl] at H; exact H
                clear H
                have H := H1
                clear H1
                replace H := Option.bind_eq_some_iff.mp H
                obtain ⟨t558, A2220, H⟩ := H
                try dsimp only at H
                have A222 := Aside0.mk A2220
                clear A2220
                replace H := Option.bind_eq_some_iff.mp H
                obtain ⟨t559, A2230, H⟩ := H
                try dsimp only at H
                have A223 := Aside0.mk A2230
                clear A2230
                by_cases c224 : t558 = t559
                rotate_left
                ·rw [if_neg c224] at H; exact absurd H (by simp)
                rw [if_pos c224] at H
                have c224b0 : (t558 == t559) = true := beq_iff_eq.mpr c224
                have c224b1 : (t558 != t559) = false := bne_eq_false_iff_eq.mpr c224
                clear c224
                have H' := Aside0.mk H
                clear H
                have hnb225 := NB522_471.out
                have hnc225 := NB471_522.out
                have hnb226 := NB522_472.out
                have hnc226 := NB472_522.out
                have hnb227 := NB522_478.out
                have hnc227 := NB478_522.out
                have hnb228 := NB522_484.out
                have hnc228 := NB484_522.out
                have hnb229 := NB522_497.out
                have hnc229 := NB497_522.out
                have hnb230 := NB522_498.out
                have hnc230 := NB498_522.out
                have hnb231 := NB522_504.out
                have hnc231 := NB504_522.out
                have hnb232 := NB522_510.out
                have hnc232 := NB510_522.out
                have hnb233 := NB522_516.out
                have hnc233 := NB516_522.out
                have hnb234 := NB522_528.out
                have hnc234 := NB528_522.out
                have hnb235 := NB522_534.out
                have hnc235 := NB534_522.out
                have hcz236_0 : wc.cell? ⟨gb522, 0, none⟩ = some (.int .i64 t517) := (blk_cell BK522.out 0).trans rfl
                have hcz236_1 : wc.cell? ⟨gb522, 1, none⟩ = some (.slice Ao132 t518.length co132) := (blk_cell BK522.out 1).trans rfl
                have hfz236_0 := blk_frozen BK522.out 0
                have hfz236_1 := blk_frozen BK522.out 1
                try go_wp2_with (first | ((with_reducible refine gate_callee (f := 24) rfl ?_); refine gl (some 182) Try.func24 #[.agg #[.int .i64 t517, .slice Ao132 t518.length co132]] ?_; (with_reducible refine (impl_TurnRing.calls kj208 t517 _ _ t518 t551 t552 t555 _ ?side1 ?side2 A218.out).mono ?_); (case side1 => repeat (first | exact (Kd.R_reads' HO_523001.out).2.2 | (with_reducible refine Kd.C_alloc ?_ _) | (with_reducible refine Kd.C_drewN ?_ _) | (with_reducible refine Kd.C_drew ?_))); (case side2 => exact (Kd.R_reads' HO_523001.out).2.1); rintro e w237 ⟨v553, rfl, ho0, hb⟩; refine ⟨_, rfl, ?_⟩; have HO554 := Aside0.mk (Kd.R_mono (ok' := fun _ => True) (Kd.R_lower ho0 (below_size (bks HB.out))) (fun _ _ => trivial)); replace HO_472001 := rb HO_472001 hb; replace HO_473001 := rb HO_473001 hb; replace HO_479001 := rb HO_479001 hb; replace HO_485001 := rb HO_485001 hb; replace HO_498001 := rb HO_498001 hb; replace HO_499001 := rb HO_499001 hb; replace HO_505001 := rb HO_505001 hb; replace HO_511001 := rb HO_511001 hb; replace HO_517001 := rb HO_517001 hb; replace HO_523001 := rb HO_523001 hb; replace HO_529001 := rb HO_529001 hb; replace HO_535001 := rb HO_535001 hb; replace BK471 := bb BK471 hb; replace BK472 := bb BK472 hb; replace BK478 := bb BK478 hb; replace BK484 := bb BK484 hb; replace BK497 := bb BK497 hb; replace BK498 := bb BK498 hb; replace BK504 := bb BK504 hb; replace BK510 := bb BK510 hb; replace BK516 := bb BK516 hb; replace BK522 := bb BK522 hb; replace BK528 := bb BK528 hb; replace BK534 := bb BK534 hb; replace HB := hs HB hb; (try clear hb ho0)) | ((with_reducible refine gate_dst (N := 33) rfl ?_); (try (refine gate_guard (by rfl) ?_; dsimp only)); refine bx 33 #[.int .i64 0, .slice none 0 0] 24 (fun gb556 hg w238 hbox hb => ?_); have BK556 := Aside0.mk hbox; have GW556 := ge HB hg; have GE556 := GW556; obtain ⟨NB471_556, NB556_471⟩ := nb BK471 hg; obtain ⟨NB472_556, NB556_472⟩ := nb BK472 hg; obtain ⟨NB478_556, NB556_478⟩ := nb BK478 hg; obtain ⟨NB484_556, NB556_484⟩ := nb BK484 hg; obtain ⟨NB497_556, NB556_497⟩ := nb BK497 hg; obtain ⟨NB498_556, NB556_498⟩ := nb BK498 hg; obtain ⟨NB504_556, NB556_504⟩ := nb BK504 hg; obtain ⟨NB510_556, NB556_510⟩ := nb BK510 hg; obtain ⟨NB516_556, NB556_516⟩ := nb BK516 hg; obtain ⟨NB522_556, NB556_522⟩ := nb BK522 hg; obtain ⟨NB528_556, NB556_528⟩ := nb BK528 hg; obtain ⟨NB534_556, NB556_534⟩ := nb BK534 hg; replace HO_472001 := rb HO_472001 hb; replace HO_473001 := rb HO_473001 hb; replace HO_479001 := rb HO_479001 hb; replace HO_485001 := rb HO_485001 hb; replace HO_498001 := rb HO_498001 hb; replace HO_499001 := rb HO_499001 hb; replace HO_505001 := rb HO_505001 hb; replace HO_511001 := rb HO_511001 hb; replace HO_517001 := rb HO_517001 hb; replace HO_523001 := rb HO_523001 hb; replace HO_529001 := rb HO_529001 hb; replace HO_535001 := rb HO_535001 hb; replace HO554 := rb HO554 hb; replace BK471 := bb BK471 hb; replace BK472 := bb BK472 hb; replace BK478 := bb BK478 hb; replace BK484 := bb BK484 hb; replace BK497 := bb BK497 hb; replace BK498 := bb BK498 hb; replace BK504 := bb BK504 hb; replace BK510 := bb BK510 hb; replace BK516 := bb BK516 hb; replace BK522 := bb BK522 hb; replace BK528 := bb BK528 hb; replace BK534 := bb BK534 hb; replace HB := hs HB hb; clear hb hbox hg; have hnb239 := NB556_471.out; have hnc239 := NB471_556.out; have hnb240 := NB556_472.out; have hnc240 := NB472_556.out; have hnb241 := NB556_478.out; have hnc241 := NB478_556.out; have hnb242 := NB556_484.out; have hnc242 := NB484_556.out; have hnb243 := NB556_497.out; have hnc243 := NB497_556.out; have hnb244 := NB556_498.out; have hnc244 := NB498_556.out; have hnb245 := NB556_504.out; have hnc245 := NB504_556.out; have hnb246 := NB556_510.out; have hnc246 := NB510_556.out; have hnb247 := NB556_516.out; have hnc247 := NB516_556.out; have hnb248 := NB556_522.out; have hnc248 := NB522_556.out; have hnb249 := NB556_528.out; have hnc249 := NB528_556.out; have hnb250 := NB556_534.out; have hnc250 := NB534_556.out; have hcz251_0 : w238.cell? ⟨gb556, 0, none⟩ = some (.int .i64 0) := (blk_cell BK556.out 0).trans rfl; have hcz251_1 : w238.cell? ⟨gb556, 1, none⟩ = some (.slice none 0 0) := (blk_cell BK556.out 1).trans rfl; have hfz251_0 := blk_frozen BK556.out 0; have hfz251_1 := blk_frozen BK556.out 1; obtain ⟨Ao252, co252, eo252⟩ := Kd.R_slice HO554.out; subst eo252))
                obtain ⟨w253, hq⟩ : ∃ w_, w_ = ((w238.setCell ⟨gb556, 0, none⟩ (.int .i64 t551)).setCell ⟨gb556, 1, none⟩ (.slice Ao252 t552.length co252)) := ⟨_, rfl⟩
                rw [← hq]
                have n25_ : Aside0 (w253.heap[gb556]? = some (.cells #[.int .i64 t551, .slice Ao252 t552.length co252] 24 (0, 0))) := ⟨by rw [hq]; exact (by (with_reducible repeat (first | refine blk_drewN ?_ _ | refine blk_drew ?_ | refine blk_alloc ?_ _)); refine blk_put (cs := #[.int .i64 t551, .slice none 0 0]) ?_ 1 _ rfl; (with_reducible repeat (first | refine blk_drewN ?_ _ | refine blk_drew ?_ | refine blk_alloc ?_ _)); refine blk_put (cs := #[.int .i64 0, .slice none 0 0]) ?_ 0 _ rfl; (with_reducible repeat (first | refine blk_drewN ?_ _ | refine blk_drew ?_ | refine blk_alloc ?_ _)); exact BK556.out)⟩
                replace HO_472001 := rq HO_472001 hq
                replace HO_473001 := rq HO_473001 hq
                replace HO_479001 := rq HO_479001 hq
                replace HO_485001 := rq HO_485001 hq
                replace HO_498001 := rq HO_498001 hq
                replace HO_499001 := rq HO_499001 hq
                replace HO_505001 := rq HO_505001 hq
                replace HO_511001 := rq HO_511001 hq
                replace HO_517001 := rq HO_517001 hq
                replace HO_523001 := rq HO_523001 hq
                replace HO_529001 := rq HO_529001 hq
                replace HO_535001 := rq HO_535001 hq
                replace HO554 := rq HO554 hq
                replace BK471 := bq BK471 hq
                replace BK472 := bq BK472 hq
                replace BK478 := bq BK478 hq
                replace BK484 := bq BK484 hq
                replace BK497 := bq BK497 hq
                replace BK498 := bq BK498 hq
                replace BK504 := bq BK504 hq
                replace BK510 := bq BK510 hq
                replace BK516 := bq BK516 hq
                replace BK522 := bq BK522 hq
                replace BK528 := bq BK528 hq
                replace BK534 := bq BK534 hq
                clear BK556
                have BK556 := n25_
                clear n25_
                replace HB := hq0 HB hq
                clear hq
                replace HO_472001 := rd0 HO_472001
                replace HO_473001 := rd0 HO_473001
                replace HO_479001 := rd0 HO_479001
                replace HO_485001 := rd0 HO_485001
                replace HO_498001 := rd0 HO_498001
                replace HO_499001 := rd0 HO_499001
                replace HO_505001 := rd0 HO_505001
                replace HO_511001 := rd0 HO_511001
                replace HO_517001 := rd0 HO_517001
                replace HO_523001 := rd0 HO_523001
                replace HO_529001 := rd0 HO_529001
                replace HO_535001 := rd0 HO_535001
                replace HO554 := rd0 HO554
                replace BK471 := bd BK471
                replace BK472 := bd BK472
                replace BK478 := bd BK478
                replace BK484 := bd BK484
                replace BK497 := bd BK497
                replace BK498 := bd BK498
                replace BK504 := bd BK504
                replace BK510 := bd BK510
                replace BK516 := bd BK516
                replace BK522 := bd BK522
                replace BK528 := bd BK528
                replace BK534 := bd BK534
                replace BK556 := bd BK556
                replace HB := hd0 HB
                refine start_ (n := 17) (S := fun w' => w'.cell? ⟨gb556, 0, none⟩ = some (.int .i64 t551) ∧ w'.cell? ⟨gb556, 1, none⟩ = some (.slice Ao252 t552.length co252) ∧ w'.cell? ⟨gb516, 0, none⟩ = some (.int .i64 t512) ∧ w'.cell? ⟨gb516, 1, none⟩ = some (.slice Ao119 t513.length co119) ∧ w'.cell? ⟨gb522, 0, none⟩ = some (.int .i64 t517) ∧ w'.cell? ⟨gb522, 1, none⟩ = some (.slice Ao132 t518.length co132)) (ds := []) #[false, false, false, false, false, false, false, false, false, false, false, false, false, false, false, false, false] (by kernel_rfl) rfl rfl ⟨(blk_cell BK556.out 0).trans rfl, (blk_cell BK556.out 1).trans rfl, (blk_cell BK516.out 0).trans rfl, (blk_cell BK516.out 1).trans rfl, (blk_cell BK522.out 0).trans rfl, (blk_cell BK522.out 1).trans rfl⟩ (fun hHeld => ?_); refine with_tabW laws_FnRings.tab34 laws_FnRings.bits34 (fun HT_ HW_ => ?_)
                generalize w253.drew = w254 at HO_472001 HO_473001 HO_479001 HO_485001 HO_498001 HO_499001 HO_505001 HO_511001 HO_517001 HO_523001 HO_529001 HO_535001 HO554 BK471 BK472 BK478 BK484 BK497 BK498 BK504 BK510 BK516 BK522 BK528 BK534 BK556 HB hHeld ⊢
                refine pu 0 (some 185) HT_ ?_
                refine pu 1 (some 186) HT_ ?_
                refine pu 2 (some 187) HT_ ?_
                refine tk 3 (some 188) HT_ HW_ hHeld ?_ (hy := by rintro w' ⟨s0, s1, s2, s3, s4, s5⟩; go_simp; with_reducible rfl)
                refine tk 4 (some 189) HT_ HW_ hHeld ?_ (hy := by rintro w' ⟨s0, s1, s2, s3, s4, s5⟩; go_simp; with_reducible rfl)
                refine on 5 (some 190) HT_ (fun K hK => ?_)
                refine gs Try.func41 #[.agg #[.int .i64 t551, .slice Ao252 t552.length co252], .agg #[.int .i64 t512, .slice Ao119 t513.length co119]] ?_
                with_reducible refine (laws_ring9.calls kj208 t551 _ _ t552 t512 _ _ t513 true _ ?side1 ?side2 ?side3 ?side4 A220.out).mono ?_
                (case side1 => repeat (first | exact (Kd.R_reads' HO554.out).2.2 | (with_reducible refine Kd.C_alloc ?_ _) | (with_reducible refine Kd.C_drewN ?_ _) | (with_reducible refine Kd.C_drew ?_)))
                (case side2 => exact (Kd.R_reads' HO554.out).2.1)
                (case side3 => repeat (first | exact (Kd.R_reads' HO_517001.out).2.2 | (with_reducible refine Kd.C_alloc ?_ _) | (with_reducible refine Kd.C_drewN ?_ _) | (with_reducible refine Kd.C_drew ?_)))
                (case side4 => exact (Kd.R_reads' HO_517001.out).2.1)
                rintro e w255 ⟨rfl, hb⟩
                refine ⟨_, rfl, ?_⟩
                replace HO_472001 := rb HO_472001 hb
                replace HO_473001 := rb HO_473001 hb
                replace HO_479001 := rb HO_479001 hb
                replace HO_485001 := rb HO_485001 hb
                replace HO_498001 := rb HO_498001 hb
                replace HO_499001 := rb HO_499001 hb
                replace HO_505001 := rb HO_505001 hb
                replace HO_511001 := rb HO_511001 hb
                replace HO_517001 := rb HO_517001 hb
                replace HO_523001 := rb HO_523001 hb
                replace HO_529001 := rb HO_529001 hb
                replace HO_535001 := rb HO_535001 hb
                replace HO554 := rb HO554 hb
                replace BK471 := bb BK471 hb
                replace BK472 := bb BK472 hb
                replace BK478 := bb BK478 hb
                replace BK484 := bb BK484 hb
                replace BK497 := bb BK497 hb
                replace BK498 := bb BK498 hb
                replace BK504 := bb BK504 hb
                replace BK510 := bb BK510 hb
                replace BK516 := bb BK516 hb
                replace BK522 := bb BK522 hb
                replace BK528 := bb BK528 hb
                replace BK534 := bb BK534 hb
                replace BK556 := bb BK556 hb
                replace HB := hs HB hb
                (try clear hb)
                refine hK.out _ _ ⟨(blk_cell BK556.out 0).trans rfl, (blk_cell BK556.out 1).trans rfl, (blk_cell BK516.out 0).trans rfl, (blk_cell BK516.out 1).trans rfl, (blk_cell BK522.out 0).trans rfl, (blk_cell BK522.out 1).trans rfl⟩ (fun hHeld => ?_)
                clear hK K
                refine nm ?_
                refine pu 6 (some 191) HT_ ?_
                refine pu 7 (some 192) HT_ ?_
                refine pu 8 (some 193) HT_ ?_
                refine pu 9 (some 194) HT_ ?_
                refine pu 12 (some 197) HT_ ?_
                refine tk 10 (some 195) HT_ HW_ hHeld ?_ (hy := by rintro w' ⟨s0, s1, s2, s3, s4, s5⟩; go_simp; with_reducible rfl)
                refine tk 13 (some 198) HT_ HW_ hHeld ?_ (hy := by rintro w' ⟨s0, s1, s2, s3, s4, s5⟩; go_simp; with_reducible rfl)
                refine on 11 (some 196) HT_ (fun K hK => ?_)
                refine gs Try.func52 #[.slice Ao132 t518.length co132] ?_
                with_reducible refine (laws_sum.calls kj208 _ _ t518 t558 _ ?side1 ?side2 A222.out).mono ?_
                (case side1 => repeat (first | exact (Kd.R_reads' HO_523001.out).2.2 | (with_reducible refine Kd.C_alloc ?_ _) | (with_reducible refine Kd.C_drewN ?_ _) | (with_reducible refine Kd.C_drew ?_)))
                (case side2 => exact (Kd.R_reads' HO_523001.out).2.1)
                rintro e w' ⟨rfl, ⟨nd, rfl⟩⟩
                refine ⟨_, rfl, ?_⟩
                refine hK.out _ _ ⟨(blk_cell BK556.out 0).trans rfl, (blk_cell BK556.out 1).trans rfl, (blk_cell BK516.out 0).trans rfl, (blk_cell BK516.out 1).trans rfl, (blk_cell BK522.out 0).trans rfl, (blk_cell BK522.out 1).trans rfl⟩ (fun hHeld => ?_)
                clear hK K
                refine nm ?_
                refine on 14 (some 199) HT_ (fun K hK => ?_)
                refine gs Try.func52 #[.slice Ao119 t513.length co119] ?_
                with_reducible refine (laws_sum.calls kj208 _ _ t513 t559 _ ?side1 ?side2 A223.out).mono ?_
                (case side1 => repeat (first | exact (Kd.R_reads' HO_517001.out).2.2 | (with_reducible refine Kd.C_alloc ?_ _) | (with_reducible refine Kd.C_drewN ?_ _) | (with_reducible refine Kd.C_drew ?_)))
                (case side2 => exact (Kd.R_reads' HO_517001.out).2.1)
                rintro e w' ⟨rfl, ⟨nd, rfl⟩⟩
                refine ⟨_, rfl, ?_⟩
                refine hK.out _ _ ⟨(blk_cell BK556.out 0).trans rfl, (blk_cell BK556.out 1).trans rfl, (blk_cell BK516.out 0).trans rfl, (blk_cell BK516.out 1).trans rfl, (blk_cell BK522.out 0).trans rfl, (blk_cell BK522.out 1).trans rfl⟩ (fun hHeld => ?_)
                clear hK K
                refine nm ?_
                refine pu 15 (some 200) HT_ ?_
                refine pu 16 (some 201) HT_ ?_
                refine done_ (done_of HT_.out (by kernel_rfl)) ?_
                try go_wp2
                go_meet
                case rel => exact ⟨_, H', ⟨by have := HJ6.out; have := HJ44.out; have := HJ106.out; have := HJ175.out; have := HJ199.out; have := HJ208.out; first | omega | exact Nat.le_refl _⟩, ⟨rk HO_472001.out⟩, ⟨rk HO_473001.out⟩, ⟨rk HO_479001.out⟩, ⟨rk HO_485001.out⟩, ⟨rk HO_498001.out⟩, ⟨rk HO_499001.out⟩, ⟨rk HO_505001.out⟩, ⟨rk HO_511001.out⟩, ⟨rk HO_517001.out⟩, ⟨rk HO_523001.out⟩, ⟨rk HO_529001.out⟩, ⟨rk HO_535001.out⟩, ⟨pk BK471.out⟩, ⟨pk BK472.out⟩, ⟨pk BK478.out⟩, ⟨pk BK484.out⟩, ⟨pk BK497.out⟩, ⟨pk BK498.out⟩, ⟨pk BK504.out⟩, ⟨pk BK510.out⟩, ⟨pk BK516.out⟩, ⟨pk BK522.out⟩, ⟨pk BK528.out⟩, ⟨pk BK534.out⟩, ⟨bks HB.out⟩⟩
               ·rw [if_neg c217] at H
                have c217b0 : (t521 == 0) = false := beq_eq_false_iff_ne.mpr c217
                have c217b1 : (t521 != 0) = true := bne_iff_ne.mpr c217
                (first | rw [c217b0] | (simp only [i64_w, i32_w]; rw [c217b0]) | skip)
                have H' := Aside0.mk H
                clear H
                go_wp2
                go_meet
                case rel => exact ⟨_, H', ⟨by have := HJ6.out; have := HJ44.out; have := HJ106.out; have := HJ175.out; have := HJ199.out; have := HJ208.out; first | omega | exact Nat.le_refl _⟩, ⟨rk HO_472001.out⟩, ⟨rk HO_473001.out⟩, ⟨rk HO_479001.out⟩, ⟨rk HO_485001.out⟩, ⟨rk HO_498001.out⟩, ⟨rk HO_499001.out⟩, ⟨rk HO_505001.out⟩, ⟨rk HO_511001.out⟩, ⟨rk HO_517001.out⟩, ⟨rk HO_523001.out⟩, ⟨rk HO_529001.out⟩, ⟨rk HO_535001.out⟩, ⟨pk BK471.out⟩, ⟨pk BK472.out⟩, ⟨pk BK478.out⟩, ⟨pk BK484.out⟩, ⟨pk BK497.out⟩, ⟨pk BK498.out⟩, ⟨pk BK504.out⟩, ⟨pk BK510.out⟩, ⟨pk BK516.out⟩, ⟨pk BK522.out⟩, ⟨pk BK528.out⟩, ⟨pk BK534.out⟩, ⟨bks HB.out⟩⟩
              case rest => as_aux_lemma =>
               clear HC216
               try clear c2; try clear p2; try clear c4; try clear c5; try clear c21; try clear c22; try clear c23; try clear c24; try clear c25; try clear c41; try clear c52; try clear c217; try clear c217b0; try clear c217b1; try clear c219; try clear c219b0; try clear c219b1; try clear c221; try clear c224; try clear c224b0; try clear c224b1; try clear c225; try clear c226; try clear c227; try clear c228; try clear c229; try clear c230; try clear c231; try clear c232; try clear c233; try clear c234; try clear c235; try clear c239; try clear c240; try clear c241; try clear c242; try clear c243; try clear c244; try clear c245; try clear c246; try clear c247; try clear c248; try clear c249; try clear c250; try clear hcz133_1; try clear hcz146_0; try clear hcz146_1; try clear hcz14_0; try clear hcz14_1; try clear hcz160_0; try clear hcz160_1; try clear hcz170_0; try clear hcz170_1; try clear hcz190_0; try clear hcz190_1; try clear hcz193_0; try clear hcz193_1; try clear hcz20_0; try clear hcz20_1; try clear hcz22_0; try clear hcz22_1; try clear hcz236_0; try clear hcz236_1; try clear hcz23_0; try clear hcz23_1; try clear hcz251_0; try clear hcz251_1; try clear hcz29_0; try clear hcz29_1; try clear hcz54_0; try clear hcz54_1; try clear hcz60_0; try clear hcz60_1; try clear hcz70_0; try clear hcz70_1; try clear hcz72_0; try clear hcz72_1; try clear hcz73_0; try clear hcz73_1; try clear hcz83_0; try clear hcz83_1; try clear hcz94_0; try clear hcz94_1; try clear hfz101_0; try clear hfz101_1; try clear hfz118_0; try clear hfz118_1; try clear hfz12_0; try clear hfz12_1; try clear hfz131_0; try clear hfz131_1; try clear hfz133_0; try clear hfz133_1; try clear hfz146_0; try clear hfz146_1; try clear hfz14_0; try clear hfz14_1; try clear hfz160_0; try clear hfz160_1; try clear hfz170_0; try clear hfz170_1; try clear hfz190_0; try clear hfz190_1; try clear hfz193_0; try clear hfz193_1; try clear hfz20_0; try clear hfz20_1; try clear hfz22_0; try clear hfz22_1; try clear hfz236_0; try clear hfz236_1; try clear hfz23_0; try clear hfz23_1; try clear hfz251_0; try clear hfz251_1; try clear hfz29_0; try clear hfz29_1; try clear hfz54_0; try clear hfz54_1; try clear hfz60_0; try clear hfz60_1; try clear hfz70_0; try clear hfz70_1; try clear hfz72_0; try clear hfz72_1; try clear hfz73_0; try clear hfz73_1; try clear hfz83_0; try clear hfz83_1; try clear hfz94_0; try clear hfz94_1; try clear p2
               obtain ⟨kq, HA, HJ215, HO_472001, HO_473001, HO_479001, HO_485001, HO_498001, HO_499001, HO_505001, HO_511001, HO_517001, HO_523001, HO_529001, HO_535001, BK471, BK472, BK478, BK484, BK497, BK498, BK504, BK510, BK516, BK522, BK528, BK534, HB⟩ := hcut
               cases kq with
               | zero => exact absurd HA.out (by simp [laws_FnRings.j6])
               | succ kj215 =>
                have H := HA.out
                clear HA
                simp only [laws_FnRings.j6] at H
                have HC256 := Aside0.mk H
                clear H
                go_upto_region 36 with (fail)
                go_cut [218] (fun v218 wc => ∃ (kq : Nat) (x218_255 : Bool), v218 = .bool x218_255 ∧ Aside0 (laws_FnRings.j7 kq t477 x218_255 t463 t464 t467 t468 t473 t474 = some r) ∧ Aside0 (kq ≤ kj215) ∧ Aside0 (Kd.R (Kd.int .i64) 2 wc w.heap.size (fun _ => True) (.slice Ao13 t464.length co13) t464) ∧ Aside0 (Kd.R (Kd.int .i64) 2 wc w.heap.size (fun _ => True) (.slice Ao15 t468.length co15) t468) ∧ Aside0 (Kd.R (Kd.int .i64) 2 wc w.heap.size (fun _ => True) (.slice Ao21 t474.length co21) t474) ∧ Aside0 (Kd.R (Kd.int .i64) 2 wc w.heap.size (fun _ => True) (.slice Ao30 t480.length co30) t480) ∧ Aside0 (Kd.R (Kd.int .i64) 2 wc w.heap.size (fun _ => True) (.slice Ao55 t489.length co55) t489) ∧ Aside0 (Kd.R (Kd.int .i64) 2 wc w.heap.size (fun _ => True) (.slice Ao61 t493.length co61) t493) ∧ Aside0 (Kd.R (Kd.int .i64) 2 wc w.heap.size (fun _ => True) (.slice Ao71 t500.length co71) t500) ∧ Aside0 (Kd.R (Kd.int .i64) 2 wc w.heap.size (fun _ => True) (.slice Ao84 t506.length co84) t506) ∧ Aside0 (Kd.R (Kd.int .i64) 2 wc w.heap.size (fun _ => True) (.slice Ao119 t513.length co119) t513) ∧ Aside0 (Kd.R (Kd.int .i64) 2 wc w.heap.size (fun _ => True) (.slice Ao132 t518.length co132) t518) ∧ Aside0 (Kd.R (Kd.int .i64) 2 wc w.heap.size (fun _ => True) (.slice Ao147 t524.length co147) t524) ∧ Aside0 (Kd.R (Kd.int .i64) 2 wc w.heap.size (fun _ => True) (.slice Ao191 t531.length co191) t531) ∧ Aside0 (wc.heap[gb471]? = some (.cells #[.int .i64 t463, (.slice Ao13 t464.length co13)] 24 (0, 0))) ∧ Aside0 (wc.heap[gb472]? = some (.cells #[.int .i64 t467, (.slice Ao15 t468.length co15)] 24 (0, 0))) ∧ Aside0 (wc.heap[gb478]? = some (.cells #[.int .i64 t473, (.slice Ao21 t474.length co21)] 24 (0, 0))) ∧ Aside0 (wc.heap[gb484]? = some (.cells #[.int .i64 t479, (.slice Ao30 t480.length co30)] 24 (0, 0))) ∧ Aside0 (wc.heap[gb497]? = some (.cells #[.int .i64 t488, (.slice Ao55 t489.length co55)] 24 (0, 0))) ∧ Aside0 (wc.heap[gb498]? = some (.cells #[.int .i64 t492, (.slice Ao61 t493.length co61)] 24 (0, 0))) ∧ Aside0 (wc.heap[gb504]? = some (.cells #[.int .i64 t499, (.slice Ao71 t500.length co71)] 24 (0, 0))) ∧ Aside0 (wc.heap[gb510]? = some (.cells #[.int .i64 t505, (.slice Ao84 t506.length co84)] 24 (0, 0))) ∧ Aside0 (wc.heap[gb516]? = some (.cells #[.int .i64 t512, (.slice Ao119 t513.length co119)] 24 (0, 0))) ∧ Aside0 (wc.heap[gb522]? = some (.cells #[.int .i64 t517, (.slice Ao132 t518.length co132)] 24 (0, 0))) ∧ Aside0 (wc.heap[gb528]? = some (.cells #[.int .i64 t523, (.slice Ao147 t524.length co147)] 24 (0, 0))) ∧ Aside0 (wc.heap[gb534]? = some (.cells #[.int .i64 t530, (.slice Ao191 t531.length co191)] 24 (0, 0))) ∧ Aside0 (Below w.heap.size w wc))
                case first =>
                 have H := HC256.out
                 clear HC256
                 by_cases c257 : t503 = 0
                 ·rw [if_pos c257] at H
                  have c257b0 : (t503 == 0) = true := beq_iff_eq.mpr c257
                  have c257b1 : (t503 != 0) = false := bne_eq_false_iff_eq.mpr c257
                  clear c257
                  (first | rw [c257b0] | (simp only [i64_w, i32_w]; rw [c257b0]) | skip)
                  replace H := Option.bind_eq_some_iff.mp H
                  obtain ⟨t560, A2580, H⟩ := H
                  try dsimp only at H
                  have A258 := Aside0.mk A2580
                  clear A2580
                  replace H := Option.bind_eq_some_iff.mp H
                  obtain ⟨t561, A2590, H⟩ := H
                  try dsimp only at H
                  have A259 := Aside0.mk A2590
                  clear A2590
                  replace H := Option.bind_eq_some_iff.mp H
                  obtain ⟨t562, A2600, H⟩ := H
                  try dsimp only at H
                  have A260 := Aside0.mk A2600
                  clear A2600
                  have H' := Aside0.mk H
                  clear H
                  try go_wp2
                  replace HO_472001 := rd0 HO_472001
                  replace HO_473001 := rd0 HO_473001
                  replace HO_479001 := rd0 HO_479001
                  replace HO_485001 := rd0 HO_485001
                  replace HO_498001 := rd0 HO_498001
                  replace HO_499001 := rd0 HO_499001
                  replace HO_505001 := rd0 HO_505001
                  replace HO_511001 := rd0 HO_511001
                  replace HO_517001 := rd0 HO_517001
                  replace HO_523001 := rd0 HO_523001
                  replace HO_529001 := rd0 HO_529001
                  replace HO_535001 := rd0 HO_535001
                  replace BK471 := bd BK471
                  replace BK472 := bd BK472
                  replace BK478 := bd BK478
                  replace BK484 := bd BK484
                  replace BK497 := bd BK497
                  replace BK498 := bd BK498
                  replace BK504 := bd BK504
                  replace BK510 := bd BK510
                  replace BK516 := bd BK516
                  replace BK522 := bd BK522
                  replace BK528 := bd BK528
                  replace BK534 := bd BK534
                  replace HB := hd0 HB
                  refine start_ (n := 17) (S := fun w' => w'.cell? ⟨gb504, 0, none⟩ = some (.int .i64 t499) ∧ w'.cell? ⟨gb504, 1, none⟩ = some (.slice Ao71 t500.length co71) ∧ w'.cell? ⟨gb497, 0, none⟩ = some (.int .i64 t488) ∧ w'.cell? ⟨gb497, 1, none⟩ = some (.slice Ao55 t489.length co55) ∧ w'.cell? ⟨gb498, 0, none⟩ = some (.int .i64 t492) ∧ w'.cell? ⟨gb498, 1, none⟩ = some (.slice Ao61 t493.length co61)) (ds := []) #[false, false, false, false, false, false, false, false, false, false, false, false, false, false, false, false, false] (by kernel_rfl) rfl rfl ⟨(blk_cell BK504.out 0).trans rfl, (blk_cell BK504.out 1).trans rfl, (blk_cell BK497.out 0).trans rfl, (blk_cell BK497.out 1).trans rfl, (blk_cell BK498.out 0).trans rfl, (blk_cell BK498.out 1).trans rfl⟩ (fun hHeld => ?_); refine with_tabW laws_FnRings.tab36 laws_FnRings.bits36 (fun HT_ HW_ => ?_)
                  generalize wc.drew = w261 at HO_472001 HO_473001 HO_479001 HO_485001 HO_498001 HO_499001 HO_505001 HO_511001 HO_517001 HO_523001 HO_529001 HO_535001 BK471 BK472 BK478 BK484 BK497 BK498 BK504 BK510 BK516 BK522 BK528 BK534 HB hHeld ⊢
                  refine pu 0 (some 202) HT_ ?_
                  refine pu 1 (some 203) HT_ ?_
                  refine pu 2 (some 204) HT_ ?_
                  refine pu 3 (some 205) HT_ ?_
                  refine pu 6 (some 208) HT_ ?_
                  refine pu 9 (some 211) HT_ ?_
                  refine pu 10 (some 212) HT_ ?_
                  refine tk 4 (some 206) HT_ HW_ hHeld ?_ (hy := by rintro w' ⟨s0, s1, s2, s3, s4, s5⟩; go_simp; with_reducible rfl)
                  refine tk 7 (some 209) HT_ HW_ hHeld ?_ (hy := by rintro w' ⟨s0, s1, s2, s3, s4, s5⟩; go_simp; with_reducible rfl)
                  refine tk 11 (some 213) HT_ HW_ hHeld ?_ (hy := by rintro w' ⟨s0, s1, s2, s3, s4, s5⟩; go_simp; with_reducible rfl)
                  refine on 5 (some 207) HT_ (fun K hK => ?_)
                  refine gs Try.func52 #[.slice Ao71 t500.length co71] ?_
                  with_reducible refine (laws_sum.calls kj215 _ _ t500 t560 _ ?side1 ?side2 A258.out).mono ?_
                  (case side1 => repeat (first | exact (Kd.R_reads' HO_505001.out).2.2 | (with_reducible refine Kd.C_alloc ?_ _) | (with_reducible refine Kd.C_drewN ?_ _) | (with_reducible refine Kd.C_drew ?_)))
                  (case side2 => exact (Kd.R_reads' HO_505001.out).2.1)
                  rintro e w' ⟨rfl, ⟨nd, rfl⟩⟩
                  refine ⟨_, rfl, ?_⟩
                  refine hK.out _ _ ⟨(blk_cell BK504.out 0).trans rfl, (blk_cell BK504.out 1).trans rfl, (blk_cell BK497.out 0).trans rfl, (blk_cell BK497.out 1).trans rfl, (blk_cell BK498.out 0).trans rfl, (blk_cell BK498.out 1).trans rfl⟩ (fun hHeld => ?_)
                  clear hK K
                  refine nm ?_
                  refine on 8 (some 210) HT_ (fun K hK => ?_)
                  refine gs Try.func52 #[.slice Ao55 t489.length co55] ?_
                  with_reducible refine (laws_sum.calls kj215 _ _ t489 t561 _ ?side1 ?side2 A259.out).mono ?_
                  (case side1 => repeat (first | exact (Kd.R_reads' HO_498001.out).2.2 | (with_reducible refine Kd.C_alloc ?_ _) | (with_reducible refine Kd.C_drewN ?_ _) | (with_reducible refine Kd.C_drew ?_)))
                  (case side2 => exact (Kd.R_reads' HO_498001.out).2.1)
                  rintro e w' ⟨rfl, ⟨nd, rfl⟩⟩
                  refine ⟨_, rfl, ?_⟩
                  refine hK.out _ _ ⟨(blk_cell BK504.out 0).trans rfl, (blk_cell BK504.out 1).trans rfl, (blk_cell BK497.out 0).trans rfl, (blk_cell BK497.out 1).trans rfl, (blk_cell BK498.out 0).trans rfl, (blk_cell BK498.out 1).trans rfl⟩ (fun hHeld => ?_)
                  clear hK K
                  refine nm ?_
                  refine on 12 (some 214) HT_ (fun K hK => ?_)
                  refine gs Try.func52 #[.slice Ao61 t493.length co61] ?_
                  with_reducible refine (laws_sum.calls kj215 _ _ t493 t562 _ ?side1 ?side2 A260.out).mono ?_
                  (case side1 => repeat (first | exact (Kd.R_reads' HO_499001.out).2.2 | (with_reducible refine Kd.C_alloc ?_ _) | (with_reducible refine Kd.C_drewN ?_ _) | (with_reducible refine Kd.C_drew ?_)))
                  (case side2 => exact (Kd.R_reads' HO_499001.out).2.1)
                  rintro e w' ⟨rfl, ⟨nd, rfl⟩⟩
                  refine ⟨_, rfl, ?_⟩
                  refine hK.out _ _ ⟨(blk_cell BK504.out 0).trans rfl, (blk_cell BK504.out 1).trans rfl, (blk_cell BK497.out 0).trans rfl, (blk_cell BK497.out 1).trans rfl, (blk_cell BK498.out 0).trans rfl, (blk_cell BK498.out 1).trans rfl⟩ (fun hHeld => ?_)
                  clear hK K
                  refine nm ?_
                  refine pu 13 (some 215) HT_ ?_
                  refine pu 14 (some 216) HT_ ?_
                  refine pu 15 (some 217) HT_ ?_
                  refine pu 16 (some 218) HT_ ?_
                  refine done_ (done_of HT_.out (by kernel_rfl)) ?_
                  try go_wp2
                  go_meet
                  case rel => exact ⟨_, ((t560 != (wrap64 (t561 + (wrap64 (t496 * t562)))))), (by first | rfl | (simp; done) | (simp [*]; done)), H', ⟨by have := HJ6.out; have := HJ44.out; have := HJ106.out; have := HJ175.out; have := HJ199.out; have := HJ208.out; have := HJ215.out; first | omega | exact Nat.le_refl _⟩, ⟨rk HO_472001.out⟩, ⟨rk HO_473001.out⟩, ⟨rk HO_479001.out⟩, ⟨rk HO_485001.out⟩, ⟨rk HO_498001.out⟩, ⟨rk HO_499001.out⟩, ⟨rk HO_505001.out⟩, ⟨rk HO_511001.out⟩, ⟨rk HO_517001.out⟩, ⟨rk HO_523001.out⟩, ⟨rk HO_529001.out⟩, ⟨rk HO_535001.out⟩, ⟨pk BK471.out⟩, ⟨pk BK472.out⟩, ⟨pk BK478.out⟩, ⟨pk BK484.out⟩, ⟨pk BK497.out⟩, ⟨pk BK498.out⟩, ⟨pk BK504.out⟩, ⟨pk BK510.out⟩, ⟨pk BK516.out⟩, ⟨pk BK522.out⟩, ⟨pk BK528.out⟩, ⟨pk BK534.out⟩, ⟨bks HB.out⟩⟩
                 ·rw [if_neg c257] at H
                  have c257b0 : (t503 == 0) = false := beq_eq_false_iff_ne.mpr c257
                  have c257b1 : (t503 != 0) = true := bne_iff_ne.mpr c257
                  (first | rw [c257b0] | (simp only [i64_w, i32_w]; rw [c257b0]) | skip)
                  have H' := Aside0.mk H
                  clear H
                  try go_wp2
                  replace HO_472001 := rd0 HO_472001
                  replace HO_473001 := rd0 HO_473001
                  replace HO_479001 := rd0 HO_479001
                  replace HO_485001 := rd0 HO_485001
                  replace HO_498001 := rd0 HO_498001
                  replace HO_499001 := rd0 HO_499001
                  replace HO_505001 := rd0 HO_505001
                  replace HO_511001 := rd0 HO_511001
                  replace HO_517001 := rd0 HO_517001
                  replace HO_523001 := rd0 HO_523001
                  replace HO_529001 := rd0 HO_529001
                  replace HO_535001 := rd0 HO_535001
                  replace BK471 := bd BK471
                  replace BK472 := bd BK472
                  replace BK478 := bd BK478
                  replace BK484 := bd BK484
                  replace BK497 := bd BK497
                  replace BK498 := bd BK498
                  replace BK504 := bd BK504
                  replace BK510 := bd BK510
                  replace BK516 := bd BK516
                  replace BK522 := bd BK522
                  replace BK528 := bd BK528
                  replace BK534 := bd BK534
                  replace HB := hd0 HB
                  refine start_ (n := 17) (S := fun w' => True) (ds := []) #[false, false, false, false, false, false, false, false, false, false, false, false, false, false, false, false, false] (by kernel_rfl) rfl rfl trivial (fun hHeld => ?_); refine with_tabW laws_FnRings.tab36 laws_FnRings.bits36 (fun HT_ HW_ => ?_)
                  generalize wc.drew = w262 at HO_472001 HO_473001 HO_479001 HO_485001 HO_498001 HO_499001 HO_505001 HO_511001 HO_517001 HO_523001 HO_529001 HO_535001 BK471 BK472 BK478 BK484 BK497 BK498 BK504 BK510 BK516 BK522 BK528 BK534 HB hHeld ⊢
                  refine pu 0 (some 202) HT_ ?_
                  refine pu 1 (some 203) HT_ ?_
                  refine pu 2 (some 204) HT_ ?_
                  refine pure_ (i := 3) (N := some 205) (v := undef) (a' := ?_) #[true, true, true, true, false, false, false, false, false, false, false, false, false, false, false, false, false] rfl rfl (any_of HT_.out (by kernel_rfl)) (fun _ _ _ h => h) (Or.inr ⟨by rfl, rfl⟩) ?_ ?_
                  rotate_left
                  ·simp only [Act.put, List.setIfInBounds_toArray, List.set_cons_zero, List.set_cons_succ, i64_w, i32_w]
                   rfl
                  refine pure_ (i := 4) (N := some 206) (v := undef) (a' := ?_) #[true, true, true, true, true, false, false, false, false, false, false, false, false, false, false, false, false] rfl rfl (any_of HT_.out (by kernel_rfl)) (fun _ _ _ h => h) (Or.inr ⟨by rfl, rfl⟩) ?_ ?_
                  rotate_left
                  ·simp only [Act.put, List.setIfInBounds_toArray, List.set_cons_zero, List.set_cons_succ, i64_w, i32_w]
                   rfl
                  refine pure_ (i := 5) (N := some 207) (v := undef) (a' := ?_) #[true, true, true, true, true, true, false, false, false, false, false, false, false, false, false, false, false] rfl rfl (any_of HT_.out (by kernel_rfl)) (fun _ _ _ h => h) (Or.inr ⟨by rfl, rfl⟩) ?_ ?_
                  rotate_left
                  ·simp only [Act.put, List.setIfInBounds_toArray, List.set_cons_zero, List.set_cons_succ, i64_w, i32_w]
                   rfl
                  refine pure_ (i := 6) (N := some 208) (v := undef) (a' := ?_) #[true, true, true, true, true, true, true, false, false, false, false, false, false, false, false, false, false] rfl rfl (any_of HT_.out (by kernel_rfl)) (fun _ _ _ h => h) (Or.inr ⟨by rfl, rfl⟩) ?_ ?_
                  rotate_left
                  ·simp only [Act.put, List.setIfInBounds_toArray, List.set_cons_zero, List.set_cons_succ, i64_w, i32_w]
                   rfl
                  refine pure_ (i := 7) (N := some 209) (v := undef) (a' := ?_) #[true, true, true, true, true, true, true, true, false, false, false, false, false, false, false, false, false] rfl rfl (any_of HT_.out (by kernel_rfl)) (fun _ _ _ h => h) (Or.inr ⟨by rfl, rfl⟩) ?_ ?_
                  rotate_left
                  ·simp only [Act.put, List.setIfInBounds_toArray, List.set_cons_zero, List.set_cons_succ, i64_w, i32_w]
                   rfl
                  refine pure_ (i := 8) (N := some 210) (v := undef) (a' := ?_) #[true, true, true, true, true, true, true, true, true, false, false, false, false, false, false, false, false] rfl rfl (any_of HT_.out (by kernel_rfl)) (fun _ _ _ h => h) (Or.inr ⟨by rfl, rfl⟩) ?_ ?_
                  rotate_left
                  ·simp only [Act.put, List.setIfInBounds_toArray, List.set_cons_zero, List.set_cons_succ, i64_w, i32_w]
                   rfl
                  refine pure_ (i := 9) (N := some 211) (v := undef) (a' := ?_) #[true, true, true, true, true, true, true, true, true, true, false, false, false, false, false, false, false] rfl rfl (any_of HT_.out (by kernel_rfl)) (fun _ _ _ h => h) (Or.inr ⟨by rfl, rfl⟩) ?_ ?_
                  rotate_left
                  ·simp only [Act.put, List.setIfInBounds_toArray, List.set_cons_zero, List.set_cons_succ, i64_w, i32_w]
                   rfl
                  refine pure_ (i := 10) (N := some 212) (v := undef) (a' := ?_) #[true, true, true, true, true, true, true, true, true, true, true, false, false, false, false, false, false] rfl rfl (any_of HT_.out (by kernel_rfl)) (fun _ _ _ h => h) (Or.inr ⟨by rfl, rfl⟩) ?_ ?_
                  rotate_left
                  ·simp only [Act.put, List.setIfInBounds_toArray, List.set_cons_zero, List.set_cons_succ, i64_w, i32_w]
                   rfl
                  refine pure_ (i := 11) (N := some 213) (v := undef) (a' := ?_) #[true, true, true, true, true, true, true, true, true, true, true, true, false, false, false, false, false] rfl rfl (any_of HT_.out (by kernel_rfl)) (fun _ _ _ h => h) (Or.inr ⟨by rfl, rfl⟩) ?_ ?_
                  rotate_left
                  ·simp only [Act.put, List.setIfInBounds_toArray, List.set_cons_zero, List.set_cons_succ, i64_w, i32_w]
                   rfl
                  refine pure_ (i := 12) (N := some 214) (v := undef) (a' := ?_) #[true, true, true, true, true, true, true, true, true, true, true, true, true, false, false, false, false] rfl rfl (any_of HT_.out (by kernel_rfl)) (fun _ _ _ h => h) (Or.inr ⟨by rfl, rfl⟩) ?_ ?_
                  rotate_left
                  ·simp only [Act.put, List.setIfInBounds_toArray, List.set_cons_zero, List.set_cons_succ, i64_w, i32_w]
                   rfl
                  refine pure_ (i := 13) (N := some 215) (v := undef) (a' := ?_) #[true, true, true, true, true, true, true, true, true, true, true, true, true, true, false, false, false] rfl rfl (any_of HT_.out (by kernel_rfl)) (fun _ _ _ h => h) (Or.inr ⟨by rfl, rfl⟩) ?_ ?_
                  rotate_left
                  ·simp only [Act.put, List.setIfInBounds_toArray, List.set_cons_zero, List.set_cons_succ, i64_w, i32_w]
                   rfl
                  refine pure_ (i := 14) (N := some 216) (v := undef) (a' := ?_) #[true, true, true, true, true, true, true, true, true, true, true, true, true, true, true, false, false] rfl rfl (any_of HT_.out (by kernel_rfl)) (fun _ _ _ h => h) (Or.inr ⟨by rfl, rfl⟩) ?_ ?_
                  rotate_left
                  ·simp only [Act.put, List.setIfInBounds_toArray, List.set_cons_zero, List.set_cons_succ, i64_w, i32_w]
                   rfl
                  refine pure_ (i := 15) (N := some 217) (v := undef) (a' := ?_) #[true, true, true, true, true, true, true, true, true, true, true, true, true, true, true, true, false] rfl rfl (any_of HT_.out (by kernel_rfl)) (fun _ _ _ h => h) (Or.inr ⟨by rfl, rfl⟩) ?_ ?_
                  rotate_left
                  ·simp only [Act.put, List.setIfInBounds_toArray, List.set_cons_zero, List.set_cons_succ, i64_w, i32_w]
                   rfl
                  refine pu 16 (some 218) HT_ ?_
                  refine done_ (done_of HT_.out (by kernel_rfl)) ?_
                  try go_wp2
                  go_meet
                  case rel => exact ⟨_, (false), (by first | rfl | (simp; done) | (simp [*]; done)), H', ⟨by have := HJ6.out; have := HJ44.out; have := HJ106.out; have := HJ175.out; have := HJ199.out; have := HJ208.out; have := HJ215.out; first | omega | exact Nat.le_refl _⟩, ⟨rk HO_472001.out⟩, ⟨rk HO_473001.out⟩, ⟨rk HO_479001.out⟩, ⟨rk HO_485001.out⟩, ⟨rk HO_498001.out⟩, ⟨rk HO_499001.out⟩, ⟨rk HO_505001.out⟩, ⟨rk HO_511001.out⟩, ⟨rk HO_517001.out⟩, ⟨rk HO_523001.out⟩, ⟨rk HO_529001.out⟩, ⟨rk HO_535001.out⟩, ⟨pk BK471.out⟩, ⟨pk BK472.out⟩, ⟨pk BK478.out⟩, ⟨pk BK484.out⟩, ⟨pk BK497.out⟩, ⟨pk BK498.out⟩, ⟨pk BK504.out⟩, ⟨pk BK510.out⟩, ⟨pk BK516.out⟩, ⟨pk BK522.out⟩, ⟨pk BK528.out⟩, ⟨pk BK534.out⟩, ⟨bks HB.out⟩⟩
                case rest => as_aux_lemma =>
                 clear HC256
                 try clear c2; try clear p2; try clear c4; try clear c5; try clear p6; try clear c21; try clear c22; try clear c23; try clear c24; try clear c25; try clear c41; try clear c52; try clear p64; try clear c217; try clear c217b0; try clear c217b1; try clear c219; try clear c219b0; try clear c219b1; try clear c221; try clear c224; try clear c224b0; try clear c224b1; try clear c225; try clear c226; try clear c227; try clear c228; try clear c229; try clear c230; try clear c231; try clear c232; try clear c233; try clear c234; try clear c235; try clear c239; try clear c240; try clear c241; try clear c242; try clear c243; try clear c244; try clear c245; try clear c246; try clear c247; try clear c248; try clear c249; try clear c250; try clear c257; try clear c257b0; try clear c257b1; try clear hcz133_1; try clear hcz146_0; try clear hcz146_1; try clear hcz14_0; try clear hcz14_1; try clear hcz160_0; try clear hcz160_1; try clear hcz170_0; try clear hcz170_1; try clear hcz190_0; try clear hcz190_1; try clear hcz193_0; try clear hcz193_1; try clear hcz20_0; try clear hcz20_1; try clear hcz22_0; try clear hcz22_1; try clear hcz236_0; try clear hcz236_1; try clear hcz23_0; try clear hcz23_1; try clear hcz251_0; try clear hcz251_1; try clear hcz29_0; try clear hcz29_1; try clear hcz54_0; try clear hcz54_1; try clear hcz60_0; try clear hcz60_1; try clear hcz70_0; try clear hcz70_1; try clear hcz72_0; try clear hcz72_1; try clear hcz73_0; try clear hcz73_1; try clear hcz83_0; try clear hcz83_1; try clear hcz94_0; try clear hcz94_1; try clear hfz101_0; try clear hfz101_1; try clear hfz118_0; try clear hfz118_1; try clear hfz12_0; try clear hfz12_1; try clear hfz131_0; try clear hfz131_1; try clear hfz133_0; try clear hfz133_1; try clear hfz146_0; try clear hfz146_1; try clear hfz14_0; try clear hfz14_1; try clear hfz160_0; try clear hfz160_1; try clear hfz170_0; try clear hfz170_1; try clear hfz190_0; try clear hfz190_1; try clear hfz193_0; try clear hfz193_1; try clear hfz20_0; try clear hfz20_1; try clear hfz22_0; try clear hfz22_1; try clear hfz236_0; try clear hfz236_1; try clear hfz23_0; try clear hfz23_1; try clear hfz251_0; try clear hfz251_1; try clear hfz29_0; try clear hfz29_1; try clear hfz54_0; try clear hfz54_1; try clear hfz60_0; try clear hfz60_1; try clear hfz70_0; try clear hfz70_1; try clear hfz72_0; try clear hfz72_1; try clear hfz73_0; try clear hfz73_1; try clear hfz83_0; try clear hfz83_1; try clear hfz94_0; try clear hfz94_1; try clear p2
                 obtain ⟨kq, x218_255, rfl, HA, HJ255, HO_472001, HO_473001, HO_479001, HO_485001, HO_498001, HO_499001, HO_505001, HO_511001, HO_517001, HO_523001, HO_529001, HO_535001, BK471, BK472, BK478, BK484, BK497, BK498, BK504, BK510, BK516, BK522, BK528, BK534, HB⟩ := hcut
                 cases kq with
                 | zero => exact absurd HA.out (by simp [laws_FnRings.j7])
                 | succ kj255 =>
                  have H := HA.out
                  clear HA
                  simp only [laws_FnRings.j7] at H
                  by_cases c263 : x218_255 = true
                  ·subst c263
                   have H1 : (none) = some r := by rw [if_pos rfl] at H; exact H
                   clear H
                   have H := H1
                   clear H1
                   exact absurd H (by simp)
                  replace c263 := Bool.eq_false_iff.mpr c263
                  subst c263
                  have H1 : (if t477 = 0 then ((impl_MultiplyRings.f kj255 t467 t468 t463 t464).bind fun bt563 => (if bt563.2.2 = 0 then ((laws_ring9.f kj255 bt563.1 bt563.2.1 t473 t474).bind fun t569 => (if t569 = true then ((laws_sum.f kj255 t474).bind fun t570 => ((laws_sum.f kj255 t464).bind fun t571 => ((laws_sum.f kj255 t468).bind fun t572 => (some (t570 == (wrap64 (t571 * t572))))))) else (none))) else (none))) else (some ((t474.length : Int) == 0))) = some r := by rw [if_neg (show ¬ (false = true) by decide)] at H; exact H
                  clear H
                  have H := H1
                  clear H1
                  by_cases c264 : t477 = 0
                  ·rw [if_pos c264] at H
                   have c264b0 : (t477 == 0) = true := beq_iff_eq.mpr c264
                   have c264b1 : (t477 != 0) = false := bne_eq_false_iff_eq.mpr c264
                   clear c264
                   replace H := Option.bind_eq_some_iff.mp H
                   obtain ⟨⟨t563, t564, t567⟩, A2650, H⟩ := H
                   try dsimp only at H
                   have A265 := Aside0.mk A2650
                   clear A2650
                   by_cases c266 : t567 = 0
                   rotate_left
                   ·rw [if_neg c266] at H; exact absurd H (by simp)
                   rw [if_pos c266] at H
                   have c266b0 : (t567 == 0) = true := beq_iff_eq.mpr c266
                   have c266b1 : (t567 != 0) = false := bne_eq_false_iff_eq.mpr c266
                   clear c266
                   replace H := Option.bind_eq_some_iff.mp H
                   obtain ⟨t569, A2670, H⟩ := H
                   try dsimp only at H
                   have A267 := Aside0.mk A2670
                   clear A2670
                   by_cases c268 : t569 = true
                   rotate_left
                   ·replace c268 := Bool.eq_false_iff.mpr c268
                    subst c268
                    have H1 : (none) = some r := by rw [if_neg (show ¬ (false = true) by decide)] at H; exact H
                    clear H
                    have H := H1
                    clear H1
                    exact absurd H (by simp)
                   subst c268
                   have H1 : ((laws_sum.f kj255 t474).bind fun t570 => ((laws_sum.f kj255 t464).bind fun t571 => ((laws_sum.f kj255 t468).bind fun t572 => (some (t570 == (wrap64 (t571 * t572))))))) = some r := by rw [if_pos rfl] at H; exact H
                   clear H
                   have H := H1
                   clear H1
                   replace H := Option.bind_eq_some_iff.mp H
                   obtain ⟨t570, A2690, H⟩ := H
                   try dsimp only at H
                   have A269 := Aside0.mk A2690
                   clear A2690
                   replace H := Option.bind_eq_some_iff.mp H
                   obtain ⟨t571, A2700, H⟩ := H
                   try dsimp only at H
                   have A270 := Aside0.mk A2700
                   clear A2700
                   replace H := Option.bind_eq_some_iff.mp H
                   obtain ⟨t572, A2710, H⟩ := H
                   try dsimp only at H
                   have A271 := Aside0.mk A2710
                   clear A2710
                   obtain rfl := Option.some.inj H
                   have hnb272 := NB472_471.out
                   have hnc272 := NB471_472.out
                   have hnb273 := NB472_478.out
                   have hnc273 := NB478_472.out
                   have hnb274 := NB472_484.out
                   have hnc274 := NB484_472.out
                   have hnb275 := NB472_497.out
                   have hnc275 := NB497_472.out
                   have hnb276 := NB472_498.out
                   have hnc276 := NB498_472.out
                   have hnb277 := NB472_504.out
                   have hnc277 := NB504_472.out
                   have hnb278 := NB472_510.out
                   have hnc278 := NB510_472.out
                   have hnb279 := NB472_516.out
                   have hnc279 := NB516_472.out
                   have hnb280 := NB472_522.out
                   have hnc280 := NB522_472.out
                   have hnb281 := NB472_528.out
                   have hnc281 := NB528_472.out
                   have hnb282 := NB472_534.out
                   have hnc282 := NB534_472.out
                   have hcz283_0 : wc.cell? ⟨gb472, 0, none⟩ = some (.int .i64 t467) := (blk_cell BK472.out 0).trans rfl
                   have hcz283_1 : wc.cell? ⟨gb472, 1, none⟩ = some (.slice Ao15 t468.length co15) := (blk_cell BK472.out 1).trans rfl
                   have hfz283_0 := blk_frozen BK472.out 0
                   have hfz283_1 := blk_frozen BK472.out 1
                   have hnb284 := NB471_478.out
                   have hnc284 := NB478_471.out
                   have hnb285 := NB471_484.out
                   have hnc285 := NB484_471.out
                   have hnb286 := NB471_497.out
                   have hnc286 := NB497_471.out
                   have hnb287 := NB471_498.out
                   have hnc287 := NB498_471.out
                   have hnb288 := NB471_504.out
                   have hnc288 := NB504_471.out
                   have hnb289 := NB471_510.out
                   have hnc289 := NB510_471.out
                   have hnb290 := NB471_516.out
                   have hnc290 := NB516_471.out
                   have hnb291 := NB471_522.out
                   have hnc291 := NB522_471.out
                   have hnb292 := NB471_528.out
                   have hnc292 := NB528_471.out
                   have hnb293 := NB471_534.out
                   have hnc293 := NB534_471.out
                   have hcz294_0 : wc.cell? ⟨gb471, 0, none⟩ = some (.int .i64 t463) := (blk_cell BK471.out 0).trans rfl
                   have hcz294_1 : wc.cell? ⟨gb471, 1, none⟩ = some (.slice Ao13 t464.length co13) := (blk_cell BK471.out 1).trans rfl
                   have hfz294_0 := blk_frozen BK471.out 0
                   have hfz294_1 := blk_frozen BK471.out 1
                   try go_wp2_with (first | ((with_reducible refine gate_callee (f := 28) rfl ?_); refine gl (some 228) Try.func28 #[.agg #[.int .i64 t467, .slice Ao15 t468.length co15], .agg #[.int .i64 t463, .slice Ao13 t464.length co13]] ?_; (with_reducible refine (impl_MultiplyRings.calls kj255 t467 _ _ t468 t463 _ _ t464 t563 t564 t567 _ ?side1 ?side2 ?side3 ?side4 A265.out).mono ?_); (case side1 => repeat (first | exact (Kd.R_reads' HO_473001.out).2.2 | (with_reducible refine Kd.C_alloc ?_ _) | (with_reducible refine Kd.C_drewN ?_ _) | (with_reducible refine Kd.C_drew ?_))); (case side2 => exact (Kd.R_reads' HO_473001.out).2.1); (case side3 => repeat (first | exact (Kd.R_reads' HO_472001.out).2.2 | (with_reducible refine Kd.C_alloc ?_ _) | (with_reducible refine Kd.C_drewN ?_ _) | (with_reducible refine Kd.C_drew ?_))); (case side4 => exact (Kd.R_reads' HO_472001.out).2.1); rintro e w295 ⟨v565, rfl, ho0, hb⟩; refine ⟨_, rfl, ?_⟩; have HO566 := Aside0.mk (Kd.R_mono (ok' := fun _ => True) (Kd.R_lower ho0 (below_size (bks HB.out))) (fun _ _ => trivial)); replace HO_472001 := rb HO_472001 hb; replace HO_473001 := rb HO_473001 hb; replace HO_479001 := rb HO_479001 hb; replace HO_485001 := rb HO_485001 hb; replace HO_498001 := rb HO_498001 hb; replace HO_499001 := rb HO_499001 hb; replace HO_505001 := rb HO_505001 hb; replace HO_511001 := rb HO_511001 hb; replace HO_517001 := rb HO_517001 hb; replace HO_523001 := rb HO_523001 hb; replace HO_529001 := rb HO_529001 hb; replace HO_535001 := rb HO_535001 hb; replace BK471 := bb BK471 hb; replace BK472 := bb BK472 hb; replace BK478 := bb BK478 hb; replace BK484 := bb BK484 hb; replace BK497 := bb BK497 hb; replace BK498 := bb BK498 hb; replace BK504 := bb BK504 hb; replace BK510 := bb BK510 hb; replace BK516 := bb BK516 hb; replace BK522 := bb BK522 hb; replace BK528 := bb BK528 hb; replace BK534 := bb BK534 hb; replace HB := hs HB hb; (try clear hb ho0)) | ((with_reducible refine gate_dst (N := 35) rfl ?_); (try (refine gate_guard (by rfl) ?_; dsimp only)); refine bx 35 #[.int .i64 0, .slice none 0 0] 24 (fun gb568 hg w296 hbox hb => ?_); have BK568 := Aside0.mk hbox; have GW568 := ge HB hg; have GE568 := GW568; obtain ⟨NB471_568, NB568_471⟩ := nb BK471 hg; obtain ⟨NB472_568, NB568_472⟩ := nb BK472 hg; obtain ⟨NB478_568, NB568_478⟩ := nb BK478 hg; obtain ⟨NB484_568, NB568_484⟩ := nb BK484 hg; obtain ⟨NB497_568, NB568_497⟩ := nb BK497 hg; obtain ⟨NB498_568, NB568_498⟩ := nb BK498 hg; obtain ⟨NB504_568, NB568_504⟩ := nb BK504 hg; obtain ⟨NB510_568, NB568_510⟩ := nb BK510 hg; obtain ⟨NB516_568, NB568_516⟩ := nb BK516 hg; obtain ⟨NB522_568, NB568_522⟩ := nb BK522 hg; obtain ⟨NB528_568, NB568_528⟩ := nb BK528 hg; obtain ⟨NB534_568, NB568_534⟩ := nb BK534 hg; replace HO_472001 := rb HO_472001 hb; replace HO_473001 := rb HO_473001 hb; replace HO_479001 := rb HO_479001 hb; replace HO_485001 := rb HO_485001 hb; replace HO_498001 := rb HO_498001 hb; replace HO_499001 := rb HO_499001 hb; replace HO_505001 := rb HO_505001 hb; replace HO_511001 := rb HO_511001 hb; replace HO_517001 := rb HO_517001 hb; replace HO_523001 := rb HO_523001 hb; replace HO_529001 := rb HO_529001 hb; replace HO_535001 := rb HO_535001 hb; replace HO566 := rb HO566 hb; replace BK471 := bb BK471 hb; replace BK472 := bb BK472 hb; replace BK478 := bb BK478 hb; replace BK484 := bb BK484 hb; replace BK497 := bb BK497 hb; replace BK498 := bb BK498 hb; replace BK504 := bb BK504 hb; replace BK510 := bb BK510 hb; replace BK516 := bb BK516 hb; replace BK522 := bb BK522 hb; replace BK528 := bb BK528 hb; replace BK534 := bb BK534 hb; replace HB := hs HB hb; clear hb hbox hg; have hnb297 := NB568_471.out; have hnc297 := NB471_568.out; have hnb298 := NB568_472.out; have hnc298 := NB472_568.out; have hnb299 := NB568_478.out; have hnc299 := NB478_568.out; have hnb300 := NB568_484.out; have hnc300 := NB484_568.out; have hnb301 := NB568_497.out; have hnc301 := NB497_568.out; have hnb302 := NB568_498.out; have hnc302 := NB498_568.out; have hnb303 := NB568_504.out; have hnc303 := NB504_568.out; have hnb304 := NB568_510.out; have hnc304 := NB510_568.out; have hnb305 := NB568_516.out; have hnc305 := NB516_568.out; have hnb306 := NB568_522.out; have hnc306 := NB522_568.out; have hnb307 := NB568_528.out; have hnc307 := NB528_568.out; have hnb308 := NB568_534.out; have hnc308 := NB534_568.out; have hcz309_0 : w296.cell? ⟨gb568, 0, none⟩ = some (.int .i64 0) := (blk_cell BK568.out 0).trans rfl; have hcz309_1 : w296.cell? ⟨gb568, 1, none⟩ = some (.slice none 0 0) := (blk_cell BK568.out 1).trans rfl; have hfz309_0 := blk_frozen BK568.out 0; have hfz309_1 := blk_frozen BK568.out 1; obtain ⟨Ao310, co310, eo310⟩ := Kd.R_slice HO566.out; subst eo310))
                   obtain ⟨w311, hq⟩ : ∃ w_, w_ = ((w296.setCell ⟨gb568, 0, none⟩ (.int .i64 t563)).setCell ⟨gb568, 1, none⟩ (.slice Ao310 t564.length co310)) := ⟨_, rfl⟩
                   rw [← hq]
                   have n25_ : Aside0 (w311.heap[gb568]? = some (.cells #[.int .i64 t563, .slice Ao310 t564.length co310] 24 (0, 0))) := ⟨by rw [hq]; exact (by (with_reducible repeat (first | refine blk_drewN ?_ _ | refine blk_drew ?_ | refine blk_alloc ?_ _)); refine blk_put (cs := #[.int .i64 t563, .slice none 0 0]) ?_ 1 _ rfl; (with_reducible repeat (first | refine blk_drewN ?_ _ | refine blk_drew ?_ | refine blk_alloc ?_ _)); refine blk_put (cs := #[.int .i64 0, .slice none 0 0]) ?_ 0 _ rfl; (with_reducible repeat (first | refine blk_drewN ?_ _ | refine blk_drew ?_ | refine blk_alloc ?_ _)); exact BK568.out)⟩
                   replace HO_472001 := rq HO_472001 hq
                   replace HO_473001 := rq HO_473001 hq
                   replace HO_479001 := rq HO_479001 hq
                   replace HO_485001 := rq HO_485001 hq
                   replace HO_498001 := rq HO_498001 hq
                   replace HO_499001 := rq HO_499001 hq
                   replace HO_505001 := rq HO_505001 hq
                   replace HO_511001 := rq HO_511001 hq
                   replace HO_517001 := rq HO_517001 hq
                   replace HO_523001 := rq HO_523001 hq
                   replace HO_529001 := rq HO_529001 hq
                   replace HO_535001 := rq HO_535001 hq
                   replace HO566 := rq HO566 hq
                   replace BK471 := bq BK471 hq
                   replace BK472 := bq BK472 hq
                   replace BK478 := bq BK478 hq
                   replace BK484 := bq BK484 hq
                   replace BK497 := bq BK497 hq
                   replace BK498 := bq BK498 hq
                   replace BK504 := bq BK504 hq
                   replace BK510 := bq BK510 hq
                   replace BK516 := bq BK516 hq
                   replace BK522 := bq BK522 hq
                   replace BK528 := bq BK528 hq
                   replace BK534 := bq BK534 hq
                   clear BK568
                   have BK568 := n25_
                   clear n25_
                   replace HB := hq0 HB hq
                   clear hq
                   replace HO_472001 := rd0 HO_472001
                   replace HO_473001 := rd0 HO_473001
                   replace HO_479001 := rd0 HO_479001
                   replace HO_485001 := rd0 HO_485001
                   replace HO_498001 := rd0 HO_498001
                   replace HO_499001 := rd0 HO_499001
                   replace HO_505001 := rd0 HO_505001
                   replace HO_511001 := rd0 HO_511001
                   replace HO_517001 := rd0 HO_517001
                   replace HO_523001 := rd0 HO_523001
                   replace HO_529001 := rd0 HO_529001
                   replace HO_535001 := rd0 HO_535001
                   replace HO566 := rd0 HO566
                   replace BK471 := bd BK471
                   replace BK472 := bd BK472
                   replace BK478 := bd BK478
                   replace BK484 := bd BK484
                   replace BK497 := bd BK497
                   replace BK498 := bd BK498
                   replace BK504 := bd BK504
                   replace BK510 := bd BK510
                   replace BK516 := bd BK516
                   replace BK522 := bd BK522
                   replace BK528 := bd BK528
                   replace BK534 := bd BK534
                   replace BK568 := bd BK568
                   replace HB := hd0 HB
                   refine start_ (n := 21) (S := fun w' => w'.cell? ⟨gb568, 0, none⟩ = some (.int .i64 t563) ∧ w'.cell? ⟨gb568, 1, none⟩ = some (.slice Ao310 t564.length co310) ∧ w'.cell? ⟨gb478, 0, none⟩ = some (.int .i64 t473) ∧ w'.cell? ⟨gb478, 1, none⟩ = some (.slice Ao21 t474.length co21) ∧ w'.cell? ⟨gb471, 0, none⟩ = some (.int .i64 t463) ∧ w'.cell? ⟨gb471, 1, none⟩ = some (.slice Ao13 t464.length co13) ∧ w'.cell? ⟨gb472, 0, none⟩ = some (.int .i64 t467) ∧ w'.cell? ⟨gb472, 1, none⟩ = some (.slice Ao15 t468.length co15)) (ds := []) #[false, false, false, false, false, false, false, false, false, false, false, false, false, false, false, false, false, false, false, false, false] (by kernel_rfl) rfl rfl ⟨(blk_cell BK568.out 0).trans rfl, (blk_cell BK568.out 1).trans rfl, (blk_cell BK478.out 0).trans rfl, (blk_cell BK478.out 1).trans rfl, (blk_cell BK471.out 0).trans rfl, (blk_cell BK471.out 1).trans rfl, (blk_cell BK472.out 0).trans rfl, (blk_cell BK472.out 1).trans rfl⟩ (fun hHeld => ?_); refine with_tabW laws_FnRings.tab41 laws_FnRings.bits41 (fun HT_ HW_ => ?_)
                   generalize w311.drew = w312 at HO_472001 HO_473001 HO_479001 HO_485001 HO_498001 HO_499001 HO_505001 HO_511001 HO_517001 HO_523001 HO_529001 HO_535001 HO566 BK471 BK472 BK478 BK484 BK497 BK498 BK504 BK510 BK516 BK522 BK528 BK534 BK568 HB hHeld ⊢
                   refine pu 0 (some 231) HT_ ?_
                   refine pu 1 (some 232) HT_ ?_
                   refine pu 2 (some 233) HT_ ?_
                   refine tk 3 (some 234) HT_ HW_ hHeld ?_ (hy := by rintro w' ⟨s0, s1, s2, s3, s4, s5, s6, s7⟩; go_simp; with_reducible rfl)
                   refine tk 4 (some 235) HT_ HW_ hHeld ?_ (hy := by rintro w' ⟨s0, s1, s2, s3, s4, s5, s6, s7⟩; go_simp; with_reducible rfl)
                   refine on 5 (some 236) HT_ (fun K hK => ?_)
                   refine gs Try.func41 #[.agg #[.int .i64 t563, .slice Ao310 t564.length co310], .agg #[.int .i64 t473, .slice Ao21 t474.length co21]] ?_
                   with_reducible refine (laws_ring9.calls kj255 t563 _ _ t564 t473 _ _ t474 true _ ?side1 ?side2 ?side3 ?side4 A267.out).mono ?_
                   (case side1 => repeat (first | exact (Kd.R_reads' HO566.out).2.2 | (with_reducible refine Kd.C_alloc ?_ _) | (with_reducible refine Kd.C_drewN ?_ _) | (with_reducible refine Kd.C_drew ?_)))
                   (case side2 => exact (Kd.R_reads' HO566.out).2.1)
                   (case side3 => repeat (first | exact (Kd.R_reads' HO_479001.out).2.2 | (with_reducible refine Kd.C_alloc ?_ _) | (with_reducible refine Kd.C_drewN ?_ _) | (with_reducible refine Kd.C_drew ?_)))
                   (case side4 => exact (Kd.R_reads' HO_479001.out).2.1)
                   rintro e w313 ⟨rfl, hb⟩
                   refine ⟨_, rfl, ?_⟩
                   replace HO_472001 := rb HO_472001 hb
                   replace HO_473001 := rb HO_473001 hb
                   replace HO_479001 := rb HO_479001 hb
                   replace HO_485001 := rb HO_485001 hb
                   replace HO_498001 := rb HO_498001 hb
                   replace HO_499001 := rb HO_499001 hb
                   replace HO_505001 := rb HO_505001 hb
                   replace HO_511001 := rb HO_511001 hb
                   replace HO_517001 := rb HO_517001 hb
                   replace HO_523001 := rb HO_523001 hb
                   replace HO_529001 := rb HO_529001 hb
                   replace HO_535001 := rb HO_535001 hb
                   replace HO566 := rb HO566 hb
                   replace BK471 := bb BK471 hb
                   replace BK472 := bb BK472 hb
                   replace BK478 := bb BK478 hb
                   replace BK484 := bb BK484 hb
                   replace BK497 := bb BK497 hb
                   replace BK498 := bb BK498 hb
                   replace BK504 := bb BK504 hb
                   replace BK510 := bb BK510 hb
                   replace BK516 := bb BK516 hb
                   replace BK522 := bb BK522 hb
                   replace BK528 := bb BK528 hb
                   replace BK534 := bb BK534 hb
                   replace BK568 := bb BK568 hb
                   replace HB := hs HB hb
                   (try clear hb)
                   refine hK.out _ _ ⟨(blk_cell BK568.out 0).trans rfl, (blk_cell BK568.out 1).trans rfl, (blk_cell BK478.out 0).trans rfl, (blk_cell BK478.out 1).trans rfl, (blk_cell BK471.out 0).trans rfl, (blk_cell BK471.out 1).trans rfl, (blk_cell BK472.out 0).trans rfl, (blk_cell BK472.out 1).trans rfl⟩ (fun hHeld => ?_)
                   clear hK K
                   refine nm ?_
                   refine pu 6 (some 237) HT_ ?_
                   refine pu 7 (some 238) HT_ ?_
                   refine pu 8 (some 239) HT_ ?_
                   refine pu 11 (some 242) HT_ ?_
                   refine pu 14 (some 245) HT_ ?_
                   refine tk 9 (some 240) HT_ HW_ hHeld ?_ (hy := by rintro w' ⟨s0, s1, s2, s3, s4, s5, s6, s7⟩; go_simp; with_reducible rfl)
                   refine tk 12 (some 243) HT_ HW_ hHeld ?_ (hy := by rintro w' ⟨s0, s1, s2, s3, s4, s5, s6, s7⟩; go_simp; with_reducible rfl)
                   refine tk 15 (some 246) HT_ HW_ hHeld ?_ (hy := by rintro w' ⟨s0, s1, s2, s3, s4, s5, s6, s7⟩; go_simp; with_reducible rfl)
                   refine on 10 (some 241) HT_ (fun K hK => ?_)
                   refine gs Try.func52 #[.slice Ao21 t474.length co21] ?_
                   with_reducible refine (laws_sum.calls kj255 _ _ t474 t570 _ ?side1 ?side2 A269.out).mono ?_
                   (case side1 => repeat (first | exact (Kd.R_reads' HO_479001.out).2.2 | (with_reducible refine Kd.C_alloc ?_ _) | (with_reducible refine Kd.C_drewN ?_ _) | (with_reducible refine Kd.C_drew ?_)))
                   (case side2 => exact (Kd.R_reads' HO_479001.out).2.1)
                   rintro e w' ⟨rfl, ⟨nd, rfl⟩⟩
                   refine ⟨_, rfl, ?_⟩
                   refine hK.out _ _ ⟨(blk_cell BK568.out 0).trans rfl, (blk_cell BK568.out 1).trans rfl, (blk_cell BK478.out 0).trans rfl, (blk_cell BK478.out 1).trans rfl, (blk_cell BK471.out 0).trans rfl, (blk_cell BK471.out 1).trans rfl, (blk_cell BK472.out 0).trans rfl, (blk_cell BK472.out 1).trans rfl⟩ (fun hHeld => ?_)
                   clear hK K
                   refine nm ?_
                   refine on 13 (some 244) HT_ (fun K hK => ?_)
                   refine gs Try.func52 #[.slice Ao13 t464.length co13] ?_
                   with_reducible refine (laws_sum.calls kj255 _ _ t464 t571 _ ?side1 ?side2 A270.out).mono ?_
                   (case side1 => repeat (first | exact (Kd.R_reads' HO_472001.out).2.2 | (with_reducible refine Kd.C_alloc ?_ _) | (with_reducible refine Kd.C_drewN ?_ _) | (with_reducible refine Kd.C_drew ?_)))
                   (case side2 => exact (Kd.R_reads' HO_472001.out).2.1)
                   rintro e w' ⟨rfl, ⟨nd, rfl⟩⟩
                   refine ⟨_, rfl, ?_⟩
                   refine hK.out _ _ ⟨(blk_cell BK568.out 0).trans rfl, (blk_cell BK568.out 1).trans rfl, (blk_cell BK478.out 0).trans rfl, (blk_cell BK478.out 1).trans rfl, (blk_cell BK471.out 0).trans rfl, (blk_cell BK471.out 1).trans rfl, (blk_cell BK472.out 0).trans rfl, (blk_cell BK472.out 1).trans rfl⟩ (fun hHeld => ?_)
                   clear hK K
                   refine nm ?_
                   refine on 16 (some 247) HT_ (fun K hK => ?_)
                   refine gs Try.func52 #[.slice Ao15 t468.length co15] ?_
                   with_reducible refine (laws_sum.calls kj255 _ _ t468 t572 _ ?side1 ?side2 A271.out).mono ?_
                   (case side1 => repeat (first | exact (Kd.R_reads' HO_473001.out).2.2 | (with_reducible refine Kd.C_alloc ?_ _) | (with_reducible refine Kd.C_drewN ?_ _) | (with_reducible refine Kd.C_drew ?_)))
                   (case side2 => exact (Kd.R_reads' HO_473001.out).2.1)
                   rintro e w' ⟨rfl, ⟨nd, rfl⟩⟩
                   refine ⟨_, rfl, ?_⟩
                   refine hK.out _ _ ⟨(blk_cell BK568.out 0).trans rfl, (blk_cell BK568.out 1).trans rfl, (blk_cell BK478.out 0).trans rfl, (blk_cell BK478.out 1).trans rfl, (blk_cell BK471.out 0).trans rfl, (blk_cell BK471.out 1).trans rfl, (blk_cell BK472.out 0).trans rfl, (blk_cell BK472.out 1).trans rfl⟩ (fun hHeld => ?_)
                   clear hK K
                   refine nm ?_
                   refine pu 17 (some 248) HT_ ?_
                   refine pu 18 (some 249) HT_ ?_
                   refine pu 19 (some 250) HT_ ?_
                   refine pu 20 (some 2) HT_ ?_
                   refine done_ (done_of HT_.out (by kernel_rfl)) ?_
                   try go_wp2
                   go_ret
                   exact ⟨by first | rfl | (simp [errW_none, errW_some] <;> rfl) | (simp [*, errW_none, errW_some] <;> rfl), bks HB.out⟩
                  ·rw [if_neg c264] at H
                   have c264b0 : (t477 == 0) = false := beq_eq_false_iff_ne.mpr c264
                   have c264b1 : (t477 != 0) = true := bne_iff_ne.mpr c264
                   obtain rfl := Option.some.inj H
                   have hnb314 := NB478_471.out
                   have hnc314 := NB471_478.out
                   have hnb315 := NB478_472.out
                   have hnc315 := NB472_478.out
                   have hnb316 := NB478_484.out
                   have hnc316 := NB484_478.out
                   have hnb317 := NB478_497.out
                   have hnc317 := NB497_478.out
                   have hnb318 := NB478_498.out
                   have hnc318 := NB498_478.out
                   have hnb319 := NB478_504.out
                   have hnc319 := NB504_478.out
                   have hnb320 := NB478_510.out
                   have hnc320 := NB510_478.out
                   have hnb321 := NB478_516.out
                   have hnc321 := NB516_478.out
                   have hnb322 := NB478_522.out
                   have hnc322 := NB522_478.out
                   have hnb323 := NB478_528.out
                   have hnc323 := NB528_478.out
                   have hnb324 := NB478_534.out
                   have hnc324 := NB534_478.out
                   have hcz325_0 : wc.cell? ⟨gb478, 0, none⟩ = some (.int .i64 t473) := (blk_cell BK478.out 0).trans rfl
                   have hcz325_1 : wc.cell? ⟨gb478, 1, none⟩ = some (.slice Ao21 t474.length co21) := (blk_cell BK478.out 1).trans rfl
                   have hfz325_0 := blk_frozen BK478.out 0
                   have hfz325_1 := blk_frozen BK478.out 1
                   go_wp2
                   go_ret
                   exact ⟨by first | rfl | (simp [errW_none, errW_some] <;> rfl) | (simp [*, errW_none, errW_some] <;> rfl), bks HB.out⟩

/-- THE ONE PURE STATEMENT of laws_FnRings: yours. -/
def laws_FnRings.Pure : Prop := ∀ (l0 : List Int), l0.length ≤ maxLen → l0.length * 1 ≤ 140737488351232 → (∀ x ∈ l0, (Lit.int .u8 x).wf = true) → ∃ k, laws_FnRings.f k l0 = some true
theorem laws_FnRings.walk (P : laws_FnRings.Pure) (a0 : Option Addr) (len0 cap0 : Nat) (z0 : List Int) (w : World) (w0 : (a0 = none ∧ len0 = 0 ∧ cap0 = 0 ∧ z0 = []) ∨ ∃ x, a0 = some x ∧ len0 ≤ cap0 ∧ cap0 ≤ maxLen ∧ z0.length = cap0 ∧ (∀ i, i < z0.length → w.cell? (x.add i) = some (.int .u8 (z0.getD i 0))) ∧ ∀ n ∈ z0, (Lit.int .u8 n).wf = true) (y0 : len0 * 1 ≤ 140737488351232) :
  Calls Try.prog 11 #[.slice a0 len0 cap0] w fun e w' => e = .returned (.bool true) ∧ Below w.heap.size w w' := by
 obtain ⟨l0, rfl, hr0, hm0, hw0, hc0⟩ := ReadsInt.ofRowC w0
 obtain ⟨k, h⟩ := P l0 hm0 y0 hw0
 refine (laws_FnRings.calls k _ _ l0 true w (Kd.C_of_reads (d := (0 : Int)) (h1 := fun _ => rfl) hr0) hc0 h).mono ?_
 rintro e w' ⟨rfl, hd⟩
 exact ⟨rfl, hd⟩

end Go.Proofs.Ythkdkiifchefhaa.PFnRings
