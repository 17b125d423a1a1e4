-- printed by this session's own program (wip/tools/pp.py: the kit's print.py with changes); Lean checks it
import Derived.Test.YtonejnaanklfjaaQFnTakenOncex0
import Derived.Test.YtonejnaanklfjaaQFnTakenOncex1
import Derived.Test.YtonejnaanklfjaaQFnTakenOncex2
import Derived.Test.YtonejnaanklfjaaQFnTakenOncex3
import Derived.Test.YtonejnaanklfjaaQFnTakenOncex4
import Derived.Test.YtonejnaanklfjaaQFnTakenOncex5
namespace Go.Proofs.Ytonejnaanklfjaa.QFnTakenOnce
open Go.RowKit Go.Proofs.YtonejnaanklfjaaW.PrintWords Go.Proofs.YtonejnaanklfjaaW.PrintLast Go.Proofs.YtonejnaanklfjaaW.PrintMore
attribute [local go_sem] max2_int min2_int max_two min_two max_three min_three max_four min_four strLss strGtr strLeq strGeq   -- for this text's walks alone
set_option linter.unusedVariables false
set_option linter.unusedSimpArgs false

attribute [local go_sem high] eqA80
/-! ### laws_FnTakenOnce: function 14 -/
mutual
def laws_FnTakenOnce.j0 : Nat → List Int → List Int → List Int → Bool → List Int → Bool → Bool → Int → Int → Option (Bool)
  | 0, _, _, _, _, _, _, _, _, _ => none
  | k + 1, x1, x5, x6, x8, x12, x13, x84, x301000, x301001 => if x84 = true then (some false) else (if x8 = true then ((impl_GoodWindow.f x301000 x301001).bind fun t318 => (if t318 = true then (if x13 = true then (laws_FnTakenOnce.j1 k x1 x5 x6 x12 ((x6.length : Int) != (x12.length : Int))) else (laws_FnTakenOnce.j1 k x1 x5 x6 x12 true)) else (laws_FnTakenOnce.j1 k x1 x5 x6 x12 true))) else (laws_FnTakenOnce.j5 k x1))
def laws_FnTakenOnce.j5 : Nat → List Int → Option (Bool)
  | 0, _ => none
  | k + 1, x1 => (spec_DrawTakeNumber.f k x1).bind fun bt327 => ((impl_TakeNumber.f bt327.1 bt327.2.1 bt327.2.2).bind fun bt331 => ((spec_TakeNumber.f k bt327.1 bt327.2.1 bt327.2.2).bind fun bt336 => (if (bt331.2.2.2 != bt336.2.2.2) = true then (laws_FnTakenOnce.j6 k bt327.2.2 bt331.2.2.2 true bt327.1 bt327.2.1 bt331.1 bt331.2.1) else (if bt331.2.2.1 = bt336.2.2.1 then (if (!(bt331.1 == bt336.1) || (!(bt331.2.1 == bt336.2.1))) = true then (laws_FnTakenOnce.j6 k bt327.2.2 bt331.2.2.2 true bt327.1 bt327.2.1 bt331.1 bt331.2.1) else ((impl_GoodWindow.f bt327.1 bt327.2.1).bind fun t341 => ((spec_GoodWindow.f k bt327.1 bt327.2.1).bind fun t342 => (laws_FnTakenOnce.j6 k bt327.2.2 bt331.2.2.2 (t341 != t342) bt327.1 bt327.2.1 bt331.1 bt331.2.1)))) else (laws_FnTakenOnce.j6 k bt327.2.2 bt331.2.2.2 true bt327.1 bt327.2.1 bt331.1 bt331.2.1)))))
def laws_FnTakenOnce.j6 : Nat → Int → Bool → Bool → Int → Int → Int → Int → Option (Bool)
  | 0, _, _, _, _, _, _, _ => none
  | k + 1, x20, x23, x195, x331000, x331001, x336000, x336001 => if x195 = true then (some false) else (if x23 = true then ((impl_TakeNumber.f x336000 x336001 x20).bind fun bt343 => ((impl_GoodWindow.f x336000 x336001).bind fun t348 => (if t348 = true then (if bt343.2.2.2 = true then (if bt343.2.2.1 > 0 then (if (bt343.1 == x336000 && (bt343.2.1 == x336001)) = true then (some (decide (x336000 ≥ x331000))) else (some false)) else (some false)) else (some false)) else (some false)))) else (some true))
def laws_FnTakenOnce.j1 : Nat → List Int → List Int → List Int → List Int → Bool → Option (Bool)
  | 0, _, _, _, _, _ => none
  | k + 1, x1, x5, x6, x12, x99 => if x99 = true then (some false) else (laws_FnTakenOnce.l0 k x1 x5 x6 x12 (x5.length : Int) 0)
def laws_FnTakenOnce.l0 : Nat → List Int → List Int → List Int → List Int → Int → Int → Option (Bool)
  | 0, _, _, _, _, _, _ => none
  | k + 1, x1, x5, x6, x12, x101, x102 => if x102 < x101 then (if 0 ≤ x102 then (if x102 < (x5.length : Int) then (if x102 < (x6.length : Int) then (if x102 < (x12.length : Int) then (if (rd x6 x102) = (rd x12 x102) then (laws_FnTakenOnce.j3 k x1 x5 x6 x12 x102 (rd x5 x102) x101 x102 false) else (if (rd x12 x102) = 1 then (laws_FnTakenOnce.j3 k x1 x5 x6 x12 x102 (rd x5 x102) x101 x102 (!((rd x6 x102) == 2))) else (laws_FnTakenOnce.j3 k x1 x5 x6 x12 x102 (rd x5 x102) x101 x102 (!false)))) else (none)) else (none)) else (none)) else (none)) else (laws_FnTakenOnce.j5 k x1)
def laws_FnTakenOnce.j3 : Nat → List Int → List Int → List Int → List Int → Int → Int → Int → Int → Bool → Option (Bool)
  | 0, _, _, _, _, _, _, _, _, _ => none
  | k + 1, x1, x5, x6, x12, x16, x17, x101, x102, x130 => if x130 = true then (some false) else (laws_FnTakenOnce.l1 k x1 x5 x6 x12 x16 x17 0 x101 x102)
def laws_FnTakenOnce.l1 : Nat → List Int → List Int → List Int → List Int → Int → Int → Int → Int → Int → Option (Bool)
  | 0, _, _, _, _, _, _, _, _, _ => none
  | k + 1, x1, x5, x6, x12, x16, x17, x18, x101, x102 => if x18 < x16 then (if 0 ≤ x18 then (if x18 < (x5.length : Int) then (if (rd x5 x18) = x17 then (if x18 < (x6.length : Int) then (if (rd x6 x18) = 0 then (if 0 ≤ x16 then (if x16 < (x6.length : Int) then (if (rd x6 x16) = 0 then (some false) else (laws_FnTakenOnce.l1 k x1 x5 x6 x12 x16 x17 (wrap64 (x18 + 1)) x101 x102)) else (none)) else (none)) else (laws_FnTakenOnce.l1 k x1 x5 x6 x12 x16 x17 (wrap64 (x18 + 1)) x101 x102)) else (none)) else (laws_FnTakenOnce.l1 k x1 x5 x6 x12 x16 x17 (wrap64 (x18 + 1)) x101 x102)) else (none)) else (none)) else (laws_FnTakenOnce.l0 k x1 x5 x6 x12 x101 (wrap64 (x102 + 1)))
end
def laws_FnTakenOnce.f (k : Nat) (l0 : List Int) (l1 : List Int) : Option (Bool) := if (wrap64 ((l0.length : Int) + (l1.length : Int))) > 1048576 then (some true) else ((spec_DrawPlayNumbers.f k l0).bind fun t291 => ((impl_PlayNumbers.f k t291).bind fun bt294 => ((spec_PlayNumbers.f k t291).bind fun bt301 => ((impl_PlayAll.f k t291).bind fun bt308 => ((spec_PlayAll.f k t291).bind fun bt312 => (if (bt294.2.2.2 != bt301.2.2.2) = true then (laws_FnTakenOnce.j0 k l1 t291 bt294.1 bt294.2.2.2 bt308.1 bt308.2 true bt294.2.1 bt294.2.2.1) else ((laws_sameInts.f k bt294.1 bt301.1).bind fun t316 => (if t316 = true then (if (!(bt294.2.1 == bt301.2.1) || (!(bt294.2.2.1 == bt301.2.2.1))) = true then (laws_FnTakenOnce.j0 k l1 t291 bt294.1 bt294.2.2.2 bt308.1 bt308.2 true bt294.2.1 bt294.2.2.1) else (if (bt308.2 != bt312.2) = true then (laws_FnTakenOnce.j0 k l1 t291 bt294.1 bt294.2.2.2 bt308.1 bt308.2 true bt294.2.1 bt294.2.2.1) else ((laws_sameInts.f k bt308.1 bt312.1).bind fun t317 => (laws_FnTakenOnce.j0 k l1 t291 bt294.1 bt294.2.2.2 bt308.1 bt308.2 (!t317) bt294.2.1 bt294.2.2.1)))) else (laws_FnTakenOnce.j0 k l1 t291 bt294.1 bt294.2.2.2 bt308.1 bt308.2 true bt294.2.1 bt294.2.2.1)))))))))
theorem laws_FnTakenOnce.mono_l : ∀ k, (∀ y0 y1 y2 y3 y4 y5 y6 y7 y8, LeO (laws_FnTakenOnce.j0 k y0 y1 y2 y3 y4 y5 y6 y7 y8) (laws_FnTakenOnce.j0 (k + 1) y0 y1 y2 y3 y4 y5 y6 y7 y8)) ∧ (∀ y0, LeO (laws_FnTakenOnce.j5 k y0) (laws_FnTakenOnce.j5 (k + 1) y0)) ∧ (∀ y0 y1 y2 y3 y4 y5 y6, LeO (laws_FnTakenOnce.j6 k y0 y1 y2 y3 y4 y5 y6) (laws_FnTakenOnce.j6 (k + 1) y0 y1 y2 y3 y4 y5 y6)) ∧ (∀ y0 y1 y2 y3 y4, LeO (laws_FnTakenOnce.j1 k y0 y1 y2 y3 y4) (laws_FnTakenOnce.j1 (k + 1) y0 y1 y2 y3 y4)) ∧ (∀ y0 y1 y2 y3 y4 y5, LeO (laws_FnTakenOnce.l0 k y0 y1 y2 y3 y4 y5) (laws_FnTakenOnce.l0 (k + 1) y0 y1 y2 y3 y4 y5)) ∧ (∀ y0 y1 y2 y3 y4 y5 y6 y7 y8, LeO (laws_FnTakenOnce.j3 k y0 y1 y2 y3 y4 y5 y6 y7 y8) (laws_FnTakenOnce.j3 (k + 1) y0 y1 y2 y3 y4 y5 y6 y7 y8)) ∧ (∀ y0 y1 y2 y3 y4 y5 y6 y7 y8, LeO (laws_FnTakenOnce.l1 k y0 y1 y2 y3 y4 y5 y6 y7 y8) (laws_FnTakenOnce.l1 (k + 1) y0 y1 y2 y3 y4 y5 y6 y7 y8))
 | 0 => ⟨fun _ _ _ _ _ _ _ _ _ r h => by simp [laws_FnTakenOnce.j0] at h, fun _ r h => by simp [laws_FnTakenOnce.j5] at h, fun _ _ _ _ _ _ _ r h => by simp [laws_FnTakenOnce.j6] at h, fun _ _ _ _ _ r h => by simp [laws_FnTakenOnce.j1] at h, fun _ _ _ _ _ _ r h => by simp [laws_FnTakenOnce.l0] at h, fun _ _ _ _ _ _ _ _ _ r h => by simp [laws_FnTakenOnce.j3] at h, fun _ _ _ _ _ _ _ _ _ r h => by simp [laws_FnTakenOnce.l1] at h⟩
 | k + 1 => by
  obtain ⟨ih0, ih1, ih2, ih3, ih4, ih5, ih6⟩ := laws_FnTakenOnce.mono_l k
  refine ⟨?_, ?_, ?_, ?_, ?_, ?_, ?_⟩
  ·intro y0 y1 y2 y3 y4 y5 y6 y7 y8
   unfold laws_FnTakenOnce.j0
   repeat' (first | (with_reducible first | exact ih0 _ _ _ _ _ _ _ _ _ | exact ih1 _ | exact ih2 _ _ _ _ _ _ _ | exact ih3 _ _ _ _ _ | exact ih4 _ _ _ _ _ _ | exact ih5 _ _ _ _ _ _ _ _ _ | exact ih6 _ _ _ _ _ _ _ _ _ | exact impl_PlayAll.mono _ _ | exact impl_PlayNumbers.mono _ _ | exact laws_sameInts.mono _ _ _ | exact spec_DrawPlayNumbers.mono _ _ | exact spec_DrawTakeNumber.mono _ _ | exact spec_GoodWindow.mono _ _ _ | exact spec_PlayAll.mono _ _ | exact spec_PlayNumbers.mono _ _ | exact spec_TakeNumber.mono _ _ _ _ | exact LeO.refl _ | exact LeO.none _ | refine LeO.ite ?_ ?_ | refine LeO.bind ?_ (fun _ => ?_)) | exact ih0 _ _ _ _ _ _ _ _ _ | exact ih1 _ | exact ih2 _ _ _ _ _ _ _ | exact ih3 _ _ _ _ _ | exact ih4 _ _ _ _ _ _ | exact ih5 _ _ _ _ _ _ _ _ _ | exact ih6 _ _ _ _ _ _ _ _ _ | exact impl_PlayAll.mono _ _ | exact impl_PlayNumbers.mono _ _ | exact laws_sameInts.mono _ _ _ | exact spec_DrawPlayNumbers.mono _ _ | exact spec_DrawTakeNumber.mono _ _ | exact spec_GoodWindow.mono _ _ _ | exact spec_PlayAll.mono _ _ | exact spec_PlayNumbers.mono _ _ | exact spec_TakeNumber.mono _ _ _ _ | exact LeO.none _ | refine LeO.ite ?_ ?_ | refine LeO.bind ?_ (fun _ => ?_))
  ·intro y0
   unfold laws_FnTakenOnce.j5
   repeat' (first | (with_reducible first | exact ih0 _ _ _ _ _ _ _ _ _ | exact ih1 _ | exact ih2 _ _ _ _ _ _ _ | exact ih3 _ _ _ _ _ | exact ih4 _ _ _ _ _ _ | exact ih5 _ _ _ _ _ _ _ _ _ | exact ih6 _ _ _ _ _ _ _ _ _ | exact impl_PlayAll.mono _ _ | exact impl_PlayNumbers.mono _ _ | exact laws_sameInts.mono _ _ _ | exact spec_DrawPlayNumbers.mono _ _ | exact spec_DrawTakeNumber.mono _ _ | exact spec_GoodWindow.mono _ _ _ | exact spec_PlayAll.mono _ _ | exact spec_PlayNumbers.mono _ _ | exact spec_TakeNumber.mono _ _ _ _ | exact LeO.refl _ | exact LeO.none _ | refine LeO.ite ?_ ?_ | refine LeO.bind ?_ (fun _ => ?_)) | exact ih0 _ _ _ _ _ _ _ _ _ | exact ih1 _ | exact ih2 _ _ _ _ _ _ _ | exact ih3 _ _ _ _ _ | exact ih4 _ _ _ _ _ _ | exact ih5 _ _ _ _ _ _ _ _ _ | exact ih6 _ _ _ _ _ _ _ _ _ | exact impl_PlayAll.mono _ _ | exact impl_PlayNumbers.mono _ _ | exact laws_sameInts.mono _ _ _ | exact spec_DrawPlayNumbers.mono _ _ | exact spec_DrawTakeNumber.mono _ _ | exact spec_GoodWindow.mono _ _ _ | exact spec_PlayAll.mono _ _ | exact spec_PlayNumbers.mono _ _ | exact spec_TakeNumber.mono _ _ _ _ | exact LeO.none _ | refine LeO.ite ?_ ?_ | refine LeO.bind ?_ (fun _ => ?_))
  ·intro y0 y1 y2 y3 y4 y5 y6
   unfold laws_FnTakenOnce.j6
   repeat' (first | (with_reducible first | exact ih0 _ _ _ _ _ _ _ _ _ | exact ih1 _ | exact ih2 _ _ _ _ _ _ _ | exact ih3 _ _ _ _ _ | exact ih4 _ _ _ _ _ _ | exact ih5 _ _ _ _ _ _ _ _ _ | exact ih6 _ _ _ _ _ _ _ _ _ | exact impl_PlayAll.mono _ _ | exact impl_PlayNumbers.mono _ _ | exact laws_sameInts.mono _ _ _ | exact spec_DrawPlayNumbers.mono _ _ | exact spec_DrawTakeNumber.mono _ _ | exact spec_GoodWindow.mono _ _ _ | exact spec_PlayAll.mono _ _ | exact spec_PlayNumbers.mono _ _ | exact spec_TakeNumber.mono _ _ _ _ | exact LeO.refl _ | exact LeO.none _ | refine LeO.ite ?_ ?_ | refine LeO.bind ?_ (fun _ => ?_)) | exact ih0 _ _ _ _ _ _ _ _ _ | exact ih1 _ | exact ih2 _ _ _ _ _ _ _ | exact ih3 _ _ _ _ _ | exact ih4 _ _ _ _ _ _ | exact ih5 _ _ _ _ _ _ _ _ _ | exact ih6 _ _ _ _ _ _ _ _ _ | exact impl_PlayAll.mono _ _ | exact impl_PlayNumbers.mono _ _ | exact laws_sameInts.mono _ _ _ | exact spec_DrawPlayNumbers.mono _ _ | exact spec_DrawTakeNumber.mono _ _ | exact spec_GoodWindow.mono _ _ _ | exact spec_PlayAll.mono _ _ | exact spec_PlayNumbers.mono _ _ | exact spec_TakeNumber.mono _ _ _ _ | exact LeO.none _ | refine LeO.ite ?_ ?_ | refine LeO.bind ?_ (fun _ => ?_))
  ·intro y0 y1 y2 y3 y4
   unfold laws_FnTakenOnce.j1
   repeat' (first | (with_reducible first | exact ih0 _ _ _ _ _ _ _ _ _ | exact ih1 _ | exact ih2 _ _ _ _ _ _ _ | exact ih3 _ _ _ _ _ | exact ih4 _ _ _ _ _ _ | exact ih5 _ _ _ _ _ _ _ _ _ | exact ih6 _ _ _ _ _ _ _ _ _ | exact impl_PlayAll.mono _ _ | exact impl_PlayNumbers.mono _ _ | exact laws_sameInts.mono _ _ _ | exact spec_DrawPlayNumbers.mono _ _ | exact spec_DrawTakeNumber.mono _ _ | exact spec_GoodWindow.mono _ _ _ | exact spec_PlayAll.mono _ _ | exact spec_PlayNumbers.mono _ _ | exact spec_TakeNumber.mono _ _ _ _ | exact LeO.refl _ | exact LeO.none _ | refine LeO.ite ?_ ?_ | refine LeO.bind ?_ (fun _ => ?_)) | exact ih0 _ _ _ _ _ _ _ _ _ | exact ih1 _ | exact ih2 _ _ _ _ _ _ _ | exact ih3 _ _ _ _ _ | exact ih4 _ _ _ _ _ _ | exact ih5 _ _ _ _ _ _ _ _ _ | exact ih6 _ _ _ _ _ _ _ _ _ | exact impl_PlayAll.mono _ _ | exact impl_PlayNumbers.mono _ _ | exact laws_sameInts.mono _ _ _ | exact spec_DrawPlayNumbers.mono _ _ | exact spec_DrawTakeNumber.mono _ _ | exact spec_GoodWindow.mono _ _ _ | exact spec_PlayAll.mono _ _ | exact spec_PlayNumbers.mono _ _ | exact spec_TakeNumber.mono _ _ _ _ | exact LeO.none _ | refine LeO.ite ?_ ?_ | refine LeO.bind ?_ (fun _ => ?_))
  ·intro y0 y1 y2 y3 y4 y5
   unfold laws_FnTakenOnce.l0
   repeat' (first | (with_reducible first | exact ih0 _ _ _ _ _ _ _ _ _ | exact ih1 _ | exact ih2 _ _ _ _ _ _ _ | exact ih3 _ _ _ _ _ | exact ih4 _ _ _ _ _ _ | exact ih5 _ _ _ _ _ _ _ _ _ | exact ih6 _ _ _ _ _ _ _ _ _ | exact impl_PlayAll.mono _ _ | exact impl_PlayNumbers.mono _ _ | exact laws_sameInts.mono _ _ _ | exact spec_DrawPlayNumbers.mono _ _ | exact spec_DrawTakeNumber.mono _ _ | exact spec_GoodWindow.mono _ _ _ | exact spec_PlayAll.mono _ _ | exact spec_PlayNumbers.mono _ _ | exact spec_TakeNumber.mono _ _ _ _ | exact LeO.refl _ | exact LeO.none _ | refine LeO.ite ?_ ?_ | refine LeO.bind ?_ (fun _ => ?_)) | exact ih0 _ _ _ _ _ _ _ _ _ | exact ih1 _ | exact ih2 _ _ _ _ _ _ _ | exact ih3 _ _ _ _ _ | exact ih4 _ _ _ _ _ _ | exact ih5 _ _ _ _ _ _ _ _ _ | exact ih6 _ _ _ _ _ _ _ _ _ | exact impl_PlayAll.mono _ _ | exact impl_PlayNumbers.mono _ _ | exact laws_sameInts.mono _ _ _ | exact spec_DrawPlayNumbers.mono _ _ | exact spec_DrawTakeNumber.mono _ _ | exact spec_GoodWindow.mono _ _ _ | exact spec_PlayAll.mono _ _ | exact spec_PlayNumbers.mono _ _ | exact spec_TakeNumber.mono _ _ _ _ | exact LeO.none _ | refine LeO.ite ?_ ?_ | refine LeO.bind ?_ (fun _ => ?_))
  ·intro y0 y1 y2 y3 y4 y5 y6 y7 y8
   unfold laws_FnTakenOnce.j3
   repeat' (first | (with_reducible first | exact ih0 _ _ _ _ _ _ _ _ _ | exact ih1 _ | exact ih2 _ _ _ _ _ _ _ | exact ih3 _ _ _ _ _ | exact ih4 _ _ _ _ _ _ | exact ih5 _ _ _ _ _ _ _ _ _ | exact ih6 _ _ _ _ _ _ _ _ _ | exact impl_PlayAll.mono _ _ | exact impl_PlayNumbers.mono _ _ | exact laws_sameInts.mono _ _ _ | exact spec_DrawPlayNumbers.mono _ _ | exact spec_DrawTakeNumber.mono _ _ | exact spec_GoodWindow.mono _ _ _ | exact spec_PlayAll.mono _ _ | exact spec_PlayNumbers.mono _ _ | exact spec_TakeNumber.mono _ _ _ _ | exact LeO.refl _ | exact LeO.none _ | refine LeO.ite ?_ ?_ | refine LeO.bind ?_ (fun _ => ?_)) | exact ih0 _ _ _ _ _ _ _ _ _ | exact ih1 _ | exact ih2 _ _ _ _ _ _ _ | exact ih3 _ _ _ _ _ | exact ih4 _ _ _ _ _ _ | exact ih5 _ _ _ _ _ _ _ _ _ | exact ih6 _ _ _ _ _ _ _ _ _ | exact impl_PlayAll.mono _ _ | exact impl_PlayNumbers.mono _ _ | exact laws_sameInts.mono _ _ _ | exact spec_DrawPlayNumbers.mono _ _ | exact spec_DrawTakeNumber.mono _ _ | exact spec_GoodWindow.mono _ _ _ | exact spec_PlayAll.mono _ _ | exact spec_PlayNumbers.mono _ _ | exact spec_TakeNumber.mono _ _ _ _ | exact LeO.none _ | refine LeO.ite ?_ ?_ | refine LeO.bind ?_ (fun _ => ?_))
  ·intro y0 y1 y2 y3 y4 y5 y6 y7 y8
   unfold laws_FnTakenOnce.l1
   repeat' (first | (with_reducible first | exact ih0 _ _ _ _ _ _ _ _ _ | exact ih1 _ | exact ih2 _ _ _ _ _ _ _ | exact ih3 _ _ _ _ _ | exact ih4 _ _ _ _ _ _ | exact ih5 _ _ _ _ _ _ _ _ _ | exact ih6 _ _ _ _ _ _ _ _ _ | exact impl_PlayAll.mono _ _ | exact impl_PlayNumbers.mono _ _ | exact laws_sameInts.mono _ _ _ | exact spec_DrawPlayNumbers.mono _ _ | exact spec_DrawTakeNumber.mono _ _ | exact spec_GoodWindow.mono _ _ _ | exact spec_PlayAll.mono _ _ | exact spec_PlayNumbers.mono _ _ | exact spec_TakeNumber.mono _ _ _ _ | exact LeO.refl _ | exact LeO.none _ | refine LeO.ite ?_ ?_ | refine LeO.bind ?_ (fun _ => ?_)) | exact ih0 _ _ _ _ _ _ _ _ _ | exact ih1 _ | exact ih2 _ _ _ _ _ _ _ | exact ih3 _ _ _ _ _ | exact ih4 _ _ _ _ _ _ | exact ih5 _ _ _ _ _ _ _ _ _ | exact ih6 _ _ _ _ _ _ _ _ _ | exact impl_PlayAll.mono _ _ | exact impl_PlayNumbers.mono _ _ | exact laws_sameInts.mono _ _ _ | exact spec_DrawPlayNumbers.mono _ _ | exact spec_DrawTakeNumber.mono _ _ | exact spec_GoodWindow.mono _ _ _ | exact spec_PlayAll.mono _ _ | exact spec_PlayNumbers.mono _ _ | exact spec_TakeNumber.mono _ _ _ _ | exact LeO.none _ | refine LeO.ite ?_ ?_ | refine LeO.bind ?_ (fun _ => ?_))
theorem laws_FnTakenOnce.mono : ∀ a0 a1 k, LeO (laws_FnTakenOnce.f k a0 a1) (laws_FnTakenOnce.f (k + 1) a0 a1) := by
 intro a0 a1 k
 obtain ⟨ih0, ih1, ih2, ih3, ih4, ih5, ih6⟩ := laws_FnTakenOnce.mono_l k
 unfold laws_FnTakenOnce.f
 repeat' (first | (with_reducible first | exact ih0 _ _ _ _ _ _ _ _ _ | exact ih1 _ | exact ih2 _ _ _ _ _ _ _ | exact ih3 _ _ _ _ _ | exact ih4 _ _ _ _ _ _ | exact ih5 _ _ _ _ _ _ _ _ _ | exact ih6 _ _ _ _ _ _ _ _ _ | exact impl_PlayAll.mono _ _ | exact impl_PlayNumbers.mono _ _ | exact laws_sameInts.mono _ _ _ | exact spec_DrawPlayNumbers.mono _ _ | exact spec_DrawTakeNumber.mono _ _ | exact spec_GoodWindow.mono _ _ _ | exact spec_PlayAll.mono _ _ | exact spec_PlayNumbers.mono _ _ | exact spec_TakeNumber.mono _ _ _ _ | exact LeO.refl _ | exact LeO.none _ | refine LeO.ite ?_ ?_ | refine LeO.bind ?_ (fun _ => ?_)) | exact ih0 _ _ _ _ _ _ _ _ _ | exact ih1 _ | exact ih2 _ _ _ _ _ _ _ | exact ih3 _ _ _ _ _ | exact ih4 _ _ _ _ _ _ | exact ih5 _ _ _ _ _ _ _ _ _ | exact ih6 _ _ _ _ _ _ _ _ _ | exact impl_PlayAll.mono _ _ | exact impl_PlayNumbers.mono _ _ | exact laws_sameInts.mono _ _ _ | exact spec_DrawPlayNumbers.mono _ _ | exact spec_DrawTakeNumber.mono _ _ | exact spec_GoodWindow.mono _ _ _ | exact spec_PlayAll.mono _ _ | exact spec_PlayNumbers.mono _ _ | exact spec_TakeNumber.mono _ _ _ _ | exact LeO.none _ | refine LeO.ite ?_ ?_ | refine LeO.bind ?_ (fun _ => ?_))
def laws_FnTakenOnce.T16 : Bool × List (List Nat × List Nat) := (true, [([], []), ([], []), ([0, 1], [0, 1]), ([2], [2]), ([], []), ([], []), ([4, 5], [4, 5]), ([6], [6]), ([3, 7], [3, 7]), ([8], [8]), ([9], [9]), ([9], [9]), ([10, 11, 9], [9, 10, 11]), ([12, 9], [9, 12]), ([13, 9], [9, 13]), ([14, 9, 9], [9, 14]), ([15], [15]), ([15], [15]), ([16, 17, 15], [15, 16, 17]), ([18, 15], [15, 18]), ([19, 15], [15, 19]), ([15, 20, 9], [9, 15, 20]), ([21, 9], [9, 21]), ([9, 22], [9, 22])])
def laws_FnTakenOnce.B16 : List Nat := [0, 0, 3, 7, 0, 0, 48, 112, 255, 511, 1023, 1023, 4095, 8191, 16383, 32767, 65535, 65535, 262143, 524287, 1048575, 2097151, 4194303, 8388607]
theorem laws_FnTakenOnce.tab16 : rtab .any (opsOf Try.f14 16) = laws_FnTakenOnce.T16 := by kernel_rfl
theorem laws_FnTakenOnce.bits16 : waitsOk laws_FnTakenOnce.T16.2 laws_FnTakenOnce.B16 = true := by kernel_rfl
def laws_FnTakenOnce.T27 : Bool × List (List Nat × List Nat) := (true, [([], []), ([], []), ([0, 1], [0, 1]), ([2], [2]), ([3], [3]), ([3], [3]), ([4, 5, 3], [3, 4, 5]), ([3, 6], [3, 6]), ([7, 3], [7]), ([8], [8]), ([8], [8]), ([9, 10, 8], [8, 9, 10]), ([8, 11], [8, 11]), ([12, 8], [12]), ([13], [13]), ([14, 13, 13], [13, 14]), ([13], [13]), ([16, 15, 13], [13, 16]), ([15, 17, 13], [13, 15, 17]), ([13, 18], [13, 18])])
def laws_FnTakenOnce.B27 : List Nat := [0, 0, 3, 7, 15, 15, 63, 127, 255, 511, 511, 2047, 4095, 8191, 16383, 32767, 16383, 131071, 262143, 524287]
theorem laws_FnTakenOnce.tab27 : rtab .any (opsOf Try.f14 27) = laws_FnTakenOnce.T27 := by kernel_rfl
theorem laws_FnTakenOnce.bits27 : waitsOk laws_FnTakenOnce.T27.2 laws_FnTakenOnce.B27 = true := by kernel_rfl
set_option maxHeartbeats 40000000 in
set_option maxRecDepth 100000 in
theorem laws_FnTakenOnce.calls (k : Nat) (A0 : Option Addr) (c0 : Nat) (l0 : List Int) (A1 : Option Addr) (c1 : Nat) (l1 : List Int) (r : Bool) (w : World) (hr0 : Kd.C (Kd.int .u8) w A0 l0.length l0) (hc0 : l0.length ≤ c0) (hr1 : Kd.C (Kd.int .u8) w A1 l1.length l1) (hc1 : l1.length ≤ c1) (h : laws_FnTakenOnce.f k l0 l1 = some r) (hr_ : r = true) :
  Calls Try.prog 14 #[.slice A0 l0.length c0, .slice A1 l1.length c1] w fun e w' => e = .returned (.bool r) ∧ Below w.heap.size w w' := by
 have hu80 := Try.underlying80
 have HR0 := Aside0.mk hr0; have HC0 := Aside0.mk hc0; clear hr0 hc0; have HR1 := Aside0.mk hr1; have HC1 := Aside0.mk hc1; clear hr1 hc1
 have HB := Aside0.mk (Below.refl w.heap.size w)
 have H : (if (wrap64 ((l0.length : Int) + (l1.length : Int))) > 1048576 then (some true) else ((spec_DrawPlayNumbers.f k l0).bind fun t291 => ((impl_PlayNumbers.f k t291).bind fun bt294 => ((spec_PlayNumbers.f k t291).bind fun bt301 => ((impl_PlayAll.f k t291).bind fun bt308 => ((spec_PlayAll.f k t291).bind fun bt312 => (if (bt294.2.2.2 != bt301.2.2.2) = true then (laws_FnTakenOnce.j0 k l1 t291 bt294.1 bt294.2.2.2 bt308.1 bt308.2 true bt294.2.1 bt294.2.2.1) else ((laws_sameInts.f k bt294.1 bt301.1).bind fun t316 => (if t316 = true then (if (!(bt294.2.1 == bt301.2.1) || (!(bt294.2.2.1 == bt301.2.2.1))) = true then (laws_FnTakenOnce.j0 k l1 t291 bt294.1 bt294.2.2.2 bt308.1 bt308.2 true bt294.2.1 bt294.2.2.1) else (if (bt308.2 != bt312.2) = true then (laws_FnTakenOnce.j0 k l1 t291 bt294.1 bt294.2.2.2 bt308.1 bt308.2 true bt294.2.1 bt294.2.2.1) else ((laws_sameInts.f k bt308.1 bt312.1).bind fun t317 => (laws_FnTakenOnce.j0 k l1 t291 bt294.1 bt294.2.2.2 bt308.1 bt308.2 (!t317) bt294.2.1 bt294.2.2.1)))) else (laws_FnTakenOnce.j0 k l1 t291 bt294.1 bt294.2.2.2 bt308.1 bt308.2 true bt294.2.1 bt294.2.2.1)))))))))) = some r := h
 clear h
 by_cases c3 : (wrap64 ((l0.length : Int) + (l1.length : Int))) > 1048576
 ·rw [if_pos c3] at H
  have c3b0 : decide (1048576 < (wrap64 ((l0.length : Int) + (l1.length : Int)))) = true := decide_eq_true c3
  clear c3
  obtain rfl := Option.some.inj H
  go_enter Try.func14, Try.ntmps14
  go_wp2
  go_ret
  exact ⟨er2, belowd HB⟩
 ·rw [if_neg c3] at H
  have c3b0 : decide (1048576 < (wrap64 ((l0.length : Int) + (l1.length : Int)))) = false := decide_eq_false c3
  clear c3; replace H := bS H; obtain ⟨t291, A4, H⟩ := H
  replace H : ((impl_PlayNumbers.f k t291).bind fun bt294 => ((spec_PlayNumbers.f k t291).bind fun bt301 => ((impl_PlayAll.f k t291).bind fun bt308 => ((spec_PlayAll.f k t291).bind fun bt312 => (if (bt294.2.2.2 != bt301.2.2.2) = true then (laws_FnTakenOnce.j0 k l1 t291 bt294.1 bt294.2.2.2 bt308.1 bt308.2 true bt294.2.1 bt294.2.2.1) else ((laws_sameInts.f k bt294.1 bt301.1).bind fun t316 => (if t316 = true then (if (!(bt294.2.1 == bt301.2.1) || (!(bt294.2.2.1 == bt301.2.2.1))) = true then (laws_FnTakenOnce.j0 k l1 t291 bt294.1 bt294.2.2.2 bt308.1 bt308.2 true bt294.2.1 bt294.2.2.1) else (if (bt308.2 != bt312.2) = true then (laws_FnTakenOnce.j0 k l1 t291 bt294.1 bt294.2.2.2 bt308.1 bt308.2 true bt294.2.1 bt294.2.2.1) else ((laws_sameInts.f k bt308.1 bt312.1).bind fun t317 => (laws_FnTakenOnce.j0 k l1 t291 bt294.1 bt294.2.2.2 bt308.1 bt308.2 (!t317) bt294.2.1 bt294.2.2.1)))) else (laws_FnTakenOnce.j0 k l1 t291 bt294.1 bt294.2.2.2 bt308.1 bt308.2 true bt294.2.1 bt294.2.2.1)))))))) = some r := H
  replace H := bS H; obtain ⟨⟨t294, t297, t298, t299⟩, A5, H⟩ := H
  replace H : ((spec_PlayNumbers.f k t291).bind fun bt301 => ((impl_PlayAll.f k t291).bind fun bt308 => ((spec_PlayAll.f k t291).bind fun bt312 => (if (t299 != bt301.2.2.2) = true then (laws_FnTakenOnce.j0 k l1 t291 t294 t299 bt308.1 bt308.2 true t297 t298) else ((laws_sameInts.f k t294 bt301.1).bind fun t316 => (if t316 = true then (if (!(t297 == bt301.2.1) || (!(t298 == bt301.2.2.1))) = true then (laws_FnTakenOnce.j0 k l1 t291 t294 t299 bt308.1 bt308.2 true t297 t298) else (if (bt308.2 != bt312.2) = true then (laws_FnTakenOnce.j0 k l1 t291 t294 t299 bt308.1 bt308.2 true t297 t298) else ((laws_sameInts.f k bt308.1 bt312.1).bind fun t317 => (laws_FnTakenOnce.j0 k l1 t291 t294 t299 bt308.1 bt308.2 (!t317) t297 t298)))) else (laws_FnTakenOnce.j0 k l1 t291 t294 t299 bt308.1 bt308.2 true t297 t298))))))) = some r := H
  replace H := bS H; obtain ⟨⟨t301, t304, t305, t306⟩, A6, H⟩ := H
  replace H : ((impl_PlayAll.f k t291).bind fun bt308 => ((spec_PlayAll.f k t291).bind fun bt312 => (if (t299 != t306) = true then (laws_FnTakenOnce.j0 k l1 t291 t294 t299 bt308.1 bt308.2 true t297 t298) else ((laws_sameInts.f k t294 t301).bind fun t316 => (if t316 = true then (if (!(t297 == t304) || (!(t298 == t305))) = true then (laws_FnTakenOnce.j0 k l1 t291 t294 t299 bt308.1 bt308.2 true t297 t298) else (if (bt308.2 != bt312.2) = true then (laws_FnTakenOnce.j0 k l1 t291 t294 t299 bt308.1 bt308.2 true t297 t298) else ((laws_sameInts.f k bt308.1 bt312.1).bind fun t317 => (laws_FnTakenOnce.j0 k l1 t291 t294 t299 bt308.1 bt308.2 (!t317) t297 t298)))) else (laws_FnTakenOnce.j0 k l1 t291 t294 t299 bt308.1 bt308.2 true t297 t298)))))) = some r := H
  replace H := bS H; obtain ⟨⟨t308, t309⟩, A7, H⟩ := H
  replace H : ((spec_PlayAll.f k t291).bind fun bt312 => (if (t299 != t306) = true then (laws_FnTakenOnce.j0 k l1 t291 t294 t299 t308 t309 true t297 t298) else ((laws_sameInts.f k t294 t301).bind fun t316 => (if t316 = true then (if (!(t297 == t304) || (!(t298 == t305))) = true then (laws_FnTakenOnce.j0 k l1 t291 t294 t299 t308 t309 true t297 t298) else (if (t309 != bt312.2) = true then (laws_FnTakenOnce.j0 k l1 t291 t294 t299 t308 t309 true t297 t298) else ((laws_sameInts.f k t308 bt312.1).bind fun t317 => (laws_FnTakenOnce.j0 k l1 t291 t294 t299 t308 t309 (!t317) t297 t298)))) else (laws_FnTakenOnce.j0 k l1 t291 t294 t299 t308 t309 true t297 t298))))) = some r := H
  replace H := bS H; obtain ⟨⟨t312, t313⟩, A8, H⟩ := H
  replace H : (if (t299 != t306) = true then (laws_FnTakenOnce.j0 k l1 t291 t294 t299 t308 t309 true t297 t298) else ((laws_sameInts.f k t294 t301).bind fun t316 => (if t316 = true then (if (!(t297 == t304) || (!(t298 == t305))) = true then (laws_FnTakenOnce.j0 k l1 t291 t294 t299 t308 t309 true t297 t298) else (if (t309 != t313) = true then (laws_FnTakenOnce.j0 k l1 t291 t294 t299 t308 t309 true t297 t298) else ((laws_sameInts.f k t308 t312).bind fun t317 => (laws_FnTakenOnce.j0 k l1 t291 t294 t299 t308 t309 (!t317) t297 t298)))) else (laws_FnTakenOnce.j0 k l1 t291 t294 t299 t308 t309 true t297 t298)))) = some r := H
  have HC9 := Aside0.mk H; clear H
  go_enter Try.func14, Try.ntmps14
  go_upto_region 8 with (first | ((with_reducible refine gate_callee (f := 82) rfl ?_); refine goesLa (some 37) rfl Try.func82 #[.slice A0 l0.length c0] rfl ?_; (with_reducible refine (spec_DrawPlayNumbers.calls k _ _ l0 t291 _ ?side1 ?side2 A4.out).mono ?_); (case side1 => exact cd HR0.out); (case side2 => exact HC0.out); rintro e w10 ⟨v292, rfl, ho0, hb⟩; refine ⟨_, rfl, ?_⟩; have HO293 := ak (Kd.R_lower ho0 (below_size (belowd HB))); replace HB := ak (below_step (belowd HB) hb); (try clear hb); (try clear ho0); obtain ⟨Ao11, co11, eo11⟩ := Kd.R_slice HO293.out; subst eo11) | ((with_reducible refine gate_callee (f := 83) rfl ?_); refine goesLa (some 40) rfl Try.func83 #[.slice Ao11 t291.length co11] rfl ?_; (with_reducible refine (impl_PlayNumbers.calls k _ _ t291 t294 t297 t298 t299 _ ?side1 ?side2 A5.out).mono ?_); (case side1 => exact cd (Kd.R_reads' HO293.out).2.2); (case side2 => exact (Kd.R_reads' HO293.out).2.1); rintro e w12 ⟨v295, rfl, ho0, hb⟩; refine ⟨_, rfl, ?_⟩; have HO296 := ak (Kd.R_lower (Kd.R_new' ho0 (Kd.R_lt (rdl HO293))) (below_size (belowd HB))); replace HO293 := ak (Kd.R_elder' (rdl HO293) (Kd.R_base ho0) hb); replace HB := ak (below_step (belowd HB) hb); (try clear hb); (try clear ho0)) | ((with_reducible refine gate_dst (N := 7) rfl ?_); (try (refine gate_guard (by rfl) ?_; dsimp only)); refine boxev 7 #[.int .i64 0, .int .i64 0] 80 ?_; intro gb300 hg w13 hbox hb; replace HO293 := ak (Kd.R_below (rdl HO293) hb); replace HO296 := ak (Kd.R_below (rdl HO296) hb); have BK300 := ak (hbox); have GW300 := ak (hgl hg (belowd HB)); have GE300 := ak (hgl hg (belowd HB)); replace HB := ak (below_step (belowd HB) hb); clear hb hbox hg; obtain ⟨hcz14_0, hcz14_1, hfz14_0, hfz14_1⟩ := box2 BK300) | ((with_reducible refine gate_callee (f := 84) rfl ?_); refine goesLa (some 46) rfl Try.func84 #[.slice Ao11 t291.length co11] rfl ?_; (with_reducible refine (spec_PlayNumbers.calls k _ _ t291 t301 t304 t305 t306 _ ?side1 ?side2 A6.out).mono ?_); (case side1 => refine (Kd.R_reads' (e := 3) (base := w.heap.size) (ok := fun k_ => (True ∧ some k_ ≠ (v295 : Value).ownBlock)) (n := t291.length) (c := co11) ?_).2.2; exact (by (with_reducible repeat (first | apply Kd.R_alloc | apply Kd.R_drewN | apply Kd.R_drew)); exact (Kd.R_mono (farsR (Kd.R_types HO293.out BK300.out (by decide))) (fun _ h_ => h_.1)))); (case side2 => exact (Kd.R_reads' HO293.out).2.1); rintro e w15 ⟨v302, rfl, ho0, hb⟩; refine ⟨_, rfl, ?_⟩; have HO303 := ak (Kd.R_lower (Kd.R_new' (Kd.R_new' ho0 (Kd.R_lt (by (with_reducible repeat (first | apply Kd.R_alloc | apply Kd.R_drewN | apply Kd.R_drew)); exact (Kd.R_mono (farsR (Kd.R_types HO293.out BK300.out (by decide))) (fun _ h_ => h_.1))))) (Kd.R_lt (by (with_reducible repeat (first | apply Kd.R_alloc | apply Kd.R_drewN | apply Kd.R_drew)); exact (Kd.R_mono (farsR (Kd.R_types HO296.out BK300.out (by decide))) (fun _ h_ => h_.1))))) (below_size (belowg1 HB GE300))); replace HO293 := ak (Kd.R_elder' (by (with_reducible repeat (first | apply Kd.R_alloc | apply Kd.R_drewN | apply Kd.R_drew)); exact (Kd.R_mono (farsR (Kd.R_types HO293.out BK300.out (by decide))) (fun _ h_ => h_.1))) (Kd.R_base ho0) hb); replace HO296 := ak (Kd.R_elder' (by (with_reducible repeat (first | apply Kd.R_alloc | apply Kd.R_drewN | apply Kd.R_drew)); exact (Kd.R_mono (farsR (Kd.R_types HO296.out BK300.out (by decide))) (fun _ h_ => h_.1))) (Kd.R_base ho0) hb); replace BK300 := ak (blk_below (g := gb300) (o := .cells #[.int .i64 t297, .int .i64 t298] 80 (0, 0)) (by (with_reducible repeat (first | refine blk_drewN ?_ _ | refine blk_drew ?_ | refine blk_alloc ?_ _)); refine blk_put (cs := #[.int .i64 t297, .int .i64 0]) ?_ 1 _ rfl; (with_reducible repeat (first | refine blk_drewN ?_ _ | refine blk_drew ?_ | refine blk_alloc ?_ _)); refine blk_put (cs := #[.int .i64 0, .int .i64 0]) ?_ 0 _ rfl; (with_reducible repeat (first | refine blk_drewN ?_ _ | refine blk_drew ?_ | refine blk_alloc ?_ _)); exact BK300.out) hb); replace HB := ak (below_step (belowg1 HB GE300) hb); (try clear hb); (try clear ho0)) | ((with_reducible refine gate_dst (N := 10) rfl ?_); (try (refine gate_guard (by rfl) ?_; dsimp only)); refine boxev 10 #[.int .i64 0, .int .i64 0] 80 ?_; intro gb307 hg w16 hbox hb; replace HO293 := ak (Kd.R_below (rdl HO293) hb); replace HO296 := ak (Kd.R_below (rdl HO296) hb); replace HO303 := ak (Kd.R_below (rdl HO303) hb); have BK307 := ak (hbox); have GW307 := ak (hgl hg (belowg1 HB GE300)); have GE307 := ak (hgl hg (belowg1 HB GE300)); replace HB := ak (below_step (belowg1 HB GE300) hb); have NB300_307 := ak ((by rw [hg]; exact Nat.ne_of_lt (blk_lt (blkd BK300)) : gb300 ≠ gb307)); have NB307_300 := ak ((by rw [hg]; exact Nat.ne_of_gt (blk_lt (blkd BK300)) : gb307 ≠ gb300)); replace BK300 := ak (blk_below (blkd BK300) hb); clear hb hbox hg; have hnb17 := NB307_300.out; have hnc17 := NB300_307.out; obtain ⟨hcz18_0, hcz18_1, hfz18_0, hfz18_1⟩ := box2 BK307) | ((with_reducible refine gate_callee (f := 85) rfl ?_); refine goesLa (some 52) rfl Try.func85 #[.slice Ao11 t291.length co11] rfl ?_; (with_reducible refine (impl_PlayAll.calls k _ _ t291 t308 t309 _ ?side1 ?side2 A7.out).mono ?_); (case side1 => refine (Kd.R_reads' (e := 3) (base := w.heap.size) (ok := fun k_ => ((True ∧ some k_ ≠ (v295 : Value).ownBlock) ∧ some k_ ≠ (v302 : Value).ownBlock)) (n := t291.length) (c := co11) ?_).2.2; exact (by (with_reducible repeat (first | apply Kd.R_alloc | apply Kd.R_drewN | apply Kd.R_drew)); exact (Kd.R_mono (farsR (Kd.R_types HO293.out BK307.out (by decide))) (fun _ h_ => h_.1)))); (case side2 => exact (Kd.R_reads' HO293.out).2.1); rintro e w19 ⟨v310, rfl, ho0, hb⟩; refine ⟨_, rfl, ?_⟩; have HO311 := ak (Kd.R_lower (Kd.R_new' (Kd.R_new' (Kd.R_new' ho0 (Kd.R_lt (by (with_reducible repeat (first | apply Kd.R_alloc | apply Kd.R_drewN | apply Kd.R_drew)); exact (Kd.R_mono (farsR (Kd.R_types HO293.out BK307.out (by decide))) (fun _ h_ => h_.1))))) (Kd.R_lt (by (with_reducible repeat (first | apply Kd.R_alloc | apply Kd.R_drewN | apply Kd.R_drew)); exact (Kd.R_mono (farsR (Kd.R_types HO296.out BK307.out (by decide))) (fun _ h_ => h_.1))))) (Kd.R_lt (by (with_reducible repeat (first | apply Kd.R_alloc | apply Kd.R_drewN | apply Kd.R_drew)); exact (Kd.R_mono (farsR (Kd.R_types HO303.out BK307.out (by decide))) (fun _ h_ => h_.1))))) (below_size (belowg2 HB GE300 GE307))); replace HO293 := ak (Kd.R_elder' (by (with_reducible repeat (first | apply Kd.R_alloc | apply Kd.R_drewN | apply Kd.R_drew)); exact (Kd.R_mono (farsR (Kd.R_types HO293.out BK307.out (by decide))) (fun _ h_ => h_.1))) (Kd.R_base ho0) hb); replace HO296 := ak (Kd.R_elder' (by (with_reducible repeat (first | apply Kd.R_alloc | apply Kd.R_drewN | apply Kd.R_drew)); exact (Kd.R_mono (farsR (Kd.R_types HO296.out BK307.out (by decide))) (fun _ h_ => h_.1))) (Kd.R_base ho0) hb); replace HO303 := ak (Kd.R_elder' (by (with_reducible repeat (first | apply Kd.R_alloc | apply Kd.R_drewN | apply Kd.R_drew)); exact (Kd.R_mono (farsR (Kd.R_types HO303.out BK307.out (by decide))) (fun _ h_ => h_.1))) (Kd.R_base ho0) hb); replace BK300 := ak (blk_below (g := gb300) (o := .cells #[.int .i64 t297, .int .i64 t298] 80 (0, 0)) (by (with_reducible repeat (first | refine blk_drewN ?_ _ | refine blk_drew ?_ | refine blk_alloc ?_ _)); refine blk_far ?_ NB300_307.out _; (with_reducible repeat (first | refine blk_drewN ?_ _ | refine blk_drew ?_ | refine blk_alloc ?_ _)); refine blk_far ?_ NB300_307.out _; (with_reducible repeat (first | refine blk_drewN ?_ _ | refine blk_drew ?_ | refine blk_alloc ?_ _)); exact BK300.out) hb); replace BK307 := ak (blk_below (g := gb307) (o := .cells #[.int .i64 t304, .int .i64 t305] 80 (0, 0)) (by (with_reducible repeat (first | refine blk_drewN ?_ _ | refine blk_drew ?_ | refine blk_alloc ?_ _)); refine blk_put (cs := #[.int .i64 t304, .int .i64 0]) ?_ 1 _ rfl; (with_reducible repeat (first | refine blk_drewN ?_ _ | refine blk_drew ?_ | refine blk_alloc ?_ _)); refine blk_put (cs := #[.int .i64 0, .int .i64 0]) ?_ 0 _ rfl; (with_reducible repeat (first | refine blk_drewN ?_ _ | refine blk_drew ?_ | refine blk_alloc ?_ _)); exact BK307.out) hb); replace HB := ak (below_step (belowg2 HB GE300 GE307) hb); (try clear hb); (try clear ho0)) | ((with_reducible refine gate_callee (f := 86) rfl ?_); refine goesLa (some 57) rfl Try.func86 #[.slice Ao11 t291.length co11] rfl ?_; (with_reducible refine (spec_PlayAll.calls k _ _ t291 t312 t313 _ ?side1 ?side2 A8.out).mono ?_); (case side1 => exact cd (Kd.R_reads' HO293.out).2.2); (case side2 => exact (Kd.R_reads' HO293.out).2.1); rintro e w20 ⟨v314, rfl, ho0, hb⟩; refine ⟨_, rfl, ?_⟩; have HO315 := ak (Kd.R_lower (Kd.R_new' (Kd.R_new' (Kd.R_new' (Kd.R_new' ho0 (Kd.R_lt (rdl HO293))) (Kd.R_lt (rdl HO296))) (Kd.R_lt (rdl HO303))) (Kd.R_lt (rdl HO311))) (below_size (belowg2 HB GE300 GE307))); replace HO293 := ak (Kd.R_elder' (rdl HO293) (Kd.R_base ho0) hb); replace HO296 := ak (Kd.R_elder' (rdl HO296) (Kd.R_base ho0) hb); replace HO303 := ak (Kd.R_elder' (rdl HO303) (Kd.R_base ho0) hb); replace HO311 := ak (Kd.R_elder' (rdl HO311) (Kd.R_base ho0) hb); replace BK300 := ak (blk_below (blkd BK300) hb); replace BK307 := ak (blk_below (blkd BK307) hb); replace HB := ak (below_step (belowg2 HB GE300 GE307) hb); (try clear hb); (try clear ho0)))
  (try simp only [Act.put, List.setIfInBounds_toArray, List.set_cons_zero, List.set_cons_succ])
  go_cut [84] (fun v84 wc => ∃ (kq : Nat) (x84_8 : Bool), v84 = .bool x84_8 ∧ Aside0 (laws_FnTakenOnce.j0 kq l1 t291 t294 t299 t308 t309 x84_8 t297 t298 = some r) ∧ Aside0 (kq ≤ k) ∧ Aside0 (Kd.R (Kd.int .i64) 3 wc w.heap.size (fun k_ => some k_ ≠ (v295 : Value).ownBlock ∧ some k_ ≠ (v310 : Value).ownBlock) (.slice Ao11 t291.length co11) t291) ∧ Aside0 (Kd.R (Kd.int .i64) 3 wc w.heap.size (fun k_ => some k_ ≠ ((.slice Ao11 t291.length co11) : Value).ownBlock ∧ some k_ ≠ (v310 : Value).ownBlock) v295 t294) ∧ Aside0 (Kd.R (Kd.int .i64) 3 wc w.heap.size (fun k_ => some k_ ≠ ((.slice Ao11 t291.length co11) : Value).ownBlock ∧ some k_ ≠ (v295 : Value).ownBlock) v310 t308) ∧ Aside0 (wc.heap[gb300]? = some (.cells #[.int .i64 t297, .int .i64 t298] 80 (0, 0))) ∧ Aside0 (wc.heap[gb307]? = some (.cells #[.int .i64 t304, .int .i64 t305] 80 (0, 0))) ∧ Aside0 (Below w.heap.size w wc))
  case first => as_aux_lemma =>
   have H := HC9.out; clear HC9
   by_cases c21 : (t299 != t306) = true
   ·rw [if_pos c21] at H
    have c21b0 : (t299 != t306) = true := c21
    (try (have c21b1 : decide (t299 = t306) = false := by simpa using c21))
    (try (have c21b2 : (t299 == t306) = false := by simpa using c21))
    (try (have c21b3 : ¬ (t299 = t306) := by simpa using c21))
    clear c21
    (first | rw [c21b0] | (simp only [i64_w, i32_w]; rw [c21b0]) | skip)
    have H' := Aside0.mk H
    clear H; go_wp2
    go_meet
    case rel => exact ⟨_, (true), er, H', ⟨by first | omega | exact Nat.le_refl _⟩, ⟨by (with_reducible repeat (first | apply Kd.R_alloc | apply Kd.R_drewN | apply Kd.R_drew)); exact Kd.R_mono HO293.out (fun _ hk => ⟨hk.1.1.1.2, hk.1.2⟩)⟩, ⟨by (with_reducible repeat (first | apply Kd.R_alloc | apply Kd.R_drewN | apply Kd.R_drew)); exact Kd.R_mono HO296.out (fun _ hk => ⟨hk.1.1.1.2, hk.1.2⟩)⟩, ⟨by (with_reducible repeat (first | apply Kd.R_alloc | apply Kd.R_drewN | apply Kd.R_drew)); exact Kd.R_mono HO311.out (fun _ hk => ⟨hk.1.1.1.2, hk.1.1.2⟩)⟩, ⟨blkd BK300⟩, ⟨blkd BK307⟩, ⟨belowg2 HB GE300 GE307⟩⟩
   ·rw [if_neg c21] at H
    have c21b0 : (t299 != t306) = false := by simpa using c21
    (try (have c21b1 : decide (t299 = t306) = true := by simpa using c21))
    (try (have c21b2 : (t299 == t306) = true := by simpa using c21))
    clear c21
    (first | rw [c21b0] | (simp only [i64_w, i32_w]; rw [c21b0]) | skip)
    replace H := bS H; obtain ⟨t316, A22, H⟩ := H
    replace H : (if t316 = true then (if (!(t297 == t304) || (!(t298 == t305))) = true then (laws_FnTakenOnce.j0 k l1 t291 t294 t299 t308 t309 true t297 t298) else (if (t309 != t313) = true then (laws_FnTakenOnce.j0 k l1 t291 t294 t299 t308 t309 true t297 t298) else ((laws_sameInts.f k t308 t312).bind fun t317 => (laws_FnTakenOnce.j0 k l1 t291 t294 t299 t308 t309 (!t317) t297 t298)))) else (laws_FnTakenOnce.j0 k l1 t291 t294 t299 t308 t309 true t297 t298)) = some r := H
    by_cases c23 : t316 = true
    ·subst c23
     have H1 : (if (!(t297 == t304) || (!(t298 == t305))) = true then (laws_FnTakenOnce.j0 k l1 t291 t294 t299 t308 t309 true t297 t298) else (if (t309 != t313) = true then (laws_FnTakenOnce.j0 k l1 t291 t294 t299 t308 t309 true t297 t298) else ((laws_sameInts.f k t308 t312).bind fun t317 => (laws_FnTakenOnce.j0 k l1 t291 t294 t299 t308 t309 (!t317) t297 t298)))) = some r := by rw [if_pos rfl] at H; exact H
     clear H
     have H := H1
     clear H1
     by_cases c24 : (!(t297 == t304) || (!(t298 == t305))) = true
     ·rw [if_pos c24] at H
      have c24b0 : (!(t297 == t304) || (!(t298 == t305))) = true := c24
      clear c24
      have H' := Aside0.mk H
      clear H
      obtain ⟨Ao25, co25, eo25⟩ := Kd.R_slice HO296.out
      subst eo25
      obtain ⟨Ao26, co26, eo26⟩ := Kd.R_slice HO303.out
      subst eo26
      go_wp2_with (first | (go_at_call 55; (with_reducible refine (laws_sameInts.calls k _ _ t294 _ _ t301 true _ ?side1 ?side2 ?side3 ?side4 A22.out).mono ?_); (case side1 => exact cd (Kd.R_reads' HO296.out).2.2); (case side2 => exact (Kd.R_reads' HO296.out).2.1); (case side3 => exact cd (Kd.R_reads' HO303.out).2.2); (case side4 => exact (Kd.R_reads' HO303.out).2.1); rintro e w' ⟨rfl, ⟨nd, rfl⟩⟩; have hnb27 := NB300_307.out; have hnc27 := NB307_300.out; obtain ⟨hcz28_0, hcz28_1, hfz28_0, hfz28_1⟩ := box2 BK300; obtain ⟨hcz29_0, hcz29_1, hfz29_0, hfz29_1⟩ := box2 BK307))
      go_meet
      case rel => exact ⟨_, (true), er, H', ⟨by first | omega | exact Nat.le_refl _⟩, ⟨by (with_reducible repeat (first | apply Kd.R_alloc | apply Kd.R_drewN | apply Kd.R_drew)); exact Kd.R_mono HO293.out (fun _ hk => ⟨hk.1.1.1.2, hk.1.2⟩)⟩, ⟨by (with_reducible repeat (first | apply Kd.R_alloc | apply Kd.R_drewN | apply Kd.R_drew)); exact Kd.R_mono HO296.out (fun _ hk => ⟨hk.1.1.1.2, hk.1.2⟩)⟩, ⟨by (with_reducible repeat (first | apply Kd.R_alloc | apply Kd.R_drewN | apply Kd.R_drew)); exact Kd.R_mono HO311.out (fun _ hk => ⟨hk.1.1.1.2, hk.1.1.2⟩)⟩, ⟨blkd BK300⟩, ⟨blkd BK307⟩, ⟨belowg2 HB GE300 GE307⟩⟩
     ·rw [if_neg c24] at H
      have c24b0 : (!(t297 == t304) || (!(t298 == t305))) = false := by simpa using c24
      clear c24
      by_cases c30 : (t309 != t313) = true
      ·rw [if_pos c30] at H
       have c30b0 : (t309 != t313) = true := c30
       (try (have c30b1 : decide (t309 = t313) = false := by simpa using c30))
       (try (have c30b2 : (t309 == t313) = false := by simpa using c30))
       (try (have c30b3 : ¬ (t309 = t313) := by simpa using c30))
       clear c30
       have H' := Aside0.mk H
       clear H
       obtain ⟨Ao31, co31, eo31⟩ := Kd.R_slice HO296.out
       subst eo31
       obtain ⟨Ao32, co32, eo32⟩ := Kd.R_slice HO303.out
       subst eo32
       go_wp2_with (first | (go_at_call 55; (with_reducible refine (laws_sameInts.calls k _ _ t294 _ _ t301 true _ ?side1 ?side2 ?side3 ?side4 A22.out).mono ?_); (case side1 => exact cd (Kd.R_reads' HO296.out).2.2); (case side2 => exact (Kd.R_reads' HO296.out).2.1); (case side3 => exact cd (Kd.R_reads' HO303.out).2.2); (case side4 => exact (Kd.R_reads' HO303.out).2.1); rintro e w' ⟨rfl, ⟨nd, rfl⟩⟩; have hnb33 := NB300_307.out; have hnc33 := NB307_300.out; obtain ⟨hcz34_0, hcz34_1, hfz34_0, hfz34_1⟩ := box2 BK300; obtain ⟨hcz35_0, hcz35_1, hfz35_0, hfz35_1⟩ := box2 BK307))
       go_meet
       case rel => exact ⟨_, (true), er, H', ⟨by first | omega | exact Nat.le_refl _⟩, ⟨by (with_reducible repeat (first | apply Kd.R_alloc | apply Kd.R_drewN | apply Kd.R_drew)); exact Kd.R_mono HO293.out (fun _ hk => ⟨hk.1.1.1.2, hk.1.2⟩)⟩, ⟨by (with_reducible repeat (first | apply Kd.R_alloc | apply Kd.R_drewN | apply Kd.R_drew)); exact Kd.R_mono HO296.out (fun _ hk => ⟨hk.1.1.1.2, hk.1.2⟩)⟩, ⟨by (with_reducible repeat (first | apply Kd.R_alloc | apply Kd.R_drewN | apply Kd.R_drew)); exact Kd.R_mono HO311.out (fun _ hk => ⟨hk.1.1.1.2, hk.1.1.2⟩)⟩, ⟨blkd BK300⟩, ⟨blkd BK307⟩, ⟨belowg2 HB GE300 GE307⟩⟩
      ·rw [if_neg c30] at H
       have c30b0 : (t309 != t313) = false := by simpa using c30
       (try (have c30b1 : decide (t309 = t313) = true := by simpa using c30))
       (try (have c30b2 : (t309 == t313) = true := by simpa using c30))
       clear c30; replace H := bS H; obtain ⟨t317, A36, H⟩ := H
       replace H : (laws_FnTakenOnce.j0 k l1 t291 t294 t299 t308 t309 (!t317) t297 t298) = some r := H
       have H' := Aside0.mk H
       clear H
       obtain ⟨Ao37, co37, eo37⟩ := Kd.R_slice HO296.out
       subst eo37
       obtain ⟨Ao38, co38, eo38⟩ := Kd.R_slice HO303.out
       subst eo38
       go_wp2_with (first | (go_at_call 55; (with_reducible refine (laws_sameInts.calls k _ _ t294 _ _ t301 true _ ?side1 ?side2 ?side3 ?side4 A22.out).mono ?_); (case side1 => exact cd (Kd.R_reads' HO296.out).2.2); (case side2 => exact (Kd.R_reads' HO296.out).2.1); (case side3 => exact cd (Kd.R_reads' HO303.out).2.2); (case side4 => exact (Kd.R_reads' HO303.out).2.1); rintro e w' ⟨rfl, ⟨nd, rfl⟩⟩; have hnb39 := NB300_307.out; have hnc39 := NB307_300.out; obtain ⟨hcz40_0, hcz40_1, hfz40_0, hfz40_1⟩ := box2 BK300; obtain ⟨hcz41_0, hcz41_1, hfz41_0, hfz41_1⟩ := box2 BK307; obtain ⟨Ao42, co42, eo42⟩ := Kd.R_slice HO311.out; subst eo42; obtain ⟨Ao43, co43, eo43⟩ := Kd.R_slice HO315.out; subst eo43) | (go_at_call 55; (with_reducible refine (laws_sameInts.calls k _ _ t308 _ _ t312 t317 _ ?side1 ?side2 ?side3 ?side4 A36.out).mono ?_); (case side1 => exact cd (Kd.R_reads' HO311.out).2.2); (case side2 => exact (Kd.R_reads' HO311.out).2.1); (case side3 => exact cd (Kd.R_reads' HO315.out).2.2); (case side4 => exact (Kd.R_reads' HO315.out).2.1); rintro e w' ⟨rfl, ⟨nd, rfl⟩⟩))
       go_meet
       case rel => exact ⟨_, (!t317), er, H', ⟨by first | omega | exact Nat.le_refl _⟩, ⟨by (with_reducible repeat (first | apply Kd.R_alloc | apply Kd.R_drewN | apply Kd.R_drew)); exact Kd.R_mono HO293.out (fun _ hk => ⟨hk.1.1.1.2, hk.1.2⟩)⟩, ⟨by (with_reducible repeat (first | apply Kd.R_alloc | apply Kd.R_drewN | apply Kd.R_drew)); exact Kd.R_mono HO296.out (fun _ hk => ⟨hk.1.1.1.2, hk.1.2⟩)⟩, ⟨by (with_reducible repeat (first | apply Kd.R_alloc | apply Kd.R_drewN | apply Kd.R_drew)); exact Kd.R_mono HO311.out (fun _ hk => ⟨hk.1.1.1.2, hk.1.1.2⟩)⟩, ⟨blkd BK300⟩, ⟨blkd BK307⟩, ⟨belowg2 HB GE300 GE307⟩⟩
    ·replace c23 := Bool.eq_false_iff.mpr c23
     subst c23
     have H1 : (laws_FnTakenOnce.j0 k l1 t291 t294 t299 t308 t309 true t297 t298) = some r := by rw [if_neg (show ¬ (false = true) by decide)] at H; exact H
     clear H
     have H := H1
     clear H1
     have H' := Aside0.mk H
     clear H
     obtain ⟨Ao44, co44, eo44⟩ := Kd.R_slice HO296.out
     subst eo44
     obtain ⟨Ao45, co45, eo45⟩ := Kd.R_slice HO303.out
     subst eo45
     go_wp2_with (first | (go_at_call 55; (with_reducible refine (laws_sameInts.calls k _ _ t294 _ _ t301 false _ ?side1 ?side2 ?side3 ?side4 A22.out).mono ?_); (case side1 => exact cd (Kd.R_reads' HO296.out).2.2); (case side2 => exact (Kd.R_reads' HO296.out).2.1); (case side3 => exact cd (Kd.R_reads' HO303.out).2.2); (case side4 => exact (Kd.R_reads' HO303.out).2.1); rintro e w' ⟨rfl, ⟨nd, rfl⟩⟩))
     go_meet
     case rel => exact ⟨_, (true), er, H', ⟨by first | omega | exact Nat.le_refl _⟩, ⟨by (with_reducible repeat (first | apply Kd.R_alloc | apply Kd.R_drewN | apply Kd.R_drew)); exact Kd.R_mono HO293.out (fun _ hk => ⟨hk.1.1.1.2, hk.1.2⟩)⟩, ⟨by (with_reducible repeat (first | apply Kd.R_alloc | apply Kd.R_drewN | apply Kd.R_drew)); exact Kd.R_mono HO296.out (fun _ hk => ⟨hk.1.1.1.2, hk.1.2⟩)⟩, ⟨by (with_reducible repeat (first | apply Kd.R_alloc | apply Kd.R_drewN | apply Kd.R_drew)); exact Kd.R_mono HO311.out (fun _ hk => ⟨hk.1.1.1.2, hk.1.1.2⟩)⟩, ⟨blkd BK300⟩, ⟨blkd BK307⟩, ⟨belowg2 HB GE300 GE307⟩⟩
  case rest => as_aux_lemma =>
   clear HC9; (try clear c1); (try clear c3b0); (try clear hcz14_0); (try clear hcz14_1); (try clear hcz18_0); (try clear hcz18_1); (try clear hfz14_0); (try clear hfz14_1); (try clear hfz18_0); (try clear hfz18_1)
   obtain ⟨kq, x84_8, rfl, HA, HJ8, HO_5, HO_6, HO_12, BK300, BK307, HB⟩ := hcut
   cases kq with
   | zero => exact absurd HA.out (by simp [laws_FnTakenOnce.j0])
   | succ kj8 =>
    have H := HA.out; clear HA
    simp only [laws_FnTakenOnce.j0] at H
    by_cases c46 : x84_8 = true
    ·subst c46
     have H1 : (some false) = some r := by rw [if_pos rfl] at H; exact H
     clear H
     have H := H1
     clear H1
     exact absurd (H.trans (congrArg some hr_)) (by simp)
    ·replace c46 := Bool.eq_false_iff.mpr c46
     subst c46
     have H1 : (if t299 = true then ((impl_GoodWindow.f t297 t298).bind fun t318 => (if t318 = true then (if t309 = true then (laws_FnTakenOnce.j1 kj8 l1 t291 t294 t308 ((t294.length : Int) != (t308.length : Int))) else (laws_FnTakenOnce.j1 kj8 l1 t291 t294 t308 true)) else (laws_FnTakenOnce.j1 kj8 l1 t291 t294 t308 true))) else (laws_FnTakenOnce.j5 kj8 l1)) = some r := by rw [if_neg (show ¬ (false = true) by decide)] at H; exact H
     clear H
     have H := H1
     clear H1; have HC47 := Aside0.mk H; clear H
     go_upto_if 85 with (fail)
     go_cut [] (fun wc => ∃ (kq : Nat), Aside0 (laws_FnTakenOnce.j5 kq l1 = some r) ∧ Aside0 (kq ≤ kj8) ∧ Aside0 (wc.heap[gb300]? = some (.cells #[.int .i64 t297, .int .i64 t298] 80 (0, 0))) ∧ Aside0 (wc.heap[gb307]? = some (.cells #[.int .i64 t304, .int .i64 t305] 80 (0, 0))) ∧ Aside0 (Below w.heap.size w wc))
     case first => as_aux_lemma =>
      have H := HC47.out; clear HC47
      by_cases c48 : t299 = true
      ·subst c48
       have H1 : ((impl_GoodWindow.f t297 t298).bind fun t318 => (if t318 = true then (if t309 = true then (laws_FnTakenOnce.j1 kj8 l1 t291 t294 t308 ((t294.length : Int) != (t308.length : Int))) else (laws_FnTakenOnce.j1 kj8 l1 t291 t294 t308 true)) else (laws_FnTakenOnce.j1 kj8 l1 t291 t294 t308 true))) = some r := by rw [if_pos rfl] at H; exact H
       clear H
       have H := H1
       clear H1; have HC49 := Aside0.mk H; clear H
       go_upto_region 11 with (fail)
       go_cut [99] (fun v99 wc => ∃ (kq : Nat) (x99_48 : Bool), v99 = .bool x99_48 ∧ Aside0 (laws_FnTakenOnce.j1 kq l1 t291 t294 t308 x99_48 = some r) ∧ Aside0 (kq ≤ kj8) ∧ Aside0 (Kd.R (Kd.int .i64) 3 wc w.heap.size (fun k_ => some k_ ≠ (v295 : Value).ownBlock ∧ some k_ ≠ (v310 : Value).ownBlock) (.slice Ao11 t291.length co11) t291) ∧ Aside0 (Kd.R (Kd.int .i64) 3 wc w.heap.size (fun k_ => some k_ ≠ ((.slice Ao11 t291.length co11) : Value).ownBlock ∧ some k_ ≠ (v310 : Value).ownBlock) v295 t294) ∧ Aside0 (Kd.R (Kd.int .i64) 3 wc w.heap.size (fun k_ => some k_ ≠ ((.slice Ao11 t291.length co11) : Value).ownBlock ∧ some k_ ≠ (v295 : Value).ownBlock) v310 t308) ∧ Aside0 (wc.heap[gb300]? = some (.cells #[.int .i64 t297, .int .i64 t298] 80 (0, 0))) ∧ Aside0 (wc.heap[gb307]? = some (.cells #[.int .i64 t304, .int .i64 t305] 80 (0, 0))) ∧ Aside0 (Below w.heap.size w wc))
       case first => as_aux_lemma =>
        have H := HC49.out; clear HC49; replace H := bS H; obtain ⟨t318, A50, H⟩ := H
        replace H : (if t318 = true then (if t309 = true then (laws_FnTakenOnce.j1 kj8 l1 t291 t294 t308 ((t294.length : Int) != (t308.length : Int))) else (laws_FnTakenOnce.j1 kj8 l1 t291 t294 t308 true)) else (laws_FnTakenOnce.j1 kj8 l1 t291 t294 t308 true)) = some r := H
        by_cases c51 : t318 = true
        ·subst c51
         have H1 : (if t309 = true then (laws_FnTakenOnce.j1 kj8 l1 t291 t294 t308 ((t294.length : Int) != (t308.length : Int))) else (laws_FnTakenOnce.j1 kj8 l1 t291 t294 t308 true)) = some r := by rw [if_pos rfl] at H; exact H
         clear H
         have H := H1
         clear H1
         by_cases c52 : t309 = true
         ·subst c52
          have H1 : (laws_FnTakenOnce.j1 kj8 l1 t291 t294 t308 ((t294.length : Int) != (t308.length : Int))) = some r := by rw [if_pos rfl] at H; exact H
          clear H
          have H := H1
          clear H1
          have H' := Aside0.mk H
          clear H; have hnb53 := NB300_307.out; have hnc53 := NB307_300.out; obtain ⟨hcz54_0, hcz54_1, hfz54_0, hfz54_1⟩ := box2 BK300
          go_wp2_with (first | ((with_reducible refine gate_callee (f := 61) rfl ?_); refine goesLa (some 87) rfl Try.func61 #[.agg #[.int .i64 t297, .int .i64 t298]] rfl ?_; (with_reducible refine (impl_GoodWindow.calls t297 t298 true _ A50.out).mono ?_); rintro e w55 ⟨rfl, hb⟩; refine ⟨_, rfl, ?_⟩; replace HO_5 := ak (Kd.R_below (rdl HO_5) hb); replace HO_6 := ak (Kd.R_below (rdl HO_6) hb); replace HO_12 := ak (Kd.R_below (rdl HO_12) hb); replace BK300 := ak (blk_below (blkd BK300) hb); replace BK307 := ak (blk_below (blkd BK307) hb); replace HB := ak (below_step (belowg2 HB GE300 GE307) hb); (try clear hb); obtain ⟨Ao56, co56, eo56⟩ := Kd.R_slice HO_6.out; subst eo56; obtain ⟨Ao57, co57, eo57⟩ := Kd.R_slice HO_12.out; subst eo57))
          go_meet
          case rel => exact ⟨_, (((t294.length : Int) != (t308.length : Int))), er, H', ⟨by have := HJ8.out; first | omega | exact Nat.le_refl _⟩, ⟨rdl HO_5⟩, ⟨rdl HO_6⟩, ⟨rdl HO_12⟩, ⟨blkd BK300⟩, ⟨blkd BK307⟩, ⟨belowg2 HB GE300 GE307⟩⟩
         ·replace c52 := Bool.eq_false_iff.mpr c52
          subst c52
          have H1 : (laws_FnTakenOnce.j1 kj8 l1 t291 t294 t308 true) = some r := by rw [if_neg (show ¬ (false = true) by decide)] at H; exact H
          clear H
          have H := H1
          clear H1
          have H' := Aside0.mk H
          clear H; have hnb58 := NB300_307.out; have hnc58 := NB307_300.out; obtain ⟨hcz59_0, hcz59_1, hfz59_0, hfz59_1⟩ := box2 BK300
          go_wp2_with (first | ((with_reducible refine gate_callee (f := 61) rfl ?_); refine goesLa (some 87) rfl Try.func61 #[.agg #[.int .i64 t297, .int .i64 t298]] rfl ?_; (with_reducible refine (impl_GoodWindow.calls t297 t298 true _ A50.out).mono ?_); rintro e w60 ⟨rfl, hb⟩; refine ⟨_, rfl, ?_⟩; replace HO_5 := ak (Kd.R_below (rdl HO_5) hb); replace HO_6 := ak (Kd.R_below (rdl HO_6) hb); replace HO_12 := ak (Kd.R_below (rdl HO_12) hb); replace BK300 := ak (blk_below (blkd BK300) hb); replace BK307 := ak (blk_below (blkd BK307) hb); replace HB := ak (below_step (belowg2 HB GE300 GE307) hb); (try clear hb)))
          go_meet
          case rel => exact ⟨_, (true), er, H', ⟨by have := HJ8.out; first | omega | exact Nat.le_refl _⟩, ⟨rdl HO_5⟩, ⟨rdl HO_6⟩, ⟨rdl HO_12⟩, ⟨blkd BK300⟩, ⟨blkd BK307⟩, ⟨belowg2 HB GE300 GE307⟩⟩
        ·replace c51 := Bool.eq_false_iff.mpr c51
         subst c51
         have H1 : (laws_FnTakenOnce.j1 kj8 l1 t291 t294 t308 true) = some r := by rw [if_neg (show ¬ (false = true) by decide)] at H; exact H
         clear H
         have H := H1
         clear H1
         have H' := Aside0.mk H
         clear H; have hnb61 := NB300_307.out; have hnc61 := NB307_300.out; obtain ⟨hcz62_0, hcz62_1, hfz62_0, hfz62_1⟩ := box2 BK300
         go_wp2_with (first | ((with_reducible refine gate_callee (f := 61) rfl ?_); refine goesLa (some 87) rfl Try.func61 #[.agg #[.int .i64 t297, .int .i64 t298]] rfl ?_; (with_reducible refine (impl_GoodWindow.calls t297 t298 false _ A50.out).mono ?_); rintro e w63 ⟨rfl, hb⟩; refine ⟨_, rfl, ?_⟩; replace HO_5 := ak (Kd.R_below (rdl HO_5) hb); replace HO_6 := ak (Kd.R_below (rdl HO_6) hb); replace HO_12 := ak (Kd.R_below (rdl HO_12) hb); replace BK300 := ak (blk_below (blkd BK300) hb); replace BK307 := ak (blk_below (blkd BK307) hb); replace HB := ak (below_step (belowg2 HB GE300 GE307) hb); (try clear hb)))
         go_meet
         case rel => exact ⟨_, (true), er, H', ⟨by have := HJ8.out; first | omega | exact Nat.le_refl _⟩, ⟨rdl HO_5⟩, ⟨rdl HO_6⟩, ⟨rdl HO_12⟩, ⟨blkd BK300⟩, ⟨blkd BK307⟩, ⟨belowg2 HB GE300 GE307⟩⟩
       case rest => as_aux_lemma =>
        clear HC49; (try clear c46); (try clear c48)
        obtain ⟨kq, x99_48, rfl, HA, HJ48, HO_5, HO_6, HO_12, BK300, BK307, HB⟩ := hcut
        cases kq with
        | zero => exact absurd HA.out (by simp [laws_FnTakenOnce.j1])
        | succ kj48 =>
         have H := HA.out; clear HA
         simp only [laws_FnTakenOnce.j1] at H
         by_cases c64 : x99_48 = true
         ·subst c64
          have H1 : (some false) = some r := by rw [if_pos rfl] at H; exact H
          clear H
          have H := H1
          clear H1
          exact absurd (H.trans (congrArg some hr_)) (by simp)
         ·replace c64 := Bool.eq_false_iff.mpr c64
          subst c64
          have H1 : (laws_FnTakenOnce.l0 kj48 l1 t291 t294 t308 (t291.length : Int) 0) = some r := by rw [if_neg (show ¬ (false = true) by decide)] at H; exact H
          clear H
          have H := H1
          clear H1
          have H' := Aside0.mk H
          clear H; go_wp2
          go_loopg [102] kj48 (fun kq v102 w' => ∃ (x102_3 : Int), v102 = .int .i64 x102_3 ∧ Aside0 (laws_FnTakenOnce.l0 kq l1 t291 t294 t308 (t291.length : Int) x102_3 = some r) ∧ Aside0 (kq ≤ kj48) ∧ Aside0 (Kd.R (Kd.int .i64) 3 w' w.heap.size (fun k_ => some k_ ≠ (v295 : Value).ownBlock ∧ some k_ ≠ (v310 : Value).ownBlock) (.slice Ao11 t291.length co11) t291) ∧ Aside0 (Kd.R (Kd.int .i64) 3 w' w.heap.size (fun k_ => some k_ ≠ ((.slice Ao11 t291.length co11) : Value).ownBlock ∧ some k_ ≠ (v310 : Value).ownBlock) v295 t294) ∧ Aside0 (Kd.R (Kd.int .i64) 3 w' w.heap.size (fun k_ => some k_ ≠ ((.slice Ao11 t291.length co11) : Value).ownBlock ∧ some k_ ≠ (v295 : Value).ownBlock) v310 t308) ∧ Aside0 (w'.heap[gb300]? = some (.cells #[.int .i64 t297, .int .i64 t298] 80 (0, 0))) ∧ Aside0 (w'.heap[gb307]? = some (.cells #[.int .i64 t304, .int .i64 t305] 80 (0, 0))) ∧ Aside0 (Below w.heap.size w w'))
          case atStart => exact ⟨(0), er, H', ⟨Nat.le_refl _⟩, ⟨rdl HO_5⟩, ⟨rdl HO_6⟩, ⟨rdl HO_12⟩, ⟨blkd BK300⟩, ⟨blkd BK307⟩, ⟨belowg2 HB GE300 GE307⟩⟩
          case round => as_aux_lemma =>
           clear H'
           (try clear c64)
           obtain ⟨x102_3, rfl, HA, HK3, HO_5, HO_6, HO_12, BK300, BK307, HB⟩ := hrel
           cases gk with
           | zero => exact absurd HA.out (by simp [laws_FnTakenOnce.l0])
           | succ k3 =>
            have H := HA.out; clear HA
            simp only [laws_FnTakenOnce.l0] at H
            by_cases c65 : x102_3 < (t291.length : Int)
            ·rw [if_pos c65] at H
             have c65b0 : decide (x102_3 < (t291.length : Int)) = true := decide_eq_true c65
             clear c65; replace H := ifS H; obtain ⟨c66, H⟩ := H; have c66b0 := decide_eq_true c66; clear c66; replace H := ifS H; obtain ⟨c67, H⟩ := H; have c67b0 := decide_eq_true c67; clear c67; have HC68 := Aside0.mk H; clear H
             have p319 : 0 ≤ (x102_3 : Int) := da
             have q319 : x102_3 < (t291.length : Int) := da
             obtain ⟨ad319, e319, hx319_0⟩ := Kd.at_int (Kd.R_reads' HO_5.out).2.2 x102_3 p319 q319
             cases e319
             replace p319 := eq_true p319; replace q319 := eq_true q319
             go_upto_region 16 with (fail)
             go_cut [130] (fun v130 wc => ∃ (kq : Nat) (x130_67 : Bool), v130 = .bool x130_67 ∧ Aside0 (laws_FnTakenOnce.j3 kq l1 t291 t294 t308 x102_3 (rd t291 x102_3) (t291.length : Int) x102_3 x130_67 = some r) ∧ Aside0 (kq ≤ k3) ∧ Aside0 (Kd.R (Kd.int .i64) 3 wc w.heap.size (fun k_ => some k_ ≠ (v295 : Value).ownBlock ∧ some k_ ≠ (v310 : Value).ownBlock) (.slice (some ad319) t291.length co11) t291) ∧ Aside0 (Kd.R (Kd.int .i64) 3 wc w.heap.size (fun k_ => some k_ ≠ ((.slice (some ad319) t291.length co11) : Value).ownBlock ∧ some k_ ≠ (v310 : Value).ownBlock) v295 t294) ∧ Aside0 (Kd.R (Kd.int .i64) 3 wc w.heap.size (fun k_ => some k_ ≠ ((.slice (some ad319) t291.length co11) : Value).ownBlock ∧ some k_ ≠ (v295 : Value).ownBlock) v310 t308) ∧ Aside0 (wc.heap[gb300]? = some (.cells #[.int .i64 t297, .int .i64 t298] 80 (0, 0))) ∧ Aside0 (wc.heap[gb307]? = some (.cells #[.int .i64 t304, .int .i64 t305] 80 (0, 0))) ∧ Aside0 (Below w.heap.size w wc))
             case first => as_aux_lemma =>
              have H := HC68.out; clear HC68; replace H := ifS H; obtain ⟨c69, H⟩ := H; have c69b0 := decide_eq_true c69; clear c69
              (first | rw [c69b0] | (simp only [i64_w, i32_w]; rw [c69b0]) | skip)
              replace H := ifS H; obtain ⟨c70, H⟩ := H; have c70b0 := decide_eq_true c70; clear c70
              by_cases c71 : (rd t294 x102_3) = (rd t308 x102_3)
              ·rw [if_pos c71] at H
               have c71b0 : ((rd t294 x102_3) == (rd t308 x102_3)) = true := beq_iff_eq.mpr c71
               have c71b1 : ((rd t294 x102_3) != (rd t308 x102_3)) = false := bne_eq_false_iff_eq.mpr c71
               clear c71
               have H' := Aside0.mk H
               clear H
               try go_wp2
               replace HO_5 := ak (Kd.R_drew HO_5.out)
               replace HO_6 := ak (Kd.R_drew HO_6.out)
               replace HO_12 := ak (Kd.R_drew HO_12.out)
               replace BK300 := ak (blk_drew BK300.out)
               replace BK307 := ak (blk_drew BK307.out)
               replace HB := ak (below_drew1 HB.out)
               obtain ⟨Ao73, co73, eo73⟩ := Kd.R_slice HO_6.out
               (first | subst eo73 | (injection eo73 with f1_ f2_ f3_; have f4_ := f1_.symm; have f5_ := f3_.symm; clear f1_ f2_ f3_; subst f4_; subst f5_))
               have p320 : 0 ≤ (x102_3 : Int) := da
               have q320 : x102_3 < (t294.length : Int) := da
               obtain ⟨ad320, e320, hx320_0⟩ := Kd.at_int (Kd.R_reads' HO_6.out).2.2 x102_3 p320 q320
               cases e320
               replace p320 := eq_true p320; replace q320 := eq_true q320
               obtain ⟨Ao74, co74, eo74⟩ := Kd.R_slice HO_12.out
               (first | subst eo74 | (injection eo74 with f1_ f2_ f3_; have f4_ := f1_.symm; have f5_ := f3_.symm; clear f1_ f2_ f3_; subst f4_; subst f5_))
               have p321 : 0 ≤ (x102_3 : Int) := da
               have q321 : x102_3 < (t308.length : Int) := da
               obtain ⟨ad321, e321, hx321_0⟩ := Kd.at_int (Kd.R_reads' HO_12.out).2.2 x102_3 p321 q321
               cases e321
               replace p321 := eq_true p321; replace q321 := eq_true q321
               refine start_ (n := 24) (S := fun w' => w'.cell? (ad320.add (x102_3).toNat) = some (.int .i64 (rd t294 x102_3)) ∧ w'.cell? (ad321.add (x102_3).toNat) = some (.int .i64 (rd t308 x102_3))) (ds := []) (bl 24 0) (by kernel_rfl) rfl rfl ⟨hx320_0, hx321_0⟩ (fun hHeld => ?_); refine with_tabW laws_FnTakenOnce.tab16 laws_FnTakenOnce.bits16 (fun HT_ HW_ => ?_)
               generalize wr.drew = w72 at HO_5 HO_6 HO_12 BK300 BK307 HB hx320_0 hx321_0 hHeld ⊢
               refine pureA 0 (some 107) 24 1 HT_ ?_
               refine pureA 1 (some 108) 24 3 HT_ ?_
               refine pureA 2 (some 109) 24 7 HT_ ?_
               refine pureA 4 (some 111) 24 23 HT_ ?_
               refine pureA 5 (some 112) 24 55 HT_ ?_
               refine pureA 6 (some 113) 24 119 HT_ ?_
               refine takeA 3 (some 110) 24 127 HT_ HW_ hHeld ?_ (hy := by rintro w' ⟨s0, s1⟩; go_simp; with_reducible rfl)
               refine takeA 7 (some 114) 24 255 HT_ HW_ hHeld ?_ (hy := by rintro w' ⟨s0, s1⟩; go_simp; with_reducible rfl)
               refine pureA 8 (some 115) 24 511 HT_ ?_
               refine pureA 9 (some 116) 24 1023 HT_ ?_
               refine pureB 10 (some 117) 24 2047 HT_ ?_
               refine pureB 11 (some 118) 24 4095 HT_ ?_
               refine pureB 12 (some 119) 24 8191 HT_ ?_
               refine pureB 13 (some 120) 24 16383 HT_ ?_
               refine pureB 14 (some 121) 24 32767 HT_ ?_
               refine pureB 15 (some 122) 24 65535 HT_ ?_
               refine pureB 16 (some 123) 24 131071 HT_ ?_
               refine pureB 17 (some 124) 24 262143 HT_ ?_
               refine pureB 18 (some 125) 24 524287 HT_ ?_
               refine pureB 19 (some 126) 24 1048575 HT_ ?_
               refine pureB 20 (some 127) 24 2097151 HT_ ?_
               refine pureB 21 (some 128) 24 4194303 HT_ ?_
               refine pureB 22 (some 129) 24 8388607 HT_ ?_
               refine pureA 23 (some 130) 24 16777215 HT_ ?_
               refine done_ (done_of HT_.out (by kernel_rfl)) ?_
               try go_wp2
               go_meet
               case rel => exact ⟨_, (false), er, H', ⟨by have := HJ8.out; have := HJ48.out; have := HK3.out; first | omega | exact Nat.le_refl _⟩, ⟨rdl HO_5⟩, ⟨rdl HO_6⟩, ⟨rdl HO_12⟩, ⟨blkd BK300⟩, ⟨blkd BK307⟩, ⟨belowg2 HB GE300 GE307⟩⟩
              ·rw [if_neg c71] at H
               have c71b0 : ((rd t294 x102_3) == (rd t308 x102_3)) = false := beq_eq_false_iff_ne.mpr c71
               have c71b1 : ((rd t294 x102_3) != (rd t308 x102_3)) = true := bne_iff_ne.mpr c71
               by_cases c75 : (rd t308 x102_3) = 1
               ·rw [if_pos c75] at H
                have c75b0 : ((rd t308 x102_3) == 1) = true := beq_iff_eq.mpr c75
                have c75b1 : ((rd t308 x102_3) != 1) = false := bne_eq_false_iff_eq.mpr c75
                clear c75
                have H' := Aside0.mk H
                clear H
                try go_wp2
                replace HO_5 := ak (Kd.R_drew HO_5.out)
                replace HO_6 := ak (Kd.R_drew HO_6.out)
                replace HO_12 := ak (Kd.R_drew HO_12.out)
                replace BK300 := ak (blk_drew BK300.out)
                replace BK307 := ak (blk_drew BK307.out)
                replace HB := ak (below_drew1 HB.out)
                obtain ⟨Ao77, co77, eo77⟩ := Kd.R_slice HO_6.out
                (first | subst eo77 | (injection eo77 with f1_ f2_ f3_; have f4_ := f1_.symm; have f5_ := f3_.symm; clear f1_ f2_ f3_; subst f4_; subst f5_))
                have p320 : 0 ≤ (x102_3 : Int) := da
                have q320 : x102_3 < (t294.length : Int) := da
                obtain ⟨ad320, e320, hx320_0⟩ := Kd.at_int (Kd.R_reads' HO_6.out).2.2 x102_3 p320 q320
                cases e320
                replace p320 := eq_true p320; replace q320 := eq_true q320
                obtain ⟨Ao78, co78, eo78⟩ := Kd.R_slice HO_12.out
                (first | subst eo78 | (injection eo78 with f1_ f2_ f3_; have f4_ := f1_.symm; have f5_ := f3_.symm; clear f1_ f2_ f3_; subst f4_; subst f5_))
                have p321 : 0 ≤ (x102_3 : Int) := da
                have q321 : x102_3 < (t308.length : Int) := da
                obtain ⟨ad321, e321, hx321_0⟩ := Kd.at_int (Kd.R_reads' HO_12.out).2.2 x102_3 p321 q321
                cases e321
                replace p321 := eq_true p321; replace q321 := eq_true q321
                have p322 : 0 ≤ (x102_3 : Int) := da
                have q322 : x102_3 < (t308.length : Int) := da
                obtain ⟨ad322, e322, hx322_0⟩ := Kd.at_int (Kd.R_reads' HO_12.out).2.2 x102_3 p322 q322
                obtain rfl : ad321 = ad322 := (by injection e322)
                replace p322 := eq_true p322; replace q322 := eq_true q322
                have p323 : 0 ≤ (x102_3 : Int) := da
                have q323 : x102_3 < (t294.length : Int) := da
                obtain ⟨ad323, e323, hx323_0⟩ := Kd.at_int (Kd.R_reads' HO_6.out).2.2 x102_3 p323 q323
                obtain rfl : ad320 = ad323 := (by injection e323)
                replace p323 := eq_true p323; replace q323 := eq_true q323
                refine start_ (n := 24) (S := fun w' => w'.cell? (ad320.add (x102_3).toNat) = some (.int .i64 (rd t294 x102_3)) ∧ w'.cell? (ad321.add (x102_3).toNat) = some (.int .i64 (rd t308 x102_3)) ∧ w'.cell? (ad321.add (x102_3).toNat) = some (.int .i64 (rd t308 x102_3)) ∧ w'.cell? (ad320.add (x102_3).toNat) = some (.int .i64 (rd t294 x102_3))) (ds := []) (bl 24 0) (by kernel_rfl) rfl rfl ⟨hx320_0, hx321_0, hx322_0, hx323_0⟩ (fun hHeld => ?_); refine with_tabW laws_FnTakenOnce.tab16 laws_FnTakenOnce.bits16 (fun HT_ HW_ => ?_)
                generalize wr.drew = w76 at HO_5 HO_6 HO_12 BK300 BK307 HB hx320_0 hx321_0 hx322_0 hx323_0 hHeld ⊢
                refine pureA 0 (some 107) 24 1 HT_ ?_
                refine pureA 1 (some 108) 24 3 HT_ ?_
                refine pureA 2 (some 109) 24 7 HT_ ?_
                refine pureA 4 (some 111) 24 23 HT_ ?_
                refine pureA 5 (some 112) 24 55 HT_ ?_
                refine pureA 6 (some 113) 24 119 HT_ ?_
                refine takeA 3 (some 110) 24 127 HT_ HW_ hHeld ?_ (hy := by rintro w' ⟨s0, s1, s2, s3⟩; go_simp; with_reducible rfl)
                refine takeA 7 (some 114) 24 255 HT_ HW_ hHeld ?_ (hy := by rintro w' ⟨s0, s1, s2, s3⟩; go_simp; with_reducible rfl)
                refine pureA 8 (some 115) 24 511 HT_ ?_
                refine pureA 9 (some 116) 24 1023 HT_ ?_
                refine pureA 10 (some 117) 24 2047 HT_ ?_
                refine pureA 11 (some 118) 24 4095 HT_ ?_
                refine pureA 12 (some 119) 24 8191 HT_ ?_
                refine takeA 13 (some 120) 24 16383 HT_ HW_ hHeld ?_ (hy := by rintro w' ⟨s0, s1, s2, s3⟩; go_simp; with_reducible rfl)
                refine pureA 14 (some 121) 24 32767 HT_ ?_
                refine pureA 15 (some 122) 24 65535 HT_ ?_
                refine pureA 16 (some 123) 24 131071 HT_ ?_
                refine pureA 17 (some 124) 24 262143 HT_ ?_
                refine pureA 18 (some 125) 24 524287 HT_ ?_
                refine takeA 19 (some 126) 24 1048575 HT_ HW_ hHeld ?_ (hy := by rintro w' ⟨s0, s1, s2, s3⟩; go_simp; with_reducible rfl)
                refine pureA 20 (some 127) 24 2097151 HT_ ?_
                refine pureA 21 (some 128) 24 4194303 HT_ ?_
                refine pureA 22 (some 129) 24 8388607 HT_ ?_
                refine pureA 23 (some 130) 24 16777215 HT_ ?_
                refine done_ (done_of HT_.out (by kernel_rfl)) ?_
                try go_wp2
                go_meet
                case rel => exact ⟨_, (!((rd t294 x102_3) == 2)), er, H', ⟨by have := HJ8.out; have := HJ48.out; have := HK3.out; first | omega | exact Nat.le_refl _⟩, ⟨rdl HO_5⟩, ⟨rdl HO_6⟩, ⟨rdl HO_12⟩, ⟨blkd BK300⟩, ⟨blkd BK307⟩, ⟨belowg2 HB GE300 GE307⟩⟩
               ·rw [if_neg c75] at H
                have c75b0 : ((rd t308 x102_3) == 1) = false := beq_eq_false_iff_ne.mpr c75
                have c75b1 : ((rd t308 x102_3) != 1) = true := bne_iff_ne.mpr c75
                have H' := Aside0.mk H
                clear H
                try go_wp2
                replace HO_5 := ak (Kd.R_drew HO_5.out)
                replace HO_6 := ak (Kd.R_drew HO_6.out)
                replace HO_12 := ak (Kd.R_drew HO_12.out)
                replace BK300 := ak (blk_drew BK300.out)
                replace BK307 := ak (blk_drew BK307.out)
                replace HB := ak (below_drew1 HB.out)
                obtain ⟨Ao80, co80, eo80⟩ := Kd.R_slice HO_6.out
                (first | subst eo80 | (injection eo80 with f1_ f2_ f3_; have f4_ := f1_.symm; have f5_ := f3_.symm; clear f1_ f2_ f3_; subst f4_; subst f5_))
                have p320 : 0 ≤ (x102_3 : Int) := da
                have q320 : x102_3 < (t294.length : Int) := da
                obtain ⟨ad320, e320, hx320_0⟩ := Kd.at_int (Kd.R_reads' HO_6.out).2.2 x102_3 p320 q320
                cases e320
                replace p320 := eq_true p320; replace q320 := eq_true q320
                obtain ⟨Ao81, co81, eo81⟩ := Kd.R_slice HO_12.out
                (first | subst eo81 | (injection eo81 with f1_ f2_ f3_; have f4_ := f1_.symm; have f5_ := f3_.symm; clear f1_ f2_ f3_; subst f4_; subst f5_))
                have p321 : 0 ≤ (x102_3 : Int) := da
                have q321 : x102_3 < (t308.length : Int) := da
                obtain ⟨ad321, e321, hx321_0⟩ := Kd.at_int (Kd.R_reads' HO_12.out).2.2 x102_3 p321 q321
                cases e321
                replace p321 := eq_true p321; replace q321 := eq_true q321
                have p322 : 0 ≤ (x102_3 : Int) := da
                have q322 : x102_3 < (t308.length : Int) := da
                obtain ⟨ad322, e322, hx322_0⟩ := Kd.at_int (Kd.R_reads' HO_12.out).2.2 x102_3 p322 q322
                obtain rfl : ad321 = ad322 := (by injection e322)
                replace p322 := eq_true p322; replace q322 := eq_true q322
                refine start_ (n := 24) (S := fun w' => w'.cell? (ad320.add (x102_3).toNat) = some (.int .i64 (rd t294 x102_3)) ∧ w'.cell? (ad321.add (x102_3).toNat) = some (.int .i64 (rd t308 x102_3)) ∧ w'.cell? (ad321.add (x102_3).toNat) = some (.int .i64 (rd t308 x102_3))) (ds := []) (bl 24 0) (by kernel_rfl) rfl rfl ⟨hx320_0, hx321_0, hx322_0⟩ (fun hHeld => ?_); refine with_tabW laws_FnTakenOnce.tab16 laws_FnTakenOnce.bits16 (fun HT_ HW_ => ?_)
                generalize wr.drew = w79 at HO_5 HO_6 HO_12 BK300 BK307 HB hx320_0 hx321_0 hx322_0 hHeld ⊢
                refine pureA 0 (some 107) 24 1 HT_ ?_
                refine pureA 1 (some 108) 24 3 HT_ ?_
                refine pureA 2 (some 109) 24 7 HT_ ?_
                refine pureA 4 (some 111) 24 23 HT_ ?_
                refine pureA 5 (some 112) 24 55 HT_ ?_
                refine pureA 6 (some 113) 24 119 HT_ ?_
                refine takeA 3 (some 110) 24 127 HT_ HW_ hHeld ?_ (hy := by rintro w' ⟨s0, s1, s2⟩; go_simp; with_reducible rfl)
                refine takeA 7 (some 114) 24 255 HT_ HW_ hHeld ?_ (hy := by rintro w' ⟨s0, s1, s2⟩; go_simp; with_reducible rfl)
                refine pureA 8 (some 115) 24 511 HT_ ?_
                refine pureA 9 (some 116) 24 1023 HT_ ?_
                refine pureA 10 (some 117) 24 2047 HT_ ?_
                refine pureA 11 (some 118) 24 4095 HT_ ?_
                refine pureA 12 (some 119) 24 8191 HT_ ?_
                refine takeA 13 (some 120) 24 16383 HT_ HW_ hHeld ?_ (hy := by rintro w' ⟨s0, s1, s2⟩; go_simp; with_reducible rfl)
                refine pureA 14 (some 121) 24 32767 HT_ ?_
                refine pureA 15 (some 122) 24 65535 HT_ ?_
                refine pureB 16 (some 123) 24 131071 HT_ ?_
                refine pureB 17 (some 124) 24 262143 HT_ ?_
                refine pureB 18 (some 125) 24 524287 HT_ ?_
                refine pureB 19 (some 126) 24 1048575 HT_ ?_
                refine pureB 20 (some 127) 24 2097151 HT_ ?_
                refine pureA 21 (some 128) 24 4194303 HT_ ?_
                refine pureA 22 (some 129) 24 8388607 HT_ ?_
                refine pureA 23 (some 130) 24 16777215 HT_ ?_
                refine done_ (done_of HT_.out (by kernel_rfl)) ?_
                try go_wp2
                go_meet
                case rel => exact ⟨_, (!false), er, H', ⟨by have := HJ8.out; have := HJ48.out; have := HK3.out; first | omega | exact Nat.le_refl _⟩, ⟨rdl HO_5⟩, ⟨rdl HO_6⟩, ⟨rdl HO_12⟩, ⟨blkd BK300⟩, ⟨blkd BK307⟩, ⟨belowg2 HB GE300 GE307⟩⟩
             case rest => as_aux_lemma =>
              clear HC68
              obtain ⟨kq, x130_67, rfl, HA, HJ67, HO_5, HO_6, HO_12, BK300, BK307, HB⟩ := hcut
              cases kq with
              | zero => exact absurd HA.out (by simp [laws_FnTakenOnce.j3])
              | succ kj67 =>
               have H := HA.out; clear HA
               simp only [laws_FnTakenOnce.j3] at H
               by_cases c82 : x130_67 = true
               ·subst c82
                have H1 : (some false) = some r := by rw [if_pos rfl] at H; exact H
                clear H
                have H := H1
                clear H1
                exact absurd (H.trans (congrArg some hr_)) (by simp)
               ·replace c82 := Bool.eq_false_iff.mpr c82
                subst c82
                have H1 : (laws_FnTakenOnce.l1 kj67 l1 t291 t294 t308 x102_3 (rd t291 x102_3) 0 (t291.length : Int) x102_3) = some r := by rw [if_neg (show ¬ (false = true) by decide)] at H; exact H
                clear H
                have H := H1
                clear H1
                have H' := Aside0.mk H
                clear H; go_wp2
                go_loopg [18] kj67 (fun kq v18 w' => ∃ (x18_5 : Int), v18 = .int .i64 x18_5 ∧ Aside0 (laws_FnTakenOnce.l1 kq l1 t291 t294 t308 x102_3 (rd t291 x102_3) x18_5 (t291.length : Int) x102_3 = some r) ∧ Aside0 (kq ≤ kj67) ∧ Aside0 (Kd.R (Kd.int .i64) 3 w' w.heap.size (fun k_ => some k_ ≠ (v295 : Value).ownBlock ∧ some k_ ≠ (v310 : Value).ownBlock) (.slice (some ad319) t291.length co11) t291) ∧ Aside0 (Kd.R (Kd.int .i64) 3 w' w.heap.size (fun k_ => some k_ ≠ ((.slice (some ad319) t291.length co11) : Value).ownBlock ∧ some k_ ≠ (v310 : Value).ownBlock) v295 t294) ∧ Aside0 (Kd.R (Kd.int .i64) 3 w' w.heap.size (fun k_ => some k_ ≠ ((.slice (some ad319) t291.length co11) : Value).ownBlock ∧ some k_ ≠ (v295 : Value).ownBlock) v310 t308) ∧ Aside0 (w'.heap[gb300]? = some (.cells #[.int .i64 t297, .int .i64 t298] 80 (0, 0))) ∧ Aside0 (w'.heap[gb307]? = some (.cells #[.int .i64 t304, .int .i64 t305] 80 (0, 0))) ∧ Aside0 (Below w.heap.size w w'))
                case atStart => exact ⟨(0), er, H', ⟨Nat.le_refl _⟩, ⟨rdl HO_5⟩, ⟨rdl HO_6⟩, ⟨rdl HO_12⟩, ⟨blkd BK300⟩, ⟨blkd BK307⟩, ⟨belowg2 HB GE300 GE307⟩⟩
                case round => as_aux_lemma =>
                 clear H'
                 (try clear c82)
                 obtain ⟨x18_5, rfl, HA, HK5, HO_5, HO_6, HO_12, BK300, BK307, HB⟩ := hrel
                 cases gk with
                 | zero => exact absurd HA.out (by simp [laws_FnTakenOnce.l1])
                 | succ k5 =>
                  have H := HA.out; clear HA
                  simp only [laws_FnTakenOnce.l1] at H
                  by_cases c83 : x18_5 < x102_3
                  ·rw [if_pos c83] at H
                   have c83b0 : decide (x18_5 < x102_3) = true := decide_eq_true c83
                   clear c83; replace H := ifS H; obtain ⟨c84, H⟩ := H; have c84b0 := decide_eq_true c84; clear c84; replace H := ifS H; obtain ⟨c85, H⟩ := H; have c85b0 := decide_eq_true c85; clear c85
                   by_cases c86 : (rd t291 x18_5) = (rd t291 x102_3)
                   ·rw [if_pos c86] at H
                    have c86b0 : ((rd t291 x18_5) == (rd t291 x102_3)) = true := beq_iff_eq.mpr c86
                    have c86b1 : ((rd t291 x18_5) != (rd t291 x102_3)) = false := bne_eq_false_iff_eq.mpr c86
                    clear c86; replace H := ifS H; obtain ⟨c87, H⟩ := H; have c87b0 := decide_eq_true c87; clear c87
                    by_cases c88 : (rd t294 x18_5) = 0
                    ·rw [if_pos c88] at H
                     have c88b0 : ((rd t294 x18_5) == 0) = true := beq_iff_eq.mpr c88
                     have c88b1 : ((rd t294 x18_5) != 0) = false := bne_eq_false_iff_eq.mpr c88
                     clear c88; replace H := ifS H; obtain ⟨c89, H⟩ := H; have c89b0 := decide_eq_true c89; clear c89; replace H := ifS H; obtain ⟨c90, H⟩ := H; have c90b0 := decide_eq_true c90; clear c90
                     by_cases c91 : (rd t294 x102_3) = 0
                     ·rw [if_pos c91] at H
                      have c91b0 : ((rd t294 x102_3) == 0) = true := beq_iff_eq.mpr c91
                      have c91b1 : ((rd t294 x102_3) != 0) = false := bne_eq_false_iff_eq.mpr c91
                      clear c91
                      exact absurd (H.trans (congrArg some hr_)) (by simp)
                     ·rw [if_neg c91] at H
                      have c91b0 : ((rd t294 x102_3) == 0) = false := beq_eq_false_iff_ne.mpr c91
                      have c91b1 : ((rd t294 x102_3) != 0) = true := bne_iff_ne.mpr c91
                      have H' := Aside0.mk H
                      clear H
                      have p324 : 0 ≤ (x18_5 : Int) := da
                      have q324 : x18_5 < (t291.length : Int) := da
                      obtain ⟨ad324, e324, hx324_0⟩ := Kd.at_int (Kd.R_reads' HO_5.out).2.2 x18_5 p324 q324
                      obtain rfl : ad319 = ad324 := (by injection e324)
                      replace p324 := eq_true p324; replace q324 := eq_true q324
                      obtain ⟨Ao92, co92, eo92⟩ := Kd.R_slice HO_6.out
                      subst eo92
                      have p325 : 0 ≤ (x18_5 : Int) := da
                      have q325 : x18_5 < (t294.length : Int) := da
                      obtain ⟨ad325, e325, hx325_0⟩ := Kd.at_int (Kd.R_reads' HO_6.out).2.2 x18_5 p325 q325
                      cases e325
                      replace p325 := eq_true p325; replace q325 := eq_true q325
                      have p326 : 0 ≤ (x102_3 : Int) := da
                      have q326 : x102_3 < (t294.length : Int) := da
                      obtain ⟨ad326, e326, hx326_0⟩ := Kd.at_int (Kd.R_reads' HO_6.out).2.2 x102_3 p326 q326
                      obtain rfl : ad325 = ad326 := (by injection e326)
                      replace p326 := eq_true p326; replace q326 := eq_true q326; go_wp2
                      go_roundg k5
                      case measure => have := HJ8.out; have := HJ48.out; have := HK3.out; have := HJ67.out; have := HK5.out; omega
                      case rel => exact ⟨(wrap64 (x18_5 + 1)), er, H', ⟨by have := HJ8.out; have := HJ48.out; have := HK3.out; have := HJ67.out; have := HK5.out; omega⟩, ⟨rdl HO_5⟩, ⟨rdl HO_6⟩, ⟨rdl HO_12⟩, ⟨blkd BK300⟩, ⟨blkd BK307⟩, ⟨belowg2 HB GE300 GE307⟩⟩
                    ·rw [if_neg c88] at H
                     have c88b0 : ((rd t294 x18_5) == 0) = false := beq_eq_false_iff_ne.mpr c88
                     have c88b1 : ((rd t294 x18_5) != 0) = true := bne_iff_ne.mpr c88
                     have H' := Aside0.mk H
                     clear H
                     have p324 : 0 ≤ (x18_5 : Int) := da
                     have q324 : x18_5 < (t291.length : Int) := da
                     obtain ⟨ad324, e324, hx324_0⟩ := Kd.at_int (Kd.R_reads' HO_5.out).2.2 x18_5 p324 q324
                     obtain rfl : ad319 = ad324 := (by injection e324)
                     replace p324 := eq_true p324; replace q324 := eq_true q324
                     obtain ⟨Ao93, co93, eo93⟩ := Kd.R_slice HO_6.out
                     subst eo93
                     have p325 : 0 ≤ (x18_5 : Int) := da
                     have q325 : x18_5 < (t294.length : Int) := da
                     obtain ⟨ad325, e325, hx325_0⟩ := Kd.at_int (Kd.R_reads' HO_6.out).2.2 x18_5 p325 q325
                     cases e325
                     replace p325 := eq_true p325; replace q325 := eq_true q325; go_wp2
                     go_roundg k5
                     case measure => have := HJ8.out; have := HJ48.out; have := HK3.out; have := HJ67.out; have := HK5.out; omega
                     case rel => exact ⟨(wrap64 (x18_5 + 1)), er, H', ⟨by have := HJ8.out; have := HJ48.out; have := HK3.out; have := HJ67.out; have := HK5.out; omega⟩, ⟨rdl HO_5⟩, ⟨rdl HO_6⟩, ⟨rdl HO_12⟩, ⟨blkd BK300⟩, ⟨blkd BK307⟩, ⟨belowg2 HB GE300 GE307⟩⟩
                   ·rw [if_neg c86] at H
                    have c86b0 : ((rd t291 x18_5) == (rd t291 x102_3)) = false := beq_eq_false_iff_ne.mpr c86
                    have c86b1 : ((rd t291 x18_5) != (rd t291 x102_3)) = true := bne_iff_ne.mpr c86
                    have H' := Aside0.mk H
                    clear H
                    have p324 : 0 ≤ (x18_5 : Int) := da
                    have q324 : x18_5 < (t291.length : Int) := da
                    obtain ⟨ad324, e324, hx324_0⟩ := Kd.at_int (Kd.R_reads' HO_5.out).2.2 x18_5 p324 q324
                    obtain rfl : ad319 = ad324 := (by injection e324)
                    replace p324 := eq_true p324; replace q324 := eq_true q324; go_wp2
                    go_roundg k5
                    case measure => have := HJ8.out; have := HJ48.out; have := HK3.out; have := HJ67.out; have := HK5.out; omega
                    case rel => exact ⟨(wrap64 (x18_5 + 1)), er, H', ⟨by have := HJ8.out; have := HJ48.out; have := HK3.out; have := HJ67.out; have := HK5.out; omega⟩, ⟨rdl HO_5⟩, ⟨rdl HO_6⟩, ⟨rdl HO_12⟩, ⟨blkd BK300⟩, ⟨blkd BK307⟩, ⟨belowg2 HB GE300 GE307⟩⟩
                  ·rw [if_neg c83] at H
                   have c83b0 : decide (x18_5 < x102_3) = false := decide_eq_false c83
                   clear c83
                   have H' := Aside0.mk H
                   clear H; go_wp2
                   go_roundg k5
                   case measure => have := HJ8.out; have := HJ48.out; have := HK3.out; have := HJ67.out; have := HK5.out; omega
                   case rel => exact ⟨(wrap64 (x102_3 + 1)), er, H', ⟨by have := HJ8.out; have := HJ48.out; have := HK3.out; have := HJ67.out; have := HK5.out; omega⟩, ⟨rdl HO_5⟩, ⟨rdl HO_6⟩, ⟨rdl HO_12⟩, ⟨blkd BK300⟩, ⟨blkd BK307⟩, ⟨belowg2 HB GE300 GE307⟩⟩
            ·rw [if_neg c65] at H
             have c65b0 : decide (x102_3 < (t291.length : Int)) = false := decide_eq_false c65
             clear c65
             have H' := Aside0.mk H
             clear H; go_wp2
             go_meet
             case rel => exact ⟨_, H', ⟨by have := HJ8.out; have := HJ48.out; have := HK3.out; first | omega | exact Nat.le_refl _⟩, ⟨blkd BK300⟩, ⟨blkd BK307⟩, ⟨belowg2 HB GE300 GE307⟩⟩
      ·replace c48 := Bool.eq_false_iff.mpr c48
       subst c48
       have H1 : (laws_FnTakenOnce.j5 kj8 l1) = some r := by rw [if_neg (show ¬ (false = true) by decide)] at H; exact H
       clear H
       have H := H1
       clear H1
       have H' := Aside0.mk H
       clear H; go_wp2
       go_meet
       case rel => exact ⟨_, H', ⟨by have := HJ8.out; first | omega | exact Nat.le_refl _⟩, ⟨blkd BK300⟩, ⟨blkd BK307⟩, ⟨belowg2 HB GE300 GE307⟩⟩
     case rest => as_aux_lemma =>
      clear HC47
      obtain ⟨kq, HA, HJ46, BK300, BK307, HB⟩ := hcut
      cases kq with
      | zero => exact absurd HA.out (by simp [laws_FnTakenOnce.j5])
      | succ kj46 =>
       have H := HA.out; clear HA
       simp only [laws_FnTakenOnce.j5] at H
       replace H := bS H; obtain ⟨⟨t327, t328, t329⟩, A94, H⟩ := H
       replace H : ((impl_TakeNumber.f t327 t328 t329).bind fun bt331 => ((spec_TakeNumber.f kj46 t327 t328 t329).bind fun bt336 => (if (bt331.2.2.2 != bt336.2.2.2) = true then (laws_FnTakenOnce.j6 kj46 t329 bt331.2.2.2 true t327 t328 bt331.1 bt331.2.1) else (if bt331.2.2.1 = bt336.2.2.1 then (if (!(bt331.1 == bt336.1) || (!(bt331.2.1 == bt336.2.1))) = true then (laws_FnTakenOnce.j6 kj46 t329 bt331.2.2.2 true t327 t328 bt331.1 bt331.2.1) else ((impl_GoodWindow.f t327 t328).bind fun t341 => ((spec_GoodWindow.f kj46 t327 t328).bind fun t342 => (laws_FnTakenOnce.j6 kj46 t329 bt331.2.2.2 (t341 != t342) t327 t328 bt331.1 bt331.2.1)))) else (laws_FnTakenOnce.j6 kj46 t329 bt331.2.2.2 true t327 t328 bt331.1 bt331.2.1))))) = some r := H
       replace H := bS H; obtain ⟨⟨t331, t332, t333, t334⟩, A95, H⟩ := H
       replace H : ((spec_TakeNumber.f kj46 t327 t328 t329).bind fun bt336 => (if (t334 != bt336.2.2.2) = true then (laws_FnTakenOnce.j6 kj46 t329 t334 true t327 t328 t331 t332) else (if t333 = bt336.2.2.1 then (if (!(t331 == bt336.1) || (!(t332 == bt336.2.1))) = true then (laws_FnTakenOnce.j6 kj46 t329 t334 true t327 t328 t331 t332) else ((impl_GoodWindow.f t327 t328).bind fun t341 => ((spec_GoodWindow.f kj46 t327 t328).bind fun t342 => (laws_FnTakenOnce.j6 kj46 t329 t334 (t341 != t342) t327 t328 t331 t332)))) else (laws_FnTakenOnce.j6 kj46 t329 t334 true t327 t328 t331 t332)))) = some r := H
       replace H := bS H; obtain ⟨⟨t336, t337, t338, t339⟩, A96, H⟩ := H
       replace H : (if (t334 != t339) = true then (laws_FnTakenOnce.j6 kj46 t329 t334 true t327 t328 t331 t332) else (if t333 = t338 then (if (!(t331 == t336) || (!(t332 == t337))) = true then (laws_FnTakenOnce.j6 kj46 t329 t334 true t327 t328 t331 t332) else ((impl_GoodWindow.f t327 t328).bind fun t341 => ((spec_GoodWindow.f kj46 t327 t328).bind fun t342 => (laws_FnTakenOnce.j6 kj46 t329 t334 (t341 != t342) t327 t328 t331 t332)))) else (laws_FnTakenOnce.j6 kj46 t329 t334 true t327 t328 t331 t332))) = some r := H
       have HC97 := Aside0.mk H; clear H
       go_upto_region 27 with (first | ((with_reducible refine gate_callee (f := 87) rfl ?_); refine goesLa (some 159) rfl Try.func87 #[.slice A1 l1.length c1] rfl ?_; (with_reducible refine (spec_DrawTakeNumber.calls kj46 _ _ l1 t327 t328 t329 _ ?side1 ?side2 A94.out).mono ?_); (case side1 => exact cd (Kd.C_below HR1.out HB.out)); (case side2 => exact HC1.out); rintro e w98 ⟨rfl, hb⟩; refine ⟨_, rfl, ?_⟩; replace BK300 := ak (blk_below (blkd BK300) hb); replace BK307 := ak (blk_below (blkd BK307) hb); replace HB := ak (below_step (belowg2 HB GE300 GE307) hb); (try clear hb)) | ((with_reducible refine gate_dst (N := 19) rfl ?_); (try (refine gate_guard (by rfl) ?_; dsimp only)); refine boxev 19 #[.int .i64 0, .int .i64 0] 80 ?_; intro gb330 hg w99 hbox hb; have BK330 := ak (hbox); have GW330 := ak (hgl hg (belowg2 HB GE300 GE307)); have GE330 := ak (hgl hg (belowg2 HB GE300 GE307)); replace HB := ak (below_step (belowg2 HB GE300 GE307) hb); have NB300_330 := ak ((by rw [hg]; exact Nat.ne_of_lt (blk_lt (blkd BK300)) : gb300 ≠ gb330)); have NB330_300 := ak ((by rw [hg]; exact Nat.ne_of_gt (blk_lt (blkd BK300)) : gb330 ≠ gb300)); replace BK300 := ak (blk_below (blkd BK300) hb); have NB307_330 := ak ((by rw [hg]; exact Nat.ne_of_lt (blk_lt (blkd BK307)) : gb307 ≠ gb330)); have NB330_307 := ak ((by rw [hg]; exact Nat.ne_of_gt (blk_lt (blkd BK307)) : gb330 ≠ gb307)); replace BK307 := ak (blk_below (blkd BK307) hb); clear hb hbox hg; have hnb100 := NB330_300.out; have hnc100 := NB300_330.out; have hnb101 := NB330_307.out; have hnc101 := NB307_330.out; obtain ⟨hcz102_0, hcz102_1, hfz102_0, hfz102_1⟩ := box2 BK330) | ((with_reducible refine gate_callee (f := 88) rfl ?_); refine goesLa (some 165) rfl Try.func88 #[.agg #[.int .i64 t327, .int .i64 t328], .int .i64 t329] rfl ?_; (with_reducible refine (impl_TakeNumber.calls t327 t328 t329 t331 t332 t333 t334 _ A95.out).mono ?_); rintro e w103 ⟨rfl, hb⟩; refine ⟨_, rfl, ?_⟩; replace BK300 := ak (blk_below (g := gb300) (o := .cells #[.int .i64 t297, .int .i64 t298] 80 (0, 0)) (by (with_reducible repeat (first | refine blk_drewN ?_ _ | refine blk_drew ?_ | refine blk_alloc ?_ _)); refine blk_far ?_ NB300_330.out _; (with_reducible repeat (first | refine blk_drewN ?_ _ | refine blk_drew ?_ | refine blk_alloc ?_ _)); refine blk_far ?_ NB300_330.out _; (with_reducible repeat (first | refine blk_drewN ?_ _ | refine blk_drew ?_ | refine blk_alloc ?_ _)); exact BK300.out) hb); replace BK307 := ak (blk_below (g := gb307) (o := .cells #[.int .i64 t304, .int .i64 t305] 80 (0, 0)) (by (with_reducible repeat (first | refine blk_drewN ?_ _ | refine blk_drew ?_ | refine blk_alloc ?_ _)); refine blk_far ?_ NB307_330.out _; (with_reducible repeat (first | refine blk_drewN ?_ _ | refine blk_drew ?_ | refine blk_alloc ?_ _)); refine blk_far ?_ NB307_330.out _; (with_reducible repeat (first | refine blk_drewN ?_ _ | refine blk_drew ?_ | refine blk_alloc ?_ _)); exact BK307.out) hb); replace BK330 := ak (blk_below (g := gb330) (o := .cells #[.int .i64 t327, .int .i64 t328] 80 (0, 0)) (by (with_reducible repeat (first | refine blk_drewN ?_ _ | refine blk_drew ?_ | refine blk_alloc ?_ _)); refine blk_put (cs := #[.int .i64 t327, .int .i64 0]) ?_ 1 _ rfl; (with_reducible repeat (first | refine blk_drewN ?_ _ | refine blk_drew ?_ | refine blk_alloc ?_ _)); refine blk_put (cs := #[.int .i64 0, .int .i64 0]) ?_ 0 _ rfl; (with_reducible repeat (first | refine blk_drewN ?_ _ | refine blk_drew ?_ | refine blk_alloc ?_ _)); exact BK330.out) hb); replace HB := ak (below_step (belowg3 HB GE300 GE307 GE330) hb); (try clear hb)) | ((with_reducible refine gate_dst (N := 21) rfl ?_); (try (refine gate_guard (by rfl) ?_; dsimp only)); refine boxev 21 #[.int .i64 0, .int .i64 0] 80 ?_; intro gb335 hg w104 hbox hb; have BK335 := ak (hbox); have GW335 := ak (hgl hg (belowg3 HB GE300 GE307 GE330)); have GE335 := ak (hgl hg (belowg3 HB GE300 GE307 GE330)); replace HB := ak (below_step (belowg3 HB GE300 GE307 GE330) hb); have NB300_335 := ak ((by rw [hg]; exact Nat.ne_of_lt (blk_lt (blkd BK300)) : gb300 ≠ gb335)); have NB335_300 := ak ((by rw [hg]; exact Nat.ne_of_gt (blk_lt (blkd BK300)) : gb335 ≠ gb300)); replace BK300 := ak (blk_below (blkd BK300) hb); have NB307_335 := ak ((by rw [hg]; exact Nat.ne_of_lt (blk_lt (blkd BK307)) : gb307 ≠ gb335)); have NB335_307 := ak ((by rw [hg]; exact Nat.ne_of_gt (blk_lt (blkd BK307)) : gb335 ≠ gb307)); replace BK307 := ak (blk_below (blkd BK307) hb); have NB330_335 := ak ((by rw [hg]; exact Nat.ne_of_lt (blk_lt (blkd BK330)) : gb330 ≠ gb335)); have NB335_330 := ak ((by rw [hg]; exact Nat.ne_of_gt (blk_lt (blkd BK330)) : gb335 ≠ gb330)); replace BK330 := ak (blk_below (blkd BK330) hb); clear hb hbox hg; have hnb105 := NB335_300.out; have hnc105 := NB300_335.out; have hnb106 := NB335_307.out; have hnc106 := NB307_335.out; have hnb107 := NB335_330.out; have hnc107 := NB330_335.out; obtain ⟨hcz108_0, hcz108_1, hfz108_0, hfz108_1⟩ := box2 BK335; obtain ⟨hcz109_0, hcz109_1, hfz109_0, hfz109_1⟩ := box2 BK330) | ((with_reducible refine gate_callee (f := 89) rfl ?_); refine goesLa (some 172) rfl Try.func89 #[.agg #[.int .i64 t327, .int .i64 t328], .int .i64 t329] rfl ?_; (with_reducible refine (spec_TakeNumber.calls kj46 t327 t328 t329 t336 t337 t338 t339 _ A96.out).mono ?_); rintro e w110 ⟨rfl, hb⟩; refine ⟨_, rfl, ?_⟩; replace BK300 := ak (blk_below (g := gb300) (o := .cells #[.int .i64 t297, .int .i64 t298] 80 (0, 0)) (by (with_reducible repeat (first | refine blk_drewN ?_ _ | refine blk_drew ?_ | refine blk_alloc ?_ _)); refine blk_far ?_ NB300_335.out _; (with_reducible repeat (first | refine blk_drewN ?_ _ | refine blk_drew ?_ | refine blk_alloc ?_ _)); refine blk_far ?_ NB300_335.out _; (with_reducible repeat (first | refine blk_drewN ?_ _ | refine blk_drew ?_ | refine blk_alloc ?_ _)); exact BK300.out) hb); replace BK307 := ak (blk_below (g := gb307) (o := .cells #[.int .i64 t304, .int .i64 t305] 80 (0, 0)) (by (with_reducible repeat (first | refine blk_drewN ?_ _ | refine blk_drew ?_ | refine blk_alloc ?_ _)); refine blk_far ?_ NB307_335.out _; (with_reducible repeat (first | refine blk_drewN ?_ _ | refine blk_drew ?_ | refine blk_alloc ?_ _)); refine blk_far ?_ NB307_335.out _; (with_reducible repeat (first | refine blk_drewN ?_ _ | refine blk_drew ?_ | refine blk_alloc ?_ _)); exact BK307.out) hb); replace BK330 := ak (blk_below (g := gb330) (o := .cells #[.int .i64 t327, .int .i64 t328] 80 (0, 0)) (by (with_reducible repeat (first | refine blk_drewN ?_ _ | refine blk_drew ?_ | refine blk_alloc ?_ _)); refine blk_far ?_ NB330_335.out _; (with_reducible repeat (first | refine blk_drewN ?_ _ | refine blk_drew ?_ | refine blk_alloc ?_ _)); refine blk_far ?_ NB330_335.out _; (with_reducible repeat (first | refine blk_drewN ?_ _ | refine blk_drew ?_ | refine blk_alloc ?_ _)); exact BK330.out) hb); replace BK335 := ak (blk_below (g := gb335) (o := .cells #[.int .i64 t331, .int .i64 t332] 80 (0, 0)) (by (with_reducible repeat (first | refine blk_drewN ?_ _ | refine blk_drew ?_ | refine blk_alloc ?_ _)); refine blk_put (cs := #[.int .i64 t331, .int .i64 0]) ?_ 1 _ rfl; (with_reducible repeat (first | refine blk_drewN ?_ _ | refine blk_drew ?_ | refine blk_alloc ?_ _)); refine blk_put (cs := #[.int .i64 0, .int .i64 0]) ?_ 0 _ rfl; (with_reducible repeat (first | refine blk_drewN ?_ _ | refine blk_drew ?_ | refine blk_alloc ?_ _)); exact BK335.out) hb); replace HB := ak (below_step (belowg4 HB GE300 GE307 GE330 GE335) hb); (try clear hb)) | ((with_reducible refine gate_dst (N := 24) rfl ?_); (try (refine gate_guard (by rfl) ?_; dsimp only)); refine boxev 24 #[.int .i64 0, .int .i64 0] 80 ?_; intro gb340 hg w111 hbox hb; have BK340 := ak (hbox); have GW340 := ak (hgl hg (belowg4 HB GE300 GE307 GE330 GE335)); have GE340 := ak (hgl hg (belowg4 HB GE300 GE307 GE330 GE335)); replace HB := ak (below_step (belowg4 HB GE300 GE307 GE330 GE335) hb); have NB300_340 := ak ((by rw [hg]; exact Nat.ne_of_lt (blk_lt (blkd BK300)) : gb300 ≠ gb340)); have NB340_300 := ak ((by rw [hg]; exact Nat.ne_of_gt (blk_lt (blkd BK300)) : gb340 ≠ gb300)); replace BK300 := ak (blk_below (blkd BK300) hb); have NB307_340 := ak ((by rw [hg]; exact Nat.ne_of_lt (blk_lt (blkd BK307)) : gb307 ≠ gb340)); have NB340_307 := ak ((by rw [hg]; exact Nat.ne_of_gt (blk_lt (blkd BK307)) : gb340 ≠ gb307)); replace BK307 := ak (blk_below (blkd BK307) hb); have NB330_340 := ak ((by rw [hg]; exact Nat.ne_of_lt (blk_lt (blkd BK330)) : gb330 ≠ gb340)); have NB340_330 := ak ((by rw [hg]; exact Nat.ne_of_gt (blk_lt (blkd BK330)) : gb340 ≠ gb330)); replace BK330 := ak (blk_below (blkd BK330) hb); have NB335_340 := ak ((by rw [hg]; exact Nat.ne_of_lt (blk_lt (blkd BK335)) : gb335 ≠ gb340)); have NB340_335 := ak ((by rw [hg]; exact Nat.ne_of_gt (blk_lt (blkd BK335)) : gb340 ≠ gb335)); replace BK335 := ak (blk_below (blkd BK335) hb); clear hb hbox hg; have hnb112 := NB340_300.out; have hnc112 := NB300_340.out; have hnb113 := NB340_307.out; have hnc113 := NB307_340.out; have hnb114 := NB340_330.out; have hnc114 := NB330_340.out; have hnb115 := NB340_335.out; have hnc115 := NB335_340.out; obtain ⟨hcz116_0, hcz116_1, hfz116_0, hfz116_1⟩ := box2 BK340))
       (try simp only [Act.put, List.setIfInBounds_toArray, List.set_cons_zero, List.set_cons_succ])
       go_cut [195] (fun v195 wc => ∃ (kq : Nat) (x195_96 : Bool), v195 = .bool x195_96 ∧ Aside0 (laws_FnTakenOnce.j6 kq t329 t334 x195_96 t327 t328 t331 t332 = some r) ∧ Aside0 (kq ≤ kj46) ∧ Aside0 (wc.heap[gb300]? = some (.cells #[.int .i64 t297, .int .i64 t298] 80 (0, 0))) ∧ Aside0 (wc.heap[gb307]? = some (.cells #[.int .i64 t304, .int .i64 t305] 80 (0, 0))) ∧ Aside0 (wc.heap[gb330]? = some (.cells #[.int .i64 t327, .int .i64 t328] 80 (0, 0))) ∧ Aside0 (wc.heap[gb335]? = some (.cells #[.int .i64 t331, .int .i64 t332] 80 (0, 0))) ∧ Aside0 (wc.heap[gb340]? = some (.cells #[.int .i64 t336, .int .i64 t337] 80 (0, 0))) ∧ Aside0 (Below w.heap.size w wc))
       case first => as_aux_lemma =>
        have H := HC97.out; clear HC97
        by_cases c117 : (t334 != t339) = true
        ·rw [if_pos c117] at H
         have c117b0 : (t334 != t339) = true := c117
         (try (have c117b1 : decide (t334 = t339) = false := by simpa using c117))
         (try (have c117b2 : (t334 == t339) = false := by simpa using c117))
         (try (have c117b3 : ¬ (t334 = t339) := by simpa using c117))
         clear c117
         (first | rw [c117b0] | (simp only [i64_w, i32_w]; rw [c117b0]) | skip)
         have H' := Aside0.mk H
         clear H
         try go_wp2
         have n0_ : Aside0 (((w111.setCell ⟨gb340, 0, none⟩ (.int .i64 t336)).setCell ⟨gb340, 1, none⟩ (.int .i64 t337)).heap[gb300]? = some (.cells #[.int .i64 t297, .int .i64 t298] 80 (0, 0))) := ⟨by (with_reducible repeat (first | refine blk_drewN ?_ _ | refine blk_drew ?_ | refine blk_alloc ?_ _)); refine blk_far ?_ NB300_340.out _; (with_reducible repeat (first | refine blk_drewN ?_ _ | refine blk_drew ?_ | refine blk_alloc ?_ _)); refine blk_far ?_ NB300_340.out _; (with_reducible repeat (first | refine blk_drewN ?_ _ | refine blk_drew ?_ | refine blk_alloc ?_ _)); exact BK300.out⟩
         have n1_ : Aside0 (((w111.setCell ⟨gb340, 0, none⟩ (.int .i64 t336)).setCell ⟨gb340, 1, none⟩ (.int .i64 t337)).heap[gb307]? = some (.cells #[.int .i64 t304, .int .i64 t305] 80 (0, 0))) := ⟨by (with_reducible repeat (first | refine blk_drewN ?_ _ | refine blk_drew ?_ | refine blk_alloc ?_ _)); refine blk_far ?_ NB307_340.out _; (with_reducible repeat (first | refine blk_drewN ?_ _ | refine blk_drew ?_ | refine blk_alloc ?_ _)); refine blk_far ?_ NB307_340.out _; (with_reducible repeat (first | refine blk_drewN ?_ _ | refine blk_drew ?_ | refine blk_alloc ?_ _)); exact BK307.out⟩
         have n2_ : Aside0 (((w111.setCell ⟨gb340, 0, none⟩ (.int .i64 t336)).setCell ⟨gb340, 1, none⟩ (.int .i64 t337)).heap[gb330]? = some (.cells #[.int .i64 t327, .int .i64 t328] 80 (0, 0))) := ⟨by (with_reducible repeat (first | refine blk_drewN ?_ _ | refine blk_drew ?_ | refine blk_alloc ?_ _)); refine blk_far ?_ NB330_340.out _; (with_reducible repeat (first | refine blk_drewN ?_ _ | refine blk_drew ?_ | refine blk_alloc ?_ _)); refine blk_far ?_ NB330_340.out _; (with_reducible repeat (first | refine blk_drewN ?_ _ | refine blk_drew ?_ | refine blk_alloc ?_ _)); exact BK330.out⟩
         have n3_ : Aside0 (((w111.setCell ⟨gb340, 0, none⟩ (.int .i64 t336)).setCell ⟨gb340, 1, none⟩ (.int .i64 t337)).heap[gb335]? = some (.cells #[.int .i64 t331, .int .i64 t332] 80 (0, 0))) := ⟨by (with_reducible repeat (first | refine blk_drewN ?_ _ | refine blk_drew ?_ | refine blk_alloc ?_ _)); refine blk_far ?_ NB335_340.out _; (with_reducible repeat (first | refine blk_drewN ?_ _ | refine blk_drew ?_ | refine blk_alloc ?_ _)); refine blk_far ?_ NB335_340.out _; (with_reducible repeat (first | refine blk_drewN ?_ _ | refine blk_drew ?_ | refine blk_alloc ?_ _)); exact BK335.out⟩
         have n4_ : Aside0 (((w111.setCell ⟨gb340, 0, none⟩ (.int .i64 t336)).setCell ⟨gb340, 1, none⟩ (.int .i64 t337)).heap[gb340]? = some (.cells #[.int .i64 t336, .int .i64 t337] 80 (0, 0))) := ⟨by (with_reducible repeat (first | refine blk_drewN ?_ _ | refine blk_drew ?_ | refine blk_alloc ?_ _)); refine blk_put (cs := #[.int .i64 t336, .int .i64 0]) ?_ 1 _ rfl; (with_reducible repeat (first | refine blk_drewN ?_ _ | refine blk_drew ?_ | refine blk_alloc ?_ _)); refine blk_put (cs := #[.int .i64 0, .int .i64 0]) ?_ 0 _ rfl; (with_reducible repeat (first | refine blk_drewN ?_ _ | refine blk_drew ?_ | refine blk_alloc ?_ _)); exact BK340.out⟩
         have n5_ : Aside0 (Below w.heap.size w ((w111.setCell ⟨gb340, 0, none⟩ (.int .i64 t336)).setCell ⟨gb340, 1, none⟩ (.int .i64 t337))) := ⟨belowg5 HB GE300 GE307 GE330 GE335 GE340⟩
         (try clear BK300); (try clear BK307); (try clear BK330); (try clear BK335); (try clear BK340); (try clear HB)
         generalize ((w111.setCell ⟨gb340, 0, none⟩ (.int .i64 t336)).setCell ⟨gb340, 1, none⟩ (.int .i64 t337)) = w118 at n0_ n1_ n2_ n3_ n4_ n5_ ⊢
         have BK300 := n0_
         have BK307 := n1_
         have BK330 := n2_
         have BK335 := n3_
         have BK340 := n4_
         have HB := n5_
         clear n0_ n1_ n2_ n3_ n4_ n5_
         replace BK300 := ak (blk_drew BK300.out)
         replace BK307 := ak (blk_drew BK307.out)
         replace BK330 := ak (blk_drew BK330.out)
         replace BK335 := ak (blk_drew BK335.out)
         replace BK340 := ak (blk_drew BK340.out)
         replace HB := ak (below_drew1 HB.out)
         refine start_ (n := 20) (S := fun w' => True) (ds := []) (bl 20 0) (by kernel_rfl) rfl rfl trivial (fun hHeld => ?_); refine with_tabW laws_FnTakenOnce.tab27 laws_FnTakenOnce.bits27 (fun HT_ HW_ => ?_)
         generalize w118.drew = w119 at BK300 BK307 BK330 BK335 BK340 HB hHeld ⊢
         refine pureA 0 (some 176) 20 1 HT_ ?_
         refine pureA 1 (some 177) 20 3 HT_ ?_
         refine pureA 2 (some 178) 20 7 HT_ ?_
         refine pureA 3 (some 179) 20 15 HT_ ?_
         refine pureB 4 (some 180) 20 31 HT_ ?_
         refine pureB 5 (some 181) 20 63 HT_ ?_
         refine pureB 6 (some 182) 20 127 HT_ ?_
         refine pureA 7 (some 183) 20 255 HT_ ?_
         refine pureA 8 (some 184) 20 511 HT_ ?_
         refine pureB 9 (some 185) 20 1023 HT_ ?_
         refine pureB 10 (some 186) 20 2047 HT_ ?_
         refine pureB 11 (some 187) 20 4095 HT_ ?_
         refine pureA 12 (some 188) 20 8191 HT_ ?_
         refine pureA 13 (some 189) 20 16383 HT_ ?_
         refine pureB 14 (some 190) 20 32767 HT_ ?_
         refine pureB 15 (some 191) 20 65535 HT_ ?_
         refine pureB 16 (some 192) 20 131071 HT_ ?_
         refine pureB 17 (some 193) 20 262143 HT_ ?_
         refine pureB 18 (some 194) 20 524287 HT_ ?_
         refine pureA 19 (some 195) 20 1048575 HT_ ?_
         refine done_ (done_of HT_.out (by kernel_rfl)) ?_
         try go_wp2
         go_meet
         case rel => exact ⟨_, (true), er, H', ⟨by have := HJ8.out; have := HJ46.out; first | omega | exact Nat.le_refl _⟩, ⟨blkd BK300⟩, ⟨blkd BK307⟩, ⟨blkd BK330⟩, ⟨blkd BK335⟩, ⟨blkd BK340⟩, ⟨belowg5 HB GE300 GE307 GE330 GE335 GE340⟩⟩
        ·rw [if_neg c117] at H
         have c117b0 : (t334 != t339) = false := by simpa using c117
         (try (have c117b1 : decide (t334 = t339) = true := by simpa using c117))
         (try (have c117b2 : (t334 == t339) = true := by simpa using c117))
         clear c117
         (first | rw [c117b0] | (simp only [i64_w, i32_w]; rw [c117b0]) | skip)
         by_cases c120 : t333 = t338
         ·rw [if_pos c120] at H
          have c120b0 : (t333 == t338) = true := beq_iff_eq.mpr c120
          have c120b1 : (t333 != t338) = false := bne_eq_false_iff_eq.mpr c120
          clear c120
          by_cases c121 : (!(t331 == t336) || (!(t332 == t337))) = true
          ·rw [if_pos c121] at H
           have c121b0 : (!(t331 == t336) || (!(t332 == t337))) = true := c121
           clear c121
           have H' := Aside0.mk H
           clear H
           try go_wp2
           have n0_ : Aside0 (((w111.setCell ⟨gb340, 0, none⟩ (.int .i64 t336)).setCell ⟨gb340, 1, none⟩ (.int .i64 t337)).heap[gb300]? = some (.cells #[.int .i64 t297, .int .i64 t298] 80 (0, 0))) := ⟨by (with_reducible repeat (first | refine blk_drewN ?_ _ | refine blk_drew ?_ | refine blk_alloc ?_ _)); refine blk_far ?_ NB300_340.out _; (with_reducible repeat (first | refine blk_drewN ?_ _ | refine blk_drew ?_ | refine blk_alloc ?_ _)); refine blk_far ?_ NB300_340.out _; (with_reducible repeat (first | refine blk_drewN ?_ _ | refine blk_drew ?_ | refine blk_alloc ?_ _)); exact BK300.out⟩
           have n1_ : Aside0 (((w111.setCell ⟨gb340, 0, none⟩ (.int .i64 t336)).setCell ⟨gb340, 1, none⟩ (.int .i64 t337)).heap[gb307]? = some (.cells #[.int .i64 t304, .int .i64 t305] 80 (0, 0))) := ⟨by (with_reducible repeat (first | refine blk_drewN ?_ _ | refine blk_drew ?_ | refine blk_alloc ?_ _)); refine blk_far ?_ NB307_340.out _; (with_reducible repeat (first | refine blk_drewN ?_ _ | refine blk_drew ?_ | refine blk_alloc ?_ _)); refine blk_far ?_ NB307_340.out _; (with_reducible repeat (first | refine blk_drewN ?_ _ | refine blk_drew ?_ | refine blk_alloc ?_ _)); exact BK307.out⟩
           have n2_ : Aside0 (((w111.setCell ⟨gb340, 0, none⟩ (.int .i64 t336)).setCell ⟨gb340, 1, none⟩ (.int .i64 t337)).heap[gb330]? = some (.cells #[.int .i64 t327, .int .i64 t328] 80 (0, 0))) := ⟨by (with_reducible repeat (first | refine blk_drewN ?_ _ | refine blk_drew ?_ | refine blk_alloc ?_ _)); refine blk_far ?_ NB330_340.out _; (with_reducible repeat (first | refine blk_drewN ?_ _ | refine blk_drew ?_ | refine blk_alloc ?_ _)); refine blk_far ?_ NB330_340.out _; (with_reducible repeat (first | refine blk_drewN ?_ _ | refine blk_drew ?_ | refine blk_alloc ?_ _)); exact BK330.out⟩
           have n3_ : Aside0 (((w111.setCell ⟨gb340, 0, none⟩ (.int .i64 t336)).setCell ⟨gb340, 1, none⟩ (.int .i64 t337)).heap[gb335]? = some (.cells #[.int .i64 t331, .int .i64 t332] 80 (0, 0))) := ⟨by (with_reducible repeat (first | refine blk_drewN ?_ _ | refine blk_drew ?_ | refine blk_alloc ?_ _)); refine blk_far ?_ NB335_340.out _; (with_reducible repeat (first | refine blk_drewN ?_ _ | refine blk_drew ?_ | refine blk_alloc ?_ _)); refine blk_far ?_ NB335_340.out _; (with_reducible repeat (first | refine blk_drewN ?_ _ | refine blk_drew ?_ | refine blk_alloc ?_ _)); exact BK335.out⟩
           have n4_ : Aside0 (((w111.setCell ⟨gb340, 0, none⟩ (.int .i64 t336)).setCell ⟨gb340, 1, none⟩ (.int .i64 t337)).heap[gb340]? = some (.cells #[.int .i64 t336, .int .i64 t337] 80 (0, 0))) := ⟨by (with_reducible repeat (first | refine blk_drewN ?_ _ | refine blk_drew ?_ | refine blk_alloc ?_ _)); refine blk_put (cs := #[.int .i64 t336, .int .i64 0]) ?_ 1 _ rfl; (with_reducible repeat (first | refine blk_drewN ?_ _ | refine blk_drew ?_ | refine blk_alloc ?_ _)); refine blk_put (cs := #[.int .i64 0, .int .i64 0]) ?_ 0 _ rfl; (with_reducible repeat (first | refine blk_drewN ?_ _ | refine blk_drew ?_ | refine blk_alloc ?_ _)); exact BK340.out⟩
           have n5_ : Aside0 (Below w.heap.size w ((w111.setCell ⟨gb340, 0, none⟩ (.int .i64 t336)).setCell ⟨gb340, 1, none⟩ (.int .i64 t337))) := ⟨belowg5 HB GE300 GE307 GE330 GE335 GE340⟩
           (try clear BK300); (try clear BK307); (try clear BK330); (try clear BK335); (try clear BK340); (try clear HB)
           generalize ((w111.setCell ⟨gb340, 0, none⟩ (.int .i64 t336)).setCell ⟨gb340, 1, none⟩ (.int .i64 t337)) = w122 at n0_ n1_ n2_ n3_ n4_ n5_ ⊢
           have BK300 := n0_
           have BK307 := n1_
           have BK330 := n2_
           have BK335 := n3_
           have BK340 := n4_
           have HB := n5_
           clear n0_ n1_ n2_ n3_ n4_ n5_
           replace BK300 := ak (blk_drew BK300.out)
           replace BK307 := ak (blk_drew BK307.out)
           replace BK330 := ak (blk_drew BK330.out)
           replace BK335 := ak (blk_drew BK335.out)
           replace BK340 := ak (blk_drew BK340.out)
           replace HB := ak (below_drew1 HB.out)
           refine start_ (n := 20) (S := fun w' => w'.cell? ⟨gb335, 0, none⟩ = some (.int .i64 t331) ∧ w'.cell? ⟨gb335, 1, none⟩ = some (.int .i64 t332) ∧ w'.cell? ⟨gb340, 0, none⟩ = some (.int .i64 t336) ∧ w'.cell? ⟨gb340, 1, none⟩ = some (.int .i64 t337)) (ds := []) (bl 20 0) (by kernel_rfl) rfl rfl ⟨bq BK335 0, bq BK335 1, bq BK340 0, bq BK340 1⟩ (fun hHeld => ?_); refine with_tabW laws_FnTakenOnce.tab27 laws_FnTakenOnce.bits27 (fun HT_ HW_ => ?_)
           generalize w122.drew = w123 at BK300 BK307 BK330 BK335 BK340 HB hHeld ⊢
           refine pureA 0 (some 176) 20 1 HT_ ?_
           refine pureA 1 (some 177) 20 3 HT_ ?_
           refine pureA 2 (some 178) 20 7 HT_ ?_
           refine pureA 3 (some 179) 20 15 HT_ ?_
           refine pureA 4 (some 180) 20 31 HT_ ?_
           refine pureA 5 (some 181) 20 63 HT_ ?_
           refine pureA 6 (some 182) 20 127 HT_ ?_
           refine pureA 7 (some 183) 20 255 HT_ ?_
           refine pureA 8 (some 184) 20 511 HT_ ?_
           refine takeA 9 (some 185) 20 1023 HT_ HW_ hHeld ?_ (hy := by rintro w' ⟨s0, s1, s2, s3⟩; go_simp; with_reducible rfl)
           refine takeA 10 (some 186) 20 2047 HT_ HW_ hHeld ?_ (hy := by rintro w' ⟨s0, s1, s2, s3⟩; go_simp; with_reducible rfl)
           refine pureA 11 (some 187) 20 4095 HT_ ?_
           refine pureA 12 (some 188) 20 8191 HT_ ?_
           refine pureA 13 (some 189) 20 16383 HT_ ?_
           refine pureB 14 (some 190) 20 32767 HT_ ?_
           refine pureB 15 (some 191) 20 65535 HT_ ?_
           refine pureB 16 (some 192) 20 131071 HT_ ?_
           refine pureB 17 (some 193) 20 262143 HT_ ?_
           refine pureB 18 (some 194) 20 524287 HT_ ?_
           refine pureA 19 (some 195) 20 1048575 HT_ ?_
           refine done_ (done_of HT_.out (by kernel_rfl)) ?_
           try go_wp2
           go_meet
           case rel => exact ⟨_, (true), er, H', ⟨by have := HJ8.out; have := HJ46.out; first | omega | exact Nat.le_refl _⟩, ⟨blkd BK300⟩, ⟨blkd BK307⟩, ⟨blkd BK330⟩, ⟨blkd BK335⟩, ⟨blkd BK340⟩, ⟨belowg5 HB GE300 GE307 GE330 GE335 GE340⟩⟩
          ·rw [if_neg c121] at H
           have c121b0 : (!(t331 == t336) || (!(t332 == t337))) = false := by simpa using c121
           clear c121; replace H := bS H; obtain ⟨t341, A124, H⟩ := H
           replace H : ((spec_GoodWindow.f kj46 t327 t328).bind fun t342 => (laws_FnTakenOnce.j6 kj46 t329 t334 (t341 != t342) t327 t328 t331 t332)) = some r := H
           replace H := bS H; obtain ⟨t342, A125, H⟩ := H
           replace H : (laws_FnTakenOnce.j6 kj46 t329 t334 (t341 != t342) t327 t328 t331 t332) = some r := H
           have H' := Aside0.mk H
           clear H
           try go_wp2
           have n0_ : Aside0 (((w111.setCell ⟨gb340, 0, none⟩ (.int .i64 t336)).setCell ⟨gb340, 1, none⟩ (.int .i64 t337)).heap[gb300]? = some (.cells #[.int .i64 t297, .int .i64 t298] 80 (0, 0))) := ⟨by (with_reducible repeat (first | refine blk_drewN ?_ _ | refine blk_drew ?_ | refine blk_alloc ?_ _)); refine blk_far ?_ NB300_340.out _; (with_reducible repeat (first | refine blk_drewN ?_ _ | refine blk_drew ?_ | refine blk_alloc ?_ _)); refine blk_far ?_ NB300_340.out _; (with_reducible repeat (first | refine blk_drewN ?_ _ | refine blk_drew ?_ | refine blk_alloc ?_ _)); exact BK300.out⟩
           have n1_ : Aside0 (((w111.setCell ⟨gb340, 0, none⟩ (.int .i64 t336)).setCell ⟨gb340, 1, none⟩ (.int .i64 t337)).heap[gb307]? = some (.cells #[.int .i64 t304, .int .i64 t305] 80 (0, 0))) := ⟨by (with_reducible repeat (first | refine blk_drewN ?_ _ | refine blk_drew ?_ | refine blk_alloc ?_ _)); refine blk_far ?_ NB307_340.out _; (with_reducible repeat (first | refine blk_drewN ?_ _ | refine blk_drew ?_ | refine blk_alloc ?_ _)); refine blk_far ?_ NB307_340.out _; (with_reducible repeat (first | refine blk_drewN ?_ _ | refine blk_drew ?_ | refine blk_alloc ?_ _)); exact BK307.out⟩
           have n2_ : Aside0 (((w111.setCell ⟨gb340, 0, none⟩ (.int .i64 t336)).setCell ⟨gb340, 1, none⟩ (.int .i64 t337)).heap[gb330]? = some (.cells #[.int .i64 t327, .int .i64 t328] 80 (0, 0))) := ⟨by (with_reducible repeat (first | refine blk_drewN ?_ _ | refine blk_drew ?_ | refine blk_alloc ?_ _)); refine blk_far ?_ NB330_340.out _; (with_reducible repeat (first | refine blk_drewN ?_ _ | refine blk_drew ?_ | refine blk_alloc ?_ _)); refine blk_far ?_ NB330_340.out _; (with_reducible repeat (first | refine blk_drewN ?_ _ | refine blk_drew ?_ | refine blk_alloc ?_ _)); exact BK330.out⟩
           have n3_ : Aside0 (((w111.setCell ⟨gb340, 0, none⟩ (.int .i64 t336)).setCell ⟨gb340, 1, none⟩ (.int .i64 t337)).heap[gb335]? = some (.cells #[.int .i64 t331, .int .i64 t332] 80 (0, 0))) := ⟨by (with_reducible repeat (first | refine blk_drewN ?_ _ | refine blk_drew ?_ | refine blk_alloc ?_ _)); refine blk_far ?_ NB335_340.out _; (with_reducible repeat (first | refine blk_drewN ?_ _ | refine blk_drew ?_ | refine blk_alloc ?_ _)); refine blk_far ?_ NB335_340.out _; (with_reducible repeat (first | refine blk_drewN ?_ _ | refine blk_drew ?_ | refine blk_alloc ?_ _)); exact BK335.out⟩
           have n4_ : Aside0 (((w111.setCell ⟨gb340, 0, none⟩ (.int .i64 t336)).setCell ⟨gb340, 1, none⟩ (.int .i64 t337)).heap[gb340]? = some (.cells #[.int .i64 t336, .int .i64 t337] 80 (0, 0))) := ⟨by (with_reducible repeat (first | refine blk_drewN ?_ _ | refine blk_drew ?_ | refine blk_alloc ?_ _)); refine blk_put (cs := #[.int .i64 t336, .int .i64 0]) ?_ 1 _ rfl; (with_reducible repeat (first | refine blk_drewN ?_ _ | refine blk_drew ?_ | refine blk_alloc ?_ _)); refine blk_put (cs := #[.int .i64 0, .int .i64 0]) ?_ 0 _ rfl; (with_reducible repeat (first | refine blk_drewN ?_ _ | refine blk_drew ?_ | refine blk_alloc ?_ _)); exact BK340.out⟩
           have n5_ : Aside0 (Below w.heap.size w ((w111.setCell ⟨gb340, 0, none⟩ (.int .i64 t336)).setCell ⟨gb340, 1, none⟩ (.int .i64 t337))) := ⟨belowg5 HB GE300 GE307 GE330 GE335 GE340⟩
           (try clear BK300); (try clear BK307); (try clear BK330); (try clear BK335); (try clear BK340); (try clear HB)
           generalize ((w111.setCell ⟨gb340, 0, none⟩ (.int .i64 t336)).setCell ⟨gb340, 1, none⟩ (.int .i64 t337)) = w126 at n0_ n1_ n2_ n3_ n4_ n5_ ⊢
           have BK300 := n0_
           have BK307 := n1_
           have BK330 := n2_
           have BK335 := n3_
           have BK340 := n4_
           have HB := n5_
           clear n0_ n1_ n2_ n3_ n4_ n5_
           replace BK300 := ak (blk_drew BK300.out)
           replace BK307 := ak (blk_drew BK307.out)
           replace BK330 := ak (blk_drew BK330.out)
           replace BK335 := ak (blk_drew BK335.out)
           replace BK340 := ak (blk_drew BK340.out)
           replace HB := ak (below_drew1 HB.out)
           refine start_ (n := 20) (S := fun w' => w'.cell? ⟨gb335, 0, none⟩ = some (.int .i64 t331) ∧ w'.cell? ⟨gb335, 1, none⟩ = some (.int .i64 t332) ∧ w'.cell? ⟨gb340, 0, none⟩ = some (.int .i64 t336) ∧ w'.cell? ⟨gb340, 1, none⟩ = some (.int .i64 t337) ∧ w'.cell? ⟨gb330, 0, none⟩ = some (.int .i64 t327) ∧ w'.cell? ⟨gb330, 1, none⟩ = some (.int .i64 t328)) (ds := []) (bl 20 0) (by kernel_rfl) rfl rfl ⟨bq BK335 0, bq BK335 1, bq BK340 0, bq BK340 1, bq BK330 0, bq BK330 1⟩ (fun hHeld => ?_); refine with_tabW laws_FnTakenOnce.tab27 laws_FnTakenOnce.bits27 (fun HT_ HW_ => ?_)
           generalize w126.drew = w127 at BK300 BK307 BK330 BK335 BK340 HB hHeld ⊢
           refine pureA 0 (some 176) 20 1 HT_ ?_
           refine pureA 1 (some 177) 20 3 HT_ ?_
           refine pureA 2 (some 178) 20 7 HT_ ?_
           refine pureA 3 (some 179) 20 15 HT_ ?_
           refine pureA 4 (some 180) 20 31 HT_ ?_
           refine pureA 5 (some 181) 20 63 HT_ ?_
           refine pureA 6 (some 182) 20 127 HT_ ?_
           refine pureA 7 (some 183) 20 255 HT_ ?_
           refine pureA 8 (some 184) 20 511 HT_ ?_
           refine takeA 9 (some 185) 20 1023 HT_ HW_ hHeld ?_ (hy := by rintro w' ⟨s0, s1, s2, s3, s4, s5⟩; go_simp; with_reducible rfl)
           refine takeA 10 (some 186) 20 2047 HT_ HW_ hHeld ?_ (hy := by rintro w' ⟨s0, s1, s2, s3, s4, s5⟩; go_simp; with_reducible rfl)
           refine pureA 11 (some 187) 20 4095 HT_ ?_
           refine pureA 12 (some 188) 20 8191 HT_ ?_
           refine pureA 13 (some 189) 20 16383 HT_ ?_
           refine takeA 14 (some 190) 20 32767 HT_ HW_ hHeld ?_ (hy := by rintro w' ⟨s0, s1, s2, s3, s4, s5⟩; go_simp; with_reducible rfl)
           refine takeA 16 (some 192) 20 98303 HT_ HW_ hHeld ?_ (hy := by rintro w' ⟨s0, s1, s2, s3, s4, s5⟩; go_simp; with_reducible rfl)
           refine oneA 15 (some 191) 20 131071 HT_ (fun K hK => ?_)
           refine goes_ Try.func61 (by kernel_rfl) rfl #[.agg #[.int .i64 t327, .int .i64 t328]] (by rfl) rfl rfl (by (try simp only [List.map_toArray, List.map_cons, List.map_nil]); first | done | rfl | (simp only [List.length_drop, List.length_take]; rfl)) ?_
           with_reducible refine (impl_GoodWindow.calls t327 t328 t341 _ A124.out).mono ?_
           rintro e w128 ⟨rfl, hb⟩
           refine ⟨_, rfl, ?_⟩
           replace BK300 := ak (blk_below (blkd BK300) hb)
           replace BK307 := ak (blk_below (blkd BK307) hb)
           replace BK330 := ak (blk_below (blkd BK330) hb)
           replace BK335 := ak (blk_below (blkd BK335) hb)
           replace BK340 := ak (blk_below (blkd BK340) hb)
           replace HB := ak (below_step (belowg5 HB GE300 GE307 GE330 GE335 GE340) hb)
           (try clear hb); (try clear hb2); (try clear hk); (try clear hi)
           refine hK.out _ _ ⟨bq BK335 0, bq BK335 1, bq BK340 0, bq BK340 1, bq BK330 0, bq BK330 1⟩ (fun hHeld => ?_)
           clear hK K
           refine norm_ (a' := ?_) ?_ ?_
           rotate_left
           ·show Act.put _ (some 191) _ = _
            simp only [Act.put, List.setIfInBounds_toArray, List.set_cons_zero, List.set_cons_succ, i64_w, i32_w]
            rfl
           refine oneA 17 (some 193) 20 262143 HT_ (fun K hK => ?_)
           refine goes_ Try.func90 (by kernel_rfl) rfl #[.agg #[.int .i64 t327, .int .i64 t328]] (by rfl) rfl rfl (by (try simp only [List.map_toArray, List.map_cons, List.map_nil]); first | done | rfl | (simp only [List.length_drop, List.length_take]; rfl)) ?_
           with_reducible refine (spec_GoodWindow.calls kj46 t327 t328 t342 _ A125.out).mono ?_
           rintro e w129 ⟨rfl, hb⟩
           refine ⟨_, rfl, ?_⟩
           replace BK300 := ak (blk_below (blkd BK300) hb)
           replace BK307 := ak (blk_below (blkd BK307) hb)
           replace BK330 := ak (blk_below (blkd BK330) hb)
           replace BK335 := ak (blk_below (blkd BK335) hb)
           replace BK340 := ak (blk_below (blkd BK340) hb)
           replace HB := ak (below_step (belowg5 HB GE300 GE307 GE330 GE335 GE340) hb)
           (try clear hb); (try clear hb2); (try clear hk); (try clear hi)
           refine hK.out _ _ ⟨bq BK335 0, bq BK335 1, bq BK340 0, bq BK340 1, bq BK330 0, bq BK330 1⟩ (fun hHeld => ?_)
           clear hK K
           refine norm_ (a' := ?_) ?_ ?_
           rotate_left
           ·show Act.put _ (some 193) _ = _
            simp only [Act.put, List.setIfInBounds_toArray, List.set_cons_zero, List.set_cons_succ, i64_w, i32_w]
            rfl
           refine pureA 18 (some 194) 20 524287 HT_ ?_
           refine pureA 19 (some 195) 20 1048575 HT_ ?_
           refine done_ (done_of HT_.out (by kernel_rfl)) ?_
           try go_wp2
           go_meet
           case rel => exact ⟨_, ((t341 != t342)), er, H', ⟨by have := HJ8.out; have := HJ46.out; first | omega | exact Nat.le_refl _⟩, ⟨blkd BK300⟩, ⟨blkd BK307⟩, ⟨blkd BK330⟩, ⟨blkd BK335⟩, ⟨blkd BK340⟩, ⟨belowg5 HB GE300 GE307 GE330 GE335 GE340⟩⟩
         ·rw [if_neg c120] at H
          have c120b0 : (t333 == t338) = false := beq_eq_false_iff_ne.mpr c120
          have c120b1 : (t333 != t338) = true := bne_iff_ne.mpr c120
          have H' := Aside0.mk H
          clear H
          try go_wp2
          have n0_ : Aside0 (((w111.setCell ⟨gb340, 0, none⟩ (.int .i64 t336)).setCell ⟨gb340, 1, none⟩ (.int .i64 t337)).heap[gb300]? = some (.cells #[.int .i64 t297, .int .i64 t298] 80 (0, 0))) := ⟨by (with_reducible repeat (first | refine blk_drewN ?_ _ | refine blk_drew ?_ | refine blk_alloc ?_ _)); refine blk_far ?_ NB300_340.out _; (with_reducible repeat (first | refine blk_drewN ?_ _ | refine blk_drew ?_ | refine blk_alloc ?_ _)); refine blk_far ?_ NB300_340.out _; (with_reducible repeat (first | refine blk_drewN ?_ _ | refine blk_drew ?_ | refine blk_alloc ?_ _)); exact BK300.out⟩
          have n1_ : Aside0 (((w111.setCell ⟨gb340, 0, none⟩ (.int .i64 t336)).setCell ⟨gb340, 1, none⟩ (.int .i64 t337)).heap[gb307]? = some (.cells #[.int .i64 t304, .int .i64 t305] 80 (0, 0))) := ⟨by (with_reducible repeat (first | refine blk_drewN ?_ _ | refine blk_drew ?_ | refine blk_alloc ?_ _)); refine blk_far ?_ NB307_340.out _; (with_reducible repeat (first | refine blk_drewN ?_ _ | refine blk_drew ?_ | refine blk_alloc ?_ _)); refine blk_far ?_ NB307_340.out _; (with_reducible repeat (first | refine blk_drewN ?_ _ | refine blk_drew ?_ | refine blk_alloc ?_ _)); exact BK307.out⟩
          have n2_ : Aside0 (((w111.setCell ⟨gb340, 0, none⟩ (.int .i64 t336)).setCell ⟨gb340, 1, none⟩ (.int .i64 t337)).heap[gb330]? = some (.cells #[.int .i64 t327, .int .i64 t328] 80 (0, 0))) := ⟨by (with_reducible repeat (first | refine blk_drewN ?_ _ | refine blk_drew ?_ | refine blk_alloc ?_ _)); refine blk_far ?_ NB330_340.out _; (with_reducible repeat (first | refine blk_drewN ?_ _ | refine blk_drew ?_ | refine blk_alloc ?_ _)); refine blk_far ?_ NB330_340.out _; (with_reducible repeat (first | refine blk_drewN ?_ _ | refine blk_drew ?_ | refine blk_alloc ?_ _)); exact BK330.out⟩
          have n3_ : Aside0 (((w111.setCell ⟨gb340, 0, none⟩ (.int .i64 t336)).setCell ⟨gb340, 1, none⟩ (.int .i64 t337)).heap[gb335]? = some (.cells #[.int .i64 t331, .int .i64 t332] 80 (0, 0))) := ⟨by (with_reducible repeat (first | refine blk_drewN ?_ _ | refine blk_drew ?_ | refine blk_alloc ?_ _)); refine blk_far ?_ NB335_340.out _; (with_reducible repeat (first | refine blk_drewN ?_ _ | refine blk_drew ?_ | refine blk_alloc ?_ _)); refine blk_far ?_ NB335_340.out _; (with_reducible repeat (first | refine blk_drewN ?_ _ | refine blk_drew ?_ | refine blk_alloc ?_ _)); exact BK335.out⟩
          have n4_ : Aside0 (((w111.setCell ⟨gb340, 0, none⟩ (.int .i64 t336)).setCell ⟨gb340, 1, none⟩ (.int .i64 t337)).heap[gb340]? = some (.cells #[.int .i64 t336, .int .i64 t337] 80 (0, 0))) := ⟨by (with_reducible repeat (first | refine blk_drewN ?_ _ | refine blk_drew ?_ | refine blk_alloc ?_ _)); refine blk_put (cs := #[.int .i64 t336, .int .i64 0]) ?_ 1 _ rfl; (with_reducible repeat (first | refine blk_drewN ?_ _ | refine blk_drew ?_ | refine blk_alloc ?_ _)); refine blk_put (cs := #[.int .i64 0, .int .i64 0]) ?_ 0 _ rfl; (with_reducible repeat (first | refine blk_drewN ?_ _ | refine blk_drew ?_ | refine blk_alloc ?_ _)); exact BK340.out⟩
          have n5_ : Aside0 (Below w.heap.size w ((w111.setCell ⟨gb340, 0, none⟩ (.int .i64 t336)).setCell ⟨gb340, 1, none⟩ (.int .i64 t337))) := ⟨belowg5 HB GE300 GE307 GE330 GE335 GE340⟩
          (try clear BK300); (try clear BK307); (try clear BK330); (try clear BK335); (try clear BK340); (try clear HB)
          generalize ((w111.setCell ⟨gb340, 0, none⟩ (.int .i64 t336)).setCell ⟨gb340, 1, none⟩ (.int .i64 t337)) = w130 at n0_ n1_ n2_ n3_ n4_ n5_ ⊢
          have BK300 := n0_
          have BK307 := n1_
          have BK330 := n2_
          have BK335 := n3_
          have BK340 := n4_
          have HB := n5_
          clear n0_ n1_ n2_ n3_ n4_ n5_
          replace BK300 := ak (blk_drew BK300.out)
          replace BK307 := ak (blk_drew BK307.out)
          replace BK330 := ak (blk_drew BK330.out)
          replace BK335 := ak (blk_drew BK335.out)
          replace BK340 := ak (blk_drew BK340.out)
          replace HB := ak (below_drew1 HB.out)
          refine start_ (n := 20) (S := fun w' => True) (ds := []) (bl 20 0) (by kernel_rfl) rfl rfl trivial (fun hHeld => ?_); refine with_tabW laws_FnTakenOnce.tab27 laws_FnTakenOnce.bits27 (fun HT_ HW_ => ?_)
          generalize w130.drew = w131 at BK300 BK307 BK330 BK335 BK340 HB hHeld ⊢
          refine pureA 0 (some 176) 20 1 HT_ ?_
          refine pureA 1 (some 177) 20 3 HT_ ?_
          refine pureA 2 (some 178) 20 7 HT_ ?_
          refine pureA 3 (some 179) 20 15 HT_ ?_
          refine pureA 4 (some 180) 20 31 HT_ ?_
          refine pureA 5 (some 181) 20 63 HT_ ?_
          refine pureA 6 (some 182) 20 127 HT_ ?_
          refine pureA 7 (some 183) 20 255 HT_ ?_
          refine pureA 8 (some 184) 20 511 HT_ ?_
          refine pureB 9 (some 185) 20 1023 HT_ ?_
          refine pureB 10 (some 186) 20 2047 HT_ ?_
          refine pureB 11 (some 187) 20 4095 HT_ ?_
          refine pureA 12 (some 188) 20 8191 HT_ ?_
          refine pureA 13 (some 189) 20 16383 HT_ ?_
          refine pureB 14 (some 190) 20 32767 HT_ ?_
          refine pureB 15 (some 191) 20 65535 HT_ ?_
          refine pureB 16 (some 192) 20 131071 HT_ ?_
          refine pureB 17 (some 193) 20 262143 HT_ ?_
          refine pureB 18 (some 194) 20 524287 HT_ ?_
          refine pureA 19 (some 195) 20 1048575 HT_ ?_
          refine done_ (done_of HT_.out (by kernel_rfl)) ?_
          try go_wp2
          go_meet
          case rel => exact ⟨_, (true), er, H', ⟨by have := HJ8.out; have := HJ46.out; first | omega | exact Nat.le_refl _⟩, ⟨blkd BK300⟩, ⟨blkd BK307⟩, ⟨blkd BK330⟩, ⟨blkd BK335⟩, ⟨blkd BK340⟩, ⟨belowg5 HB GE300 GE307 GE330 GE335 GE340⟩⟩
       case rest => as_aux_lemma =>
        clear HC97; (try clear c1)
        obtain ⟨kq, x195_96, rfl, HA, HJ96, BK300, BK307, BK330, BK335, BK340, HB⟩ := hcut
        cases kq with
        | zero => exact absurd HA.out (by simp [laws_FnTakenOnce.j6])
        | succ kj96 =>
         have H := HA.out; clear HA
         simp only [laws_FnTakenOnce.j6] at H
         by_cases c132 : x195_96 = true
         ·subst c132
          have H1 : (some false) = some r := by rw [if_pos rfl] at H; exact H
          clear H
          have H := H1
          clear H1
          exact absurd (H.trans (congrArg some hr_)) (by simp)
         ·replace c132 := Bool.eq_false_iff.mpr c132
          subst c132
          have H1 : (if t334 = true then ((impl_TakeNumber.f t331 t332 t329).bind fun bt343 => ((impl_GoodWindow.f t331 t332).bind fun t348 => (if t348 = true then (if bt343.2.2.2 = true then (if bt343.2.2.1 > 0 then (if (bt343.1 == t331 && (bt343.2.1 == t332)) = true then (some (decide (t331 ≥ t327))) else (some false)) else (some false)) else (some false)) else (some false)))) else (some true)) = some r := by rw [if_neg (show ¬ (false = true) by decide)] at H; exact H
          clear H
          have H := H1
          clear H1
          by_cases c133 : t334 = true
          ·subst c133
           have H1 : ((impl_TakeNumber.f t331 t332 t329).bind fun bt343 => ((impl_GoodWindow.f t331 t332).bind fun t348 => (if t348 = true then (if bt343.2.2.2 = true then (if bt343.2.2.1 > 0 then (if (bt343.1 == t331 && (bt343.2.1 == t332)) = true then (some (decide (t331 ≥ t327))) else (some false)) else (some false)) else (some false)) else (some false)))) = some r := by rw [if_pos rfl] at H; exact H
           clear H
           have H := H1
           clear H1; replace H := bS H; obtain ⟨⟨t343, t344, t345, t346⟩, A134, H⟩ := H
           replace H : ((impl_GoodWindow.f t331 t332).bind fun t348 => (if t348 = true then (if t346 = true then (if t345 > 0 then (if (t343 == t331 && (t344 == t332)) = true then (some (decide (t331 ≥ t327))) else (some false)) else (some false)) else (some false)) else (some false))) = some r := H
           replace H := bS H; obtain ⟨t348, A135, H⟩ := H
           replace H : (if t348 = true then (if t346 = true then (if t345 > 0 then (if (t343 == t331 && (t344 == t332)) = true then (some (decide (t331 ≥ t327))) else (some false)) else (some false)) else (some false)) else (some false)) = some r := H
           by_cases c136 : t348 = true
           ·subst c136
            have H1 : (if t346 = true then (if t345 > 0 then (if (t343 == t331 && (t344 == t332)) = true then (some (decide (t331 ≥ t327))) else (some false)) else (some false)) else (some false)) = some r := by rw [if_pos rfl] at H; exact H
            clear H
            have H := H1
            clear H1
            by_cases c137 : t346 = true
            ·subst c137
             have H1 : (if t345 > 0 then (if (t343 == t331 && (t344 == t332)) = true then (some (decide (t331 ≥ t327))) else (some false)) else (some false)) = some r := by rw [if_pos rfl] at H; exact H
             clear H
             have H := H1
             clear H1
             by_cases c138 : t345 > 0
             ·rw [if_pos c138] at H
              have c138b0 : decide (0 < t345) = true := decide_eq_true c138
              clear c138
              by_cases c139 : (t343 == t331 && (t344 == t332)) = true
              ·rw [if_pos c139] at H
               have c139b0 : (t343 == t331 && (t344 == t332)) = true := c139
               (try (have c139b1 : decide (t343 = t331 && (t344 == t332)) = true := by simpa using c139))
               (try (have c139b2 : (t343 == t331 && (t344 == t332)) = true := by simpa using c139))
               clear c139
               obtain rfl := Option.some.inj H
               have hnb140 := NB335_300.out; have hnc140 := NB300_335.out; have hnb141 := NB335_307.out; have hnc141 := NB307_335.out; have hnb142 := NB335_330.out; have hnc142 := NB330_335.out; have hnb143 := NB335_340.out; have hnc143 := NB340_335.out; obtain ⟨hcz144_0, hcz144_1, hfz144_0, hfz144_1⟩ := box2 BK335
               go_wp2_with (first | ((with_reducible refine gate_callee (f := 88) rfl ?_); refine goesLa (some 200) rfl Try.func88 #[.agg #[.int .i64 t331, .int .i64 t332], .int .i64 t329] rfl ?_; (with_reducible refine (impl_TakeNumber.calls t331 t332 t329 t343 t344 t345 true _ A134.out).mono ?_); rintro e w145 ⟨rfl, hb⟩; refine ⟨_, rfl, ?_⟩; replace BK300 := ak (blk_below (blkd BK300) hb); replace BK307 := ak (blk_below (blkd BK307) hb); replace BK330 := ak (blk_below (blkd BK330) hb); replace BK335 := ak (blk_below (blkd BK335) hb); replace BK340 := ak (blk_below (blkd BK340) hb); replace HB := ak (below_step (belowg5 HB GE300 GE307 GE330 GE335 GE340) hb); (try clear hb)) | ((with_reducible refine gate_dst (N := 27) rfl ?_); (try (refine gate_guard (by rfl) ?_; dsimp only)); refine boxev 27 #[.int .i64 0, .int .i64 0] 80 ?_; intro gb347 hg w146 hbox hb; have BK347 := ak (hbox); have GW347 := ak (hgl hg (belowg5 HB GE300 GE307 GE330 GE335 GE340)); have GE347 := ak (hgl hg (belowg5 HB GE300 GE307 GE330 GE335 GE340)); replace HB := ak (below_step (belowg5 HB GE300 GE307 GE330 GE335 GE340) hb); have NB300_347 := ak ((by rw [hg]; exact Nat.ne_of_lt (blk_lt (blkd BK300)) : gb300 ≠ gb347)); have NB347_300 := ak ((by rw [hg]; exact Nat.ne_of_gt (blk_lt (blkd BK300)) : gb347 ≠ gb300)); replace BK300 := ak (blk_below (blkd BK300) hb); have NB307_347 := ak ((by rw [hg]; exact Nat.ne_of_lt (blk_lt (blkd BK307)) : gb307 ≠ gb347)); have NB347_307 := ak ((by rw [hg]; exact Nat.ne_of_gt (blk_lt (blkd BK307)) : gb347 ≠ gb307)); replace BK307 := ak (blk_below (blkd BK307) hb); have NB330_347 := ak ((by rw [hg]; exact Nat.ne_of_lt (blk_lt (blkd BK330)) : gb330 ≠ gb347)); have NB347_330 := ak ((by rw [hg]; exact Nat.ne_of_gt (blk_lt (blkd BK330)) : gb347 ≠ gb330)); replace BK330 := ak (blk_below (blkd BK330) hb); have NB335_347 := ak ((by rw [hg]; exact Nat.ne_of_lt (blk_lt (blkd BK335)) : gb335 ≠ gb347)); have NB347_335 := ak ((by rw [hg]; exact Nat.ne_of_gt (blk_lt (blkd BK335)) : gb347 ≠ gb335)); replace BK335 := ak (blk_below (blkd BK335) hb); have NB340_347 := ak ((by rw [hg]; exact Nat.ne_of_lt (blk_lt (blkd BK340)) : gb340 ≠ gb347)); have NB347_340 := ak ((by rw [hg]; exact Nat.ne_of_gt (blk_lt (blkd BK340)) : gb347 ≠ gb340)); replace BK340 := ak (blk_below (blkd BK340) hb); clear hb hbox hg; have hnb147 := NB347_300.out; have hnc147 := NB300_347.out; have hnb148 := NB347_307.out; have hnc148 := NB307_347.out; have hnb149 := NB347_330.out; have hnc149 := NB330_347.out; have hnb150 := NB347_335.out; have hnc150 := NB335_347.out; have hnb151 := NB347_340.out; have hnc151 := NB340_347.out; obtain ⟨hcz152_0, hcz152_1, hfz152_0, hfz152_1⟩ := box2 BK347; obtain ⟨hcz153_0, hcz153_1, hfz153_0, hfz153_1⟩ := box2 BK335) | ((with_reducible refine gate_callee (f := 61) rfl ?_); refine goesLa (some 205) rfl Try.func61 #[.agg #[.int .i64 t331, .int .i64 t332]] rfl ?_; (with_reducible refine (impl_GoodWindow.calls t331 t332 true _ A135.out).mono ?_); rintro e w154 ⟨rfl, hb⟩; refine ⟨_, rfl, ?_⟩; replace BK300 := ak (blk_below (g := gb300) (o := .cells #[.int .i64 t297, .int .i64 t298] 80 (0, 0)) (by (with_reducible repeat (first | refine blk_drewN ?_ _ | refine blk_drew ?_ | refine blk_alloc ?_ _)); refine blk_far ?_ NB300_347.out _; (with_reducible repeat (first | refine blk_drewN ?_ _ | refine blk_drew ?_ | refine blk_alloc ?_ _)); refine blk_far ?_ NB300_347.out _; (with_reducible repeat (first | refine blk_drewN ?_ _ | refine blk_drew ?_ | refine blk_alloc ?_ _)); exact BK300.out) hb); replace BK307 := ak (blk_below (g := gb307) (o := .cells #[.int .i64 t304, .int .i64 t305] 80 (0, 0)) (by (with_reducible repeat (first | refine blk_drewN ?_ _ | refine blk_drew ?_ | refine blk_alloc ?_ _)); refine blk_far ?_ NB307_347.out _; (with_reducible repeat (first | refine blk_drewN ?_ _ | refine blk_drew ?_ | refine blk_alloc ?_ _)); refine blk_far ?_ NB307_347.out _; (with_reducible repeat (first | refine blk_drewN ?_ _ | refine blk_drew ?_ | refine blk_alloc ?_ _)); exact BK307.out) hb); replace BK330 := ak (blk_below (g := gb330) (o := .cells #[.int .i64 t327, .int .i64 t328] 80 (0, 0)) (by (with_reducible repeat (first | refine blk_drewN ?_ _ | refine blk_drew ?_ | refine blk_alloc ?_ _)); refine blk_far ?_ NB330_347.out _; (with_reducible repeat (first | refine blk_drewN ?_ _ | refine blk_drew ?_ | refine blk_alloc ?_ _)); refine blk_far ?_ NB330_347.out _; (with_reducible repeat (first | refine blk_drewN ?_ _ | refine blk_drew ?_ | refine blk_alloc ?_ _)); exact BK330.out) hb); replace BK335 := ak (blk_below (g := gb335) (o := .cells #[.int .i64 t331, .int .i64 t332] 80 (0, 0)) (by (with_reducible repeat (first | refine blk_drewN ?_ _ | refine blk_drew ?_ | refine blk_alloc ?_ _)); refine blk_far ?_ NB335_347.out _; (with_reducible repeat (first | refine blk_drewN ?_ _ | refine blk_drew ?_ | refine blk_alloc ?_ _)); refine blk_far ?_ NB335_347.out _; (with_reducible repeat (first | refine blk_drewN ?_ _ | refine blk_drew ?_ | refine blk_alloc ?_ _)); exact BK335.out) hb); replace BK340 := ak (blk_below (g := gb340) (o := .cells #[.int .i64 t336, .int .i64 t337] 80 (0, 0)) (by (with_reducible repeat (first | refine blk_drewN ?_ _ | refine blk_drew ?_ | refine blk_alloc ?_ _)); refine blk_far ?_ NB340_347.out _; (with_reducible repeat (first | refine blk_drewN ?_ _ | refine blk_drew ?_ | refine blk_alloc ?_ _)); refine blk_far ?_ NB340_347.out _; (with_reducible repeat (first | refine blk_drewN ?_ _ | refine blk_drew ?_ | refine blk_alloc ?_ _)); exact BK340.out) hb); replace BK347 := ak (blk_below (g := gb347) (o := .cells #[.int .i64 t343, .int .i64 t344] 80 (0, 0)) (by (with_reducible repeat (first | refine blk_drewN ?_ _ | refine blk_drew ?_ | refine blk_alloc ?_ _)); refine blk_put (cs := #[.int .i64 t343, .int .i64 0]) ?_ 1 _ rfl; (with_reducible repeat (first | refine blk_drewN ?_ _ | refine blk_drew ?_ | refine blk_alloc ?_ _)); refine blk_put (cs := #[.int .i64 0, .int .i64 0]) ?_ 0 _ rfl; (with_reducible repeat (first | refine blk_drewN ?_ _ | refine blk_drew ?_ | refine blk_alloc ?_ _)); exact BK347.out) hb); replace HB := ak (below_step (belowg6 HB GE300 GE307 GE330 GE335 GE340 GE347) hb); (try clear hb); obtain ⟨hcz155_0, hcz155_1, hfz155_0, hfz155_1⟩ := box2 BK347; obtain ⟨hcz156_0, hcz156_1, hfz156_0, hfz156_1⟩ := box2 BK335; have hnb157 := NB330_300.out; have hnc157 := NB300_330.out; have hnb158 := NB330_307.out; have hnc158 := NB307_330.out; have hnb159 := NB330_340.out; have hnc159 := NB340_330.out; obtain ⟨hcz160_0, hcz160_1, hfz160_0, hfz160_1⟩ := box2 BK330))
               go_ret
               exact ⟨er2, belowg6 HB GE300 GE307 GE330 GE335 GE340 GE347⟩
              ·rw [if_neg c139] at H
               have c139b0 : (t343 == t331 && (t344 == t332)) = false := by simpa using c139
               (try (have c139b1 : decide (t343 = t331 && (t344 == t332)) = false := by simpa using c139))
               (try (have c139b2 : (t343 == t331 && (t344 == t332)) = false := by simpa using c139))
               (try (have c139b3 : ¬ (t343 = t331 && (t344 == t332)) := by simpa using c139))
               clear c139
               exact absurd (H.trans (congrArg some hr_)) (by simp)
             ·rw [if_neg c138] at H
              have c138b0 : decide (0 < t345) = false := decide_eq_false c138
              clear c138
              exact absurd (H.trans (congrArg some hr_)) (by simp)
            ·replace c137 := Bool.eq_false_iff.mpr c137
             subst c137
             have H1 : (some false) = some r := by rw [if_neg (show ¬ (false = true) by decide)] at H; exact H
             clear H
             have H := H1
             clear H1
             exact absurd (H.trans (congrArg some hr_)) (by simp)
           ·replace c136 := Bool.eq_false_iff.mpr c136
            subst c136
            have H1 : (some false) = some r := by rw [if_neg (show ¬ (false = true) by decide)] at H; exact H
            clear H
            have H := H1
            clear H1
            exact absurd (H.trans (congrArg some hr_)) (by simp)
          ·replace c133 := Bool.eq_false_iff.mpr c133
           subst c133
           have H1 : (some true) = some r := by rw [if_neg (show ¬ (false = true) by decide)] at H; exact H
           clear H
           have H := H1
           clear H1
           obtain rfl := Option.some.inj H
           go_wp2
           go_ret
           exact ⟨er2, belowg5 HB GE300 GE307 GE330 GE335 GE340⟩

/-- THE ONE PURE STATEMENT of laws_FnTakenOnce: yours. -/
def laws_FnTakenOnce.Pure : Prop := ∀ (l0 : List Int) (l1 : List Int), l0.length ≤ maxLen → l0.length * 1 ≤ 140737488351232 → (∀ x ∈ l0, (Lit.int .u8 x).wf = true) → l1.length ≤ maxLen → l1.length * 1 ≤ 140737488351232 → (∀ x ∈ l1, (Lit.int .u8 x).wf = true) → ∃ k, laws_FnTakenOnce.f k l0 l1 = some true
theorem laws_FnTakenOnce.walk (P : laws_FnTakenOnce.Pure) (a0 : Option Addr) (len0 cap0 : Nat) (z0 : List Int) (a1 : Option Addr) (len1 cap1 : Nat) (z1 : List Int) (w : World) (w0 : (a0 = none ∧ len0 = 0 ∧ cap0 = 0 ∧ z0 = []) ∨ ∃ x, a0 = some x ∧ len0 ≤ cap0 ∧ cap0 ≤ maxLen ∧ z0.length = cap0 ∧ (∀ i, i < z0.length → w.cell? (x.add i) = some (.int .u8 (z0.getD i 0))) ∧ ∀ n ∈ z0, (Lit.int .u8 n).wf = true) (y0 : len0 * 1 ≤ 140737488351232) (w1 : (a1 = none ∧ len1 = 0 ∧ cap1 = 0 ∧ z1 = []) ∨ ∃ x, a1 = some x ∧ len1 ≤ cap1 ∧ cap1 ≤ maxLen ∧ z1.length = cap1 ∧ (∀ i, i < z1.length → w.cell? (x.add i) = some (.int .u8 (z1.getD i 0))) ∧ ∀ n ∈ z1, (Lit.int .u8 n).wf = true) (y1 : len1 * 1 ≤ 140737488351232) :
  Calls Try.prog 14 #[.slice a0 len0 cap0, .slice a1 len1 cap1] w fun e w' => e = .returned (.bool true) ∧ Below w.heap.size w w' := by
 obtain ⟨l0, rfl, hr0, hm0, hw0, hc0⟩ := ReadsInt.ofRowC w0
 obtain ⟨l1, rfl, hr1, hm1, hw1, hc1⟩ := ReadsInt.ofRowC w1
 obtain ⟨k, h⟩ := P l0 l1 hm0 y0 hw0 hm1 y1 hw1
 refine (laws_FnTakenOnce.calls k _ _ l0 _ _ l1 true w (Kd.C_of_reads (d := (0 : Int)) (h1 := fun _ => rfl) hr0) hc0 (Kd.C_of_reads (d := (0 : Int)) (h1 := fun _ => rfl) hr1) hc1 h rfl).mono ?_
 rintro e w' ⟨rfl, hd⟩
 exact ⟨rfl, hd⟩

end Go.Proofs.Ytonejnaanklfjaa.QFnTakenOnce
